/-
 
-/
import Derived.Test.YthhndmlfgjcgpaaZRxB
namespace Go.Proofs.Ythhndmlfgjcgpaa.Sx
open Go
set_option maxRecDepth 20000
set_option linter.unusedVariables false
set_option linter.unusedSimpArgs false
theorem info109 : Try.prog.info? 109 = some Try.t109 := by kernel_rfl
theorem info123 : Try.prog.info? 123 = some Try.t123 := by kernel_rfl
theorem bld111_1_2 (x1 : Option Addr) (x2 : Int) (w : World) : (Instr.build 111 [(1, .pointer x1), (2, .int .i64 x2)].toArray).run Try.prog w = .ok (.agg [.slice none 0 0, .pointer x1, .int .i64 x2].toArray) w := by kernel_rfl
theorem bld123_  (w : World) : (Instr.build 123 [].toArray).run Try.prog w = .ok (.agg [.int .i64 0, .int .i64 0, .int .u8 0, .int .u32 0, .int .u32 0, .int .u16 0, .int .u16 0, .int .i64 0].toArray) w := by kernel_rfl
theorem bls109_1_0 (x0_0 : Int) (x0_1 : Int) (x0_2 : Int) (x0_3 : Int) (x0_4 : Int) (x0_5 : Int) (x0_6 : Int) (x0_7 : Int) (w : World) : (Instr.buildSlice 109 1 [(0, .agg [.int .i64 x0_0, .int .i64 x0_1, .int .u8 x0_2, .int .u32 x0_3, .int .u32 x0_4, .int .u16 x0_5, .int .u16 x0_6, .int .i64 x0_7].toArray)].toArray).run Try.prog w = .ok (.slice (some ⟨w.heap.size, 0, none⟩) 1 1) (w.alloc (.cells ([.int .i64 x0_0, .int .i64 x0_1, .int .u8 x0_2, .int .u32 x0_3, .int .u32 x0_4, .int .u16 x0_5, .int .u16 x0_6, .int .i64 x0_7] : List Value).toArray 123)) := by kernel_rfl
theorem bls126_1_0 (x0_0 : Int) (x0_1 : Int) (w : World) : (Instr.buildSlice 126 1 [(0, .agg [.int .i64 x0_0, .int .i64 x0_1].toArray)].toArray).run Try.prog w = .ok (.slice (some ⟨w.heap.size, 0, none⟩) 1 1) (w.alloc (.cells ([.int .i64 x0_0, .int .i64 x0_1] : List Value).toArray 112)) := by kernel_rfl
theorem eql112 (o1 o2 : Operand) (x_0 : Int) (x_1 : Int) (y_0 : Int) (y_1 : Int) (w : World) : (do eqGuard .eql 112 o1 o2 (.agg [.int .i64 x_0, .int .i64 x_1].toArray) (.agg [.int .i64 y_0, .int .i64 y_1].toArray); binOp .eql 112 (.agg [.int .i64 x_0, .int .i64 x_1].toArray) (.agg [.int .i64 y_0, .int .i64 y_1].toArray) : Sem Value).run Try.prog w = .ok (.bool (decide (x_0 = y_0 ∧ x_1 = y_1))) w := by
 by_cases h0 : x_0 = y_0
 ·
  skip
  by_cases h1 : x_1 = y_1
  ·
   simp [go_sem, h0, h1]
  ·
   simp [go_sem, h0, h1]
 ·
  simp [go_sem, h0]
theorem neq112 (o1 o2 : Operand) (x_0 : Int) (x_1 : Int) (y_0 : Int) (y_1 : Int) (w : World) : (do eqGuard .neq 112 o1 o2 (.agg [.int .i64 x_0, .int .i64 x_1].toArray) (.agg [.int .i64 y_0, .int .i64 y_1].toArray); binOp .neq 112 (.agg [.int .i64 x_0, .int .i64 x_1].toArray) (.agg [.int .i64 y_0, .int .i64 y_1].toArray) : Sem Value).run Try.prog w = .ok (.bool (!decide (x_0 = y_0 ∧ x_1 = y_1))) w := by
 by_cases h0 : x_0 = y_0
 ·
  skip
  by_cases h1 : x_1 = y_1
  ·
   simp [go_sem, h0, h1]
  ·
   simp [go_sem, h0, h1]
 ·
  simp [go_sem, h0]
theorem neq35 (o1 o2 : Operand) (x_0 : Int) (x_1 : Int) (x_2 : Int) (x_3 : Int) (x_4 : Int) (y_0 : Int) (y_1 : Int) (y_2 : Int) (y_3 : Int) (y_4 : Int) (w : World) : (do eqGuard .neq 35 o1 o2 (.agg [.int .u8 x_0, .int .u32 x_1, .int .u32 x_2, .int .u16 x_3, .int .u16 x_4].toArray) (.agg [.int .u8 y_0, .int .u32 y_1, .int .u32 y_2, .int .u16 y_3, .int .u16 y_4].toArray); binOp .neq 35 (.agg [.int .u8 x_0, .int .u32 x_1, .int .u32 x_2, .int .u16 x_3, .int .u16 x_4].toArray) (.agg [.int .u8 y_0, .int .u32 y_1, .int .u32 y_2, .int .u16 y_3, .int .u16 y_4].toArray) : Sem Value).run Try.prog w = .ok (.bool (!decide (x_0 = y_0 ∧ x_1 = y_1 ∧ x_2 = y_2 ∧ x_3 = y_3 ∧ x_4 = y_4))) w := by
 by_cases h0 : x_0 = y_0
 ·
  skip
  by_cases h1 : x_1 = y_1
  ·
   skip
   by_cases h2 : x_2 = y_2
   ·
    skip
    by_cases h3 : x_3 = y_3
    ·
     skip
     by_cases h4 : x_4 = y_4
     ·
      simp [go_sem, h0, h1, h2, h3, h4]
     ·
      simp [go_sem, h0, h1, h2, h3, h4]
    ·
     simp [go_sem, h0, h1, h2, h3]
   ·
    simp [go_sem, h0, h1, h2]
  ·
   simp [go_sem, h0, h1]
 ·
  simp [go_sem, h0]
abbrev rt : R6 := { R := 111, F := 123, A := 135, I := 3, B := 4 }
theorem Sep.r16J {t : R6} {b S n ba c : Nat} {T : Tb} {r : Option Addr} {l : List HP} {w : World} (hT : TF S n T) (hS : S ≤ 4096) (h : Sep (blk b [.slice r T.F.length c, .pointer (some ⟨ba, 0, none⟩), .int .i64 (n : Int)] t.R :: sls r T.F.length c t.F 8 (T.F.flatMap eF) :: rar t.A t.I t.B ba T.A :: l) w) : Sep (r16A t b S n T :: l) w := Sep.boxI (ba, r, c) ⟨hT, hS⟩ h
theorem RTurn_ok {k : Ky} {l : List HP} {w : World} (hR : Sep l w) : CallR Try.prog 62 [vK k] w (fun v w' => v = vK (trn k) ∧ Sep l w') := by
 refine enter Try.func62 rfl Try.ntmps62 (Nat.le_of_ble_eq_true rfl) ?_; intro aa hS
 refine wp_seq_k ?_; intro K946 hK946
 refine wp_region_lit ?_
 refine sB (Bbox hS hR rfl (by rfl) (by decide) ?_); clear hS hR; intro aa ww bb1 hS hR
 refine sB (Balloc hS hR info35 (by rfl) (by rfl) (by decide) ?_); clear hS hR; intro aa ww bb2 hS hR
 refine wpList_nil ?_
 refine hK946 _ _ ?_
 refine wp_seq_k ?_; intro K947 hK947
 refine wp_region_lit ?_
 revert aa
 refine qA hR rfl (fun _ hS => Yld.fieldAddr hS rfl 0 Try.underlying35 rfl rfl info5 (by decide)) ?_
 refine qA hR rfl (fun _ hS => Yld.load1 hS rfl Try.underlying5 rfl rdQ) ?_
 refine qA hR rfl (fun _ hS => Yld.fieldAddr hS rfl 2 Try.underlying35 rfl rfl info32 (by decide)) ?_
 refine qA hR rfl (fun _ hS => Yld.load1 hS rfl Try.underlying32 rfl rdQ) ?_
 refine qA hR rfl (fun _ hS => Yld.fieldAddr hS rfl 1 Try.underlying35 rfl rfl info32 (by decide)) ?_
 refine qA hR rfl (fun _ hS => Yld.load1 hS rfl Try.underlying32 rfl rdQ) ?_
 refine qA hR rfl (fun _ hS => Yld.fieldAddr hS rfl 4 Try.underlying35 rfl rfl info33 (by decide)) ?_
 refine qA hR rfl (fun _ hS => Yld.load1 hS rfl Try.underlying33 rfl rdQ) ?_
 refine qA hR rfl (fun _ hS => Yld.fieldAddr hS rfl 3 Try.underlying35 rfl rfl info33 (by decide)) ?_
 refine qA hR rfl (fun _ hS => Yld.load1 hS rfl Try.underlying33 rfl rdQ) ?_
 refine qA hR rfl (fun _ hS => Yld.build hS rfl (bld35_0_1_2_3_4 _ _ _ _ _)) ?_
 intro aa hS
 refine sB (Bstore hS hR rfl rfl (by rfl) info35 (by rfl) pkQ (by rfl) (Nat.le_of_ble_eq_true rfl) ?_); clear hR; intro ww hR
 refine wpList_nil ?_
 refine hK947 _ _ ?_
 refine wp_ret ?_
 repeat first | with_reducible refine thenR ?_ | with_reducible refine blockR ?_ | with_reducible refine scopeR ?_
 refine ret1 (fn := Try.f62) (e := .ret) (.inl rfl) Try.results62 hS hR ⟨_, (.agg rfl Try.underlying35 rfl info35 (Rds.cons (Rd.blk pkQ (by rfl)) (Rds.cons (Rd.blk pkQ (by rfl)) (Rds.cons (Rd.blk pkQ (by rfl)) (Rds.cons (Rd.blk pkQ (by rfl)) (Rds.cons (Rd.blk pkQ (by rfl)) (Rds.nil)))))) (by rfl)), ?_⟩
 try dsimp only [lay, List.set] at hR
 exact ⟨rfl, (hR.sub exQ)⟩
theorem RRight6_ok {m i : Int} {l : List HP} {w : World} (hR : Sep l w) : CallR Try.prog 25 [.int .i64 m, .int .i64 i] w (fun v w' => v = .bool (decide (1 ≤ m ∧ m ≤ 4096 ∧ 1 ≤ i ∧ i ≤ 8)) ∧ Sep l w') := by
 refine enter Try.func25 rfl Try.ntmps25 (Nat.le_of_ble_eq_true rfl) ?_; intro aa hS
 refine wp_seq_k ?_; intro K948 hK948
 refine wp_region_lit ?_
 revert aa
 refine qN hR ?_
 intro aa hS
 refine wpList_nil ?_
 refine hK948 _ _ ?_
 refine wp_seq_k ?_; intro K949 hK949
 refine wp_region_lit ?_
 revert aa
 refine qM hR ?_
 refine qA hR rfl (fun _ hS => Yld.geq hS rfl rfl) ?_
 refine qM hR ?_
 intro aa hS
 refine hS.splitB (t := 7) rfl ?_ ?_ <;> clear hS
 ·
  intro hg hS
  revert aa
  refine qMg hR ?_
  refine qAg hR rfl rfl rfl (fun _ hS => Yld.leq hS rfl rfl) ?_
  refine qA hR rfl (fun _ hS => Yld.pickT hS rfl rfl) ?_
  refine qM hR ?_
  intro aa hS
  refine hS.splitB (t := 11) rfl ?_ ?_ <;> clear hS
  ·
   intro hg hS
   revert aa
   refine qMg hR ?_
   refine qAg hR rfl rfl rfl (fun _ hS => Yld.geq hS rfl rfl) ?_
   refine qA hR rfl (fun _ hS => Yld.pickT hS rfl rfl) ?_
   refine qM hR ?_
   intro aa hS
   refine hS.splitB (t := 15) rfl ?_ ?_ <;> clear hS
   ·
    intro hg hS
    revert aa
    refine qMg hR ?_
    refine qAg hR rfl rfl rfl (fun _ hS => Yld.leq hS rfl rfl) ?_
    refine qA hR rfl (fun _ hS => Yld.pickT hS rfl rfl) ?_
    refine qN hR ?_
    intro aa hS
    refine wpList_nil ?_
    refine hK949 _ _ ?_
    refine wp_ret ?_
    repeat first | with_reducible refine thenR ?_ | with_reducible refine blockR ?_ | with_reducible refine scopeR ?_
    refine ret1 (fn := Try.f25) (e := .ret) (.inl rfl) Try.results25 hS hR ⟨_, (.tmp rfl), ?_⟩
    refine ⟨?_, hR⟩
    first | exact dec_no (by omega) | exact dec_iff (by constructor <;> intro h <;> omega)
   ·
    intro hg hS
    revert aa
    refine qZ ?_
    refine qZ ?_
    refine qA hR rfl (fun _ hS => Yld.pickF hS rfl rfl) ?_
    refine qN hR ?_
    intro aa hS
    refine wpList_nil ?_
    refine hK949 _ _ ?_
    refine wp_ret ?_
    repeat first | with_reducible refine thenR ?_ | with_reducible refine blockR ?_ | with_reducible refine scopeR ?_
    refine ret1 (fn := Try.f25) (e := .ret) (.inl rfl) Try.results25 hS hR ⟨_, (.tmp rfl), ?_⟩
    refine ⟨?_, hR⟩
    first | exact dec_no (by omega) | exact dec_iff (by constructor <;> intro h <;> omega)
  ·
   intro hg hS
   revert aa
   refine qZ ?_
   refine qZ ?_
   refine qA hR rfl (fun _ hS => Yld.pickF hS rfl rfl) ?_
   refine qM hR ?_
   refine qZ ?_
   refine qZ ?_
   refine qA hR rfl (fun _ hS => Yld.pickF hS rfl rfl) ?_
   refine qN hR ?_
   intro aa hS
   refine wpList_nil ?_
   refine hK949 _ _ ?_
   refine wp_ret ?_
   repeat first | with_reducible refine thenR ?_ | with_reducible refine blockR ?_ | with_reducible refine scopeR ?_
   refine ret1 (fn := Try.f25) (e := .ret) (.inl rfl) Try.results25 hS hR ⟨_, (.tmp rfl), ?_⟩
   refine ⟨?_, hR⟩
   first | exact dec_no (by omega) | exact dec_iff (by constructor <;> intro h <;> omega)
 ·
  intro hg hS
  revert aa
  refine qZ ?_
  refine qZ ?_
  refine qA hR rfl (fun _ hS => Yld.pickF hS rfl rfl) ?_
  refine qM hR ?_
  refine qZ ?_
  refine qZ ?_
  refine qA hR rfl (fun _ hS => Yld.pickF hS rfl rfl) ?_
  refine qM hR ?_
  refine qZ ?_
  refine qZ ?_
  refine qA hR rfl (fun _ hS => Yld.pickF hS rfl rfl) ?_
  refine qN hR ?_
  intro aa hS
  refine wpList_nil ?_
  refine hK949 _ _ ?_
  refine wp_ret ?_
  repeat first | with_reducible refine thenR ?_ | with_reducible refine blockR ?_ | with_reducible refine scopeR ?_
  refine ret1 (fn := Try.f25) (e := .ret) (.inl rfl) Try.results25 hS hR ⟨_, (.tmp rfl), ?_⟩
  refine ⟨?_, hR⟩
  first | exact dec_no (by omega) | exact dec_iff (by constructor <;> intro h <;> omega)
theorem RNew6_ok {S n : Nat} {l : List HP} {w : World} (hR : Sep l w) (h1 : 1 ≤ S) (h2 : S ≤ 4096) : CallR Try.prog 26 [.int .i64 (S : Int), .int .i64 (n : Int)] w (fun v w' => ∃ b, v = .pointer (some ⟨b, 0, none⟩) ∧ Sep (r16A rt b S n { F := [], A := Ar.new S } :: l) w') := by
 refine enter Try.func26 rfl Try.ntmps26 (Nat.le_of_ble_eq_true rfl) ?_; intro aa hS
 refine wp_seq_k ?_; intro K950 hK950
 refine wp_region_lit ?_
 revert aa
 refine qN hR ?_
 intro aa hS
 refine wpList_nil ?_
 refine hK950 _ _ ?_
 refine wp_seq_k ?_; intro K951 hK951
 refine wp_region_lit ?_
 revert aa
 refine qM hR ?_
 intro aa hS
 refine sB (Bcall hS rfl Try.call56 (RNew_ok (m := S) hR (by omega)) (by decide) ?_); clear hS; intro aa ww vv hS hp
 clear hR
 obtain ⟨br, rfl, hR⟩ := hp
 revert aa
 refine qM hR ?_
 refine qA hR rfl (fun _ hS => Yld.build hS rfl (bld111_1_2 _ _)) ?_
 intro aa hS
 refine sB (Bbox hS hR rfl (by rfl) (by decide) ?_); clear hS hR; intro aa ww bb9 hS hR
 revert aa
 refine qN hR ?_
 intro aa hS
 refine wpList_nil ?_
 refine hK951 _ _ ?_
 refine wp_ret ?_
 repeat first | with_reducible refine thenR ?_ | with_reducible refine blockR ?_ | with_reducible refine scopeR ?_
 refine ret1 (fn := Try.f26) (e := .ret) (.inl rfl) Try.results26 hS hR ⟨_, (.tmp rfl), ?_⟩
 try dsimp only [lay, List.set] at hR
 replace hR := hR.slsNil (T := 123) (sz := 8)
 change Sep (sls none 0 0 _ 8 (([] : List Fl).flatMap eF) :: _) _ at hR
 exact ⟨_, rfl, Sep.r16I (t := rt) (F := []) (A := Ar.new S) (r := none) (c := 0) (m := 0) (ba := br) (new_TI (n := n) h1 h2).tf h2 rfl (hR.sub exQ)⟩
set_option maxHeartbeats 2000000 in
theorem RFind_ok {T : Tb} {S n b : Nat} {l : List HP} {w : World} {k : Ky} (hR : Sep (r16A rt b S n T :: l) w) : CallR Try.prog 61 [.pointer (some ⟨b, 0, none⟩), vK k] w (fun v w' => v = fndV T.F k ∧ Sep (r16A rt b S n T :: l) w') := by
 refine enter Try.func61 rfl Try.ntmps61 (Nat.le_of_ble_eq_true rfl) ?_; intro aa hS
 obtain ⟨ba, r, c, hTF, hS4, hR⟩ := (hR.pk (r := r16A _ b _ _ _) pkQ).r16E
 have hFl := hTF.len
 have hrc := (hR.pk (r := sls r _ _ _ _ _) pkQ).slsLe.1
 refine wp_seq_k ?_; intro K952 hK952
 refine wp_region_lit ?_
 refine sB (Bbox hS hR rfl (by rfl) (by decide) ?_); clear hS hR; intro aa ww bb3 hS hR
 refine sB (Balloc hS hR info112 (by rfl) (by rfl) (by decide) ?_); clear hS hR; intro aa ww bb4 hS hR
 revert aa
 refine qN hR ?_
 refine qN hR ?_
 intro aa hS
 refine wpList_nil ?_
 refine hK952 _ _ ?_
 refine wp_seq_k ?_; intro K953 hK953
 refine wp_seq_k ?_; intro K954 hK954
 refine wp_region_lit ?_
 revert aa
 refine qN hR ?_
 intro aa hS
 refine wpList_nil ?_
 refine hK954 _ _ ?_
 refine wp_block ?_
 refine loopI (X := Nat) [(0, _), (3, _), (4, _)] (fun x => [(7, .int .i64 (x : Int))]) (fun x => []) _ (fun x => x ≤ T.F.length ∧ ∀ f ∈ T.F.take x, f.k ≠ k ∧ trn f.k ≠ k) (fun x => T.F.length - x) 0 ⟨Nat.zero_le _, by simp⟩ (hS.le (Le.cons rfl (Le.nilapp (Le.cons rfl (Le.cons rfl (Le.cons rfl (Le.nil _))))))) hR ?_
 clear hS hR; rintro i aa ww hI hS hR; dsimp only [List.cons_append, List.nil_append] at hI hS hR
 refine wp_seq_k ?_; intro K956 hK956
 refine wp_seq_k ?_; intro K957 hK957
 refine wp_region_lit ?_
 revert aa
 refine qM hR ?_
 refine qM hR ?_
 refine qA hR rfl (fun _ hS => Yld.nilCheck hS rfl) ?_
 refine qA hR rfl (fun _ hS => Yld.fieldAddr hS rfl 0 Try.underlying111 rfl rfl info109 (by decide)) ?_
 refine qA hR rfl (fun _ hS => Yld.load1 hS rfl Try.underlying109 rfl rdQ) ?_
 refine qA hR rfl (fun _ hS => Yld.len hS rfl Try.underlying109) ?_
 refine qA hR rfl (fun _ hS => Yld.lss hS rfl rfl) ?_
 intro aa hS
 refine wpList_nil ?_
 refine hK957 _ _ ?_
 refine hS.splitB (t := 14) rfl ?_ ?_ <;> clear hS
 ·
  intro hg hS
  obtain ⟨f, hfe⟩ : ∃ y : Fl, T.F[i]'(by omega) = y := ⟨_, rfl⟩
  have hil : i < T.F.length := by omega
  have hfm : f ∈ T.F := by rw [← hfe]; exact List.getElem_mem hil
  refine condT hS rfl ?_
  refine wp_skip ?_
  refine hK956 _ _ ?_
  refine wp_seq_k ?_; intro K958 hK958
  refine wp_block ?_
  refine wp_seq_k ?_; intro K959 hK959
  refine drawn krQ hR Ex.refl ?_; clear hR; intro ww hR hR0
  revert aa
  refine eA 0 rfl krQ (fun _ _ _ h => h) hR0 rfl (fun _ hS => Yld.move hS rfl) ?_
  refine eA 1 rfl krQ (fun _ _ _ h => h) hR0 rfl (fun _ hS => Yld.nilCheck hS rfl) ?_
  refine eA 2 rfl krQ (fun _ _ _ h => h) hR0 rfl (fun _ hS => Yld.fieldAddr hS rfl 0 Try.underlying111 rfl rfl info109 (by decide)) ?_
  refine eA 3 rfl krQ (fun _ _ _ h => h) hR0 rfl (fun _ hS => Yld.load1 hS rfl Try.underlying109 rfl rdQ) ?_
  refine eA 4 rfl krQ (fun _ _ _ h => h) hR0 rfl (fun _ hS => Yld.move hS rfl) ?_
  refine eA 5 rfl krQ (fun _ _ _ h => h) hR0 rfl (fun _ hS => ilQ 8 (i) Try.underlying109 info123) ?_
  refine eA 6 rfl krQ (fun _ _ _ h => h) hR0 rfl (fun _ hS => Yld.fieldAddr hS rfl 2 Try.underlying123 rfl rfl info35 (by decide)) ?_
  refine eA 7 rfl krQ (fun _ _ _ h => h) hR0 rfl (fun _ hS => Yld.loadAgg (vs := eK f.k) hS rfl Try.underlying35 rfl info35 (Rds.recPart (enc := eF) (xs := T.F) (k := i) (j := 2) (us := eK f.k) pkQ (by intro _; rfl) (by omega) (by rw [hfe]; rfl)) (by rfl)) ?_
  intro aa hS
  refine dA 8 rfl krQ krQ krQ (fun _ _ _ h => h) hS hR0 (Yld.loadAgg hS rfl Try.underlying35 rfl info35 rdsQ5 (by rfl)) (by decide) ?_; clear hS; intro aa hS
  revert aa
  refine eA 9 rfl krQ (fun _ _ _ h => h) hR0 rfl (fun _ hS => Yld.binRun hS rfl rfl (eql35 _ _ _ _ _ _ _ _ _ _ _ _)) ?_
  refine eA 10 rfl krQ (fun _ _ _ h => h) hR0 rfl (fun _ hS => Yld.move hS rfl) ?_
  intro aa hS
  refine hS.splitB (t := 27) rfl ?_ ?_ <;> clear hS
  ·
   intro hg hS
   have hyes : fndK T.F k = some f := (fndK_mem hTF).2 ⟨hfm, .inl (ky_eq.1 hg)⟩
   revert aa
   refine eZ 11 rfl hR0 ?_
   refine eZ 12 rfl hR0 ?_
   refine eZ 13 rfl hR0 ?_
   refine eZ 14 rfl hR0 ?_
   refine eZ 15 rfl hR0 ?_
   refine eZ 16 rfl hR0 ?_
   refine eZ 17 rfl hR0 ?_
   refine eZ 18 rfl hR0 ?_
   refine eZ 19 rfl hR0 ?_
   refine eZ 20 rfl hR0 ?_
   refine eZ 21 rfl hR0 ?_
   refine eA 22 rfl krQ (fun _ _ _ h => h) hR0 rfl (fun _ hS => Yld.pickT hS rfl rfl) ?_
   intro aa hS
   refine wpAnyH_done krQ ?_ _; clear hR0
   refine hK959 _ _ ?_
   refine condT hS rfl ?_
   refine wp_seq_k ?_; intro K960 hK960
   refine drawn krQ hR (Ex.of_pk (r := blk bb4 _ _) pkQ) ?_; clear hR; intro ww hR hR0
   revert aa
   refine eA 0 rfl krQ (fun _ _ _ h => h) hR0 rfl (fun _ hS => Yld.move hS rfl) ?_
   refine eA 1 rfl krQ (fun _ _ _ h => h) hR0 rfl (fun _ hS => Yld.nilCheck hS rfl) ?_
   refine eA 2 rfl krQ (fun _ _ _ h => h) hR0 rfl (fun _ hS => Yld.fieldAddr hS rfl 0 Try.underlying111 rfl rfl info109 (by decide)) ?_
   refine eA 3 rfl krQ (fun _ _ _ h => h) hR0 rfl (fun _ hS => Yld.load1 hS rfl Try.underlying109 rfl rdQ) ?_
   refine eA 4 rfl krQ (fun _ _ _ h => h) hR0 rfl (fun _ hS => Yld.move hS rfl) ?_
   refine eA 5 rfl krQ (fun _ _ _ h => h) hR0 rfl (fun _ hS => ilQ 8 (i) Try.underlying109 info123) ?_
   refine eA 6 rfl krQ (fun _ _ _ h => h) hR0 rfl (fun _ hS => Yld.fieldAddr hS rfl 0 Try.underlying123 rfl rfl info112 (by decide)) ?_
   refine eA 7 rfl krQ (fun _ _ _ h => h) hR0 rfl (fun _ hS => Yld.loadAgg (vs := [.int .i64 (f.s : Int), .int .i64 f.u]) hS rfl Try.underlying112 rfl info112 (Rds.recPart (enc := eF) (xs := T.F) (k := i) (j := 0) (us := [.int .i64 (f.s : Int), .int .i64 f.u]) pkQ (by intro _; rfl) (by omega) (by rw [hfe]; rfl)) (by rfl)) ?_
   refine eA 8 rfl krQ (fun _ _ _ h => h) hR0 rfl (fun _ hS => Yld.move hS rfl) ?_
   refine eA 9 rfl krQ (fun _ _ _ h => h) hR0 rfl (fun _ hS => Yld.nilCheck hS rfl) ?_
   refine eA 10 rfl krQ (fun _ _ _ h => h) hR0 rfl (fun _ hS => Yld.fieldAddr hS rfl 0 Try.underlying111 rfl rfl info109 (by decide)) ?_
   refine eA 11 rfl krQ (fun _ _ _ h => h) hR0 rfl (fun _ hS => Yld.load1 hS rfl Try.underlying109 rfl rdQ) ?_
   refine eA 12 rfl krQ (fun _ _ _ h => h) hR0 rfl (fun _ hS => Yld.move hS rfl) ?_
   refine eA 13 rfl krQ (fun _ _ _ h => h) hR0 rfl (fun _ hS => ilQ 8 (i) Try.underlying109 info123) ?_
   refine eA 14 rfl krQ (fun _ _ _ h => h) hR0 rfl (fun _ hS => Yld.fieldAddr hS rfl 2 Try.underlying123 rfl rfl info35 (by decide)) ?_
   refine eA 15 rfl krQ (fun _ _ _ h => h) hR0 rfl (fun _ hS => Yld.loadAgg (vs := eK f.k) hS rfl Try.underlying35 rfl info35 (Rds.recPart (enc := eF) (xs := T.F) (k := i) (j := 2) (us := eK f.k) pkQ (by intro _; rfl) (by omega) (by rw [hfe]; rfl)) (by rfl)) ?_
   intro aa hS
   refine dA 16 rfl krQ krQ krQ (fun _ _ _ h => h) hS hR0 (Yld.loadAgg hS rfl Try.underlying35 rfl info35 rdsQ5 (by rfl)) (by decide) ?_; clear hS; intro aa hS
   revert aa
   refine eA 17 rfl krQ (fun _ _ _ h => h) hR0 rfl (fun _ hS => Yld.binRun hS rfl rfl (neq35 _ _ _ _ _ _ _ _ _ _ _ _)) ?_
   intro aa hS
   refine dOne (i := 18) krQ ?_
   refine dop rfl (Bstore hS hR rfl rfl (by rfl) info112 (by rfl) pkQ (by rfl) (Nat.le_of_ble_eq_true rfl) ?_); clear hR hR0; intro ww hR
   refine dnext (hR.sub exQ) ?_; intro hR0
   revert aa
   refine eA 19 rfl krQ (fun _ _ _ h => h) hR0 rfl (fun _ hS => Yld.assign hS rfl) ?_
   refine eA 20 rfl krQ (fun _ _ _ h => h) hR0 rfl (fun _ hS => Yld.assign hS rfl) ?_
   intro aa hS
   refine wpAnyH_done krQ ?_ _; clear hR0
   refine hK960 _ _ ?_
   refine wp_ret ?_
   repeat first | with_reducible refine thenR ?_ | with_reducible refine blockR ?_ | with_reducible refine scopeR ?_
   refine retN (fn := Try.f61) (e := .ret) (.inl rfl) Try.results61 hS hR ⟨_, .cons (.agg rfl Try.underlying112 rfl info112 (Rds.cons (Rd.blk pkQ (by rfl)) (Rds.cons (Rd.blk pkQ (by rfl)) (Rds.nil))) (by rfl)) (.cons (.tmp rfl) (.cons (.tmp rfl) (.nil))), rfl, ?_⟩
   try dsimp only [lay, List.set] at hR
   rw [fndV_some hyes]
   refine ⟨?_, Sep.r16J (t := rt) (b := b) (n := n) (T := T) hTF hS4 (hR.sub exQ)⟩
   congr 3
   by_cases e : f.k = k
   ·
    rw [decide_eq_true (ky_eq.2 e), decide_eq_false (fun h => h e)]; rfl
   ·
    rw [decide_eq_false (fun h => e (ky_eq.1 h)), decide_eq_true e]; rfl
  ·
   intro hg hS
   have hn1 : f.k ≠ k := fun e => hg (ky_eq.2 e)
   revert aa
   refine eAg 11 rfl krQ (fun _ _ _ h => h) hR0 rfl rfl rfl (fun _ hS => Yld.move hS rfl) ?_
   refine eAg 12 rfl krQ (fun _ _ _ h => h) hR0 rfl rfl rfl (fun _ hS => Yld.nilCheck hS rfl) ?_
   refine eAg 13 rfl krQ (fun _ _ _ h => h) hR0 rfl rfl rfl (fun _ hS => Yld.fieldAddr hS rfl 0 Try.underlying111 rfl rfl info109 (by decide)) ?_
   refine eAg 14 rfl krQ (fun _ _ _ h => h) hR0 rfl rfl rfl (fun _ hS => Yld.load1 hS rfl Try.underlying109 rfl rdQ) ?_
   refine eAg 15 rfl krQ (fun _ _ _ h => h) hR0 rfl rfl rfl (fun _ hS => Yld.move hS rfl) ?_
   refine eAg 16 rfl krQ (fun _ _ _ h => h) hR0 rfl rfl rfl (fun _ hS => ilQ 8 (i) Try.underlying109 info123) ?_
   refine eAg 17 rfl krQ (fun _ _ _ h => h) hR0 rfl rfl rfl (fun _ hS => Yld.fieldAddr hS rfl 2 Try.underlying123 rfl rfl info35 (by decide)) ?_
   refine eAg 18 rfl krQ (fun _ _ _ h => h) hR0 rfl rfl rfl (fun _ hS => Yld.loadAgg (vs := eK f.k) hS rfl Try.underlying35 rfl info35 (Rds.recPart (enc := eF) (xs := T.F) (k := i) (j := 2) (us := eK f.k) pkQ (by intro _; rfl) (by omega) (by rw [hfe]; rfl)) (by rfl)) ?_
   intro aa hS
   refine dAg 20 rfl krQ krQ krQ (fun _ _ _ h => h) hS rfl rfl hR0 (Yld.loadAgg hS rfl Try.underlying35 rfl info35 rdsQ5 (by rfl)) (by decide) ?_; clear hS; intro aa hS
   refine dOne (i := 19) krQ ?_
   refine dopg rfl hS rfl rfl (Bcall hS rfl Try.call62 (RTurn_ok (k := f.k) hR) (by decide) ?_); clear hS; intro aa ww vv hS hp
   clear hR hR0
   obtain ⟨rfl, hR⟩ := hp
   refine dnext (hR.sub exQ) ?_; intro hR0
   revert aa
   refine eAg 21 rfl krQ (fun _ _ _ h => h) hR0 rfl rfl rfl (fun _ hS => Yld.binRun hS rfl rfl (eql35 _ _ _ _ _ _ _ _ _ _ _ _)) ?_
   refine eA 22 rfl krQ (fun _ _ _ h => h) hR0 rfl (fun _ hS => Yld.pickF hS rfl rfl) ?_
   intro aa hS
   refine wpAnyH_done krQ ?_ _; clear hR0
   refine hK959 _ _ ?_
   refine hS.splitB (t := 39) rfl ?_ ?_ <;> clear hS
   ·
    intro hg hS
    have hyes : fndK T.F k = some f := (fndK_mem hTF).2 ⟨hfm, .inr (ky_eq.1 hg)⟩
    refine condT hS rfl ?_
    refine wp_seq_k ?_; intro K961 hK961
    refine drawn krQ hR (Ex.of_pk (r := blk bb4 _ _) pkQ) ?_; clear hR; intro ww hR hR0
    revert aa
    refine eA 0 rfl krQ (fun _ _ _ h => h) hR0 rfl (fun _ hS => Yld.move hS rfl) ?_
    refine eA 1 rfl krQ (fun _ _ _ h => h) hR0 rfl (fun _ hS => Yld.nilCheck hS rfl) ?_
    refine eA 2 rfl krQ (fun _ _ _ h => h) hR0 rfl (fun _ hS => Yld.fieldAddr hS rfl 0 Try.underlying111 rfl rfl info109 (by decide)) ?_
    refine eA 3 rfl krQ (fun _ _ _ h => h) hR0 rfl (fun _ hS => Yld.load1 hS rfl Try.underlying109 rfl rdQ) ?_
    refine eA 4 rfl krQ (fun _ _ _ h => h) hR0 rfl (fun _ hS => Yld.move hS rfl) ?_
    refine eA 5 rfl krQ (fun _ _ _ h => h) hR0 rfl (fun _ hS => ilQ 8 (i) Try.underlying109 info123) ?_
    refine eA 6 rfl krQ (fun _ _ _ h => h) hR0 rfl (fun _ hS => Yld.fieldAddr hS rfl 0 Try.underlying123 rfl rfl info112 (by decide)) ?_
    refine eA 7 rfl krQ (fun _ _ _ h => h) hR0 rfl (fun _ hS => Yld.loadAgg (vs := [.int .i64 (f.s : Int), .int .i64 f.u]) hS rfl Try.underlying112 rfl info112 (Rds.recPart (enc := eF) (xs := T.F) (k := i) (j := 0) (us := [.int .i64 (f.s : Int), .int .i64 f.u]) pkQ (by intro _; rfl) (by omega) (by rw [hfe]; rfl)) (by rfl)) ?_
    refine eA 8 rfl krQ (fun _ _ _ h => h) hR0 rfl (fun _ hS => Yld.move hS rfl) ?_
    refine eA 9 rfl krQ (fun _ _ _ h => h) hR0 rfl (fun _ hS => Yld.nilCheck hS rfl) ?_
    refine eA 10 rfl krQ (fun _ _ _ h => h) hR0 rfl (fun _ hS => Yld.fieldAddr hS rfl 0 Try.underlying111 rfl rfl info109 (by decide)) ?_
    refine eA 11 rfl krQ (fun _ _ _ h => h) hR0 rfl (fun _ hS => Yld.load1 hS rfl Try.underlying109 rfl rdQ) ?_
    refine eA 12 rfl krQ (fun _ _ _ h => h) hR0 rfl (fun _ hS => Yld.move hS rfl) ?_
    refine eA 13 rfl krQ (fun _ _ _ h => h) hR0 rfl (fun _ hS => ilQ 8 (i) Try.underlying109 info123) ?_
    refine eA 14 rfl krQ (fun _ _ _ h => h) hR0 rfl (fun _ hS => Yld.fieldAddr hS rfl 2 Try.underlying123 rfl rfl info35 (by decide)) ?_
    refine eA 15 rfl krQ (fun _ _ _ h => h) hR0 rfl (fun _ hS => Yld.loadAgg (vs := eK f.k) hS rfl Try.underlying35 rfl info35 (Rds.recPart (enc := eF) (xs := T.F) (k := i) (j := 2) (us := eK f.k) pkQ (by intro _; rfl) (by omega) (by rw [hfe]; rfl)) (by rfl)) ?_
    intro aa hS
    refine dA 16 rfl krQ krQ krQ (fun _ _ _ h => h) hS hR0 (Yld.loadAgg hS rfl Try.underlying35 rfl info35 rdsQ5 (by rfl)) (by decide) ?_; clear hS; intro aa hS
    revert aa
    refine eA 17 rfl krQ (fun _ _ _ h => h) hR0 rfl (fun _ hS => Yld.binRun hS rfl rfl (neq35 _ _ _ _ _ _ _ _ _ _ _ _)) ?_
    intro aa hS
    refine dOne (i := 18) krQ ?_
    refine dop rfl (Bstore hS hR rfl rfl (by rfl) info112 (by rfl) pkQ (by rfl) (Nat.le_of_ble_eq_true rfl) ?_); clear hR hR0; intro ww hR
    refine dnext (hR.sub exQ) ?_; intro hR0
    revert aa
    refine eA 19 rfl krQ (fun _ _ _ h => h) hR0 rfl (fun _ hS => Yld.assign hS rfl) ?_
    refine eA 20 rfl krQ (fun _ _ _ h => h) hR0 rfl (fun _ hS => Yld.assign hS rfl) ?_
    intro aa hS
    refine wpAnyH_done krQ ?_ _; clear hR0
    refine hK961 _ _ ?_
    refine wp_ret ?_
    repeat first | with_reducible refine thenR ?_ | with_reducible refine blockR ?_ | with_reducible refine scopeR ?_
    refine retN (fn := Try.f61) (e := .ret) (.inl rfl) Try.results61 hS hR ⟨_, .cons (.agg rfl Try.underlying112 rfl info112 (Rds.cons (Rd.blk pkQ (by rfl)) (Rds.cons (Rd.blk pkQ (by rfl)) (Rds.nil))) (by rfl)) (.cons (.tmp rfl) (.cons (.tmp rfl) (.nil))), rfl, ?_⟩
    try dsimp only [lay, List.set] at hR
    rw [fndV_some hyes]
    refine ⟨?_, Sep.r16J (t := rt) (b := b) (n := n) (T := T) hTF hS4 (hR.sub exQ)⟩
    congr 3
    by_cases e : f.k = k
    ·
     rw [decide_eq_true (ky_eq.2 e), decide_eq_false (fun h => h e)]; rfl
    ·
     rw [decide_eq_false (fun h => e (ky_eq.1 h)), decide_eq_true e]; rfl
   ·
    intro hg hS
    have hnx := fno_next (F := T.F) (P := fun f => f.k ≠ k ∧ trn f.k ≠ k) hil hI.2 (by rw [hfe]; exact ⟨hn1, fun e => hg (ky_eq.2 e)⟩)
    refine condF hS rfl ?_
    refine wp_skip ?_
    refine hK958 _ _ ?_
    refine wp_region_lit ?_
    revert aa
    refine qM hR ?_
    intro aa hS
    refine sA hS hR adQ (by decide) ?_; clear hS; intro aa hS
    revert aa
    refine qN hR ?_
    intro aa hS
    refine wpList_nil ?_
    refine ⟨i + 1, ?_, ?_, hS.le (Le.cons rfl (Le.nilapp (Le.cons rfl (Le.cons rfl (Le.cons rfl (Le.nil _)))))), hR.sub (Ex.nilapp exQ)⟩
    ·
     exact ⟨by omega, hnx⟩
    ·
     omega
 ·
  intro hg hS
  have hno := fndK_none.2 (fno_all (F := T.F) (P := fun f => f.k ≠ k ∧ trn f.k ≠ k) (i := i) (by omega) hI.2)
  refine condF hS rfl ?_
  refine wp_exit ?_
  refine hK953 _ _ ?_
  refine wp_seq_k ?_; intro K962 hK962
  refine wp_region_lit ?_
  refine sA hS hR (Yld.build hS rfl (bld112_)) (by decide) ?_; clear hS; intro aa hS
  refine sB (Bstore hS hR rfl rfl (by rfl) info112 (by rfl) pkQ (by rfl) (Nat.le_of_ble_eq_true rfl) ?_); clear hR; intro ww hR
  revert aa
  refine qN hR ?_
  refine qN hR ?_
  intro aa hS
  refine wpList_nil ?_
  refine hK962 _ _ ?_
  refine wp_ret ?_
  repeat first | with_reducible refine thenR ?_ | with_reducible refine blockR ?_ | with_reducible refine scopeR ?_
  refine retN (fn := Try.f61) (e := .ret) (.inl rfl) Try.results61 hS hR ⟨_, .cons (.agg rfl Try.underlying112 rfl info112 (Rds.cons (Rd.blk pkQ (by rfl)) (Rds.cons (Rd.blk pkQ (by rfl)) (Rds.nil))) (by rfl)) (.cons (.tmp rfl) (.cons (.tmp rfl) (.nil))), rfl, ?_⟩
  try dsimp only [lay, List.set] at hR
  rw [fndV_none hno]
  exact ⟨rfl, Sep.r16J (t := rt) (b := b) (n := n) (T := T) hTF hS4 (hR.sub exQ)⟩
set_option maxHeartbeats 2000000 in
theorem RfAt_ok {T : Tb} {S n b : Nat} {l : List HP} {w : World} {s u : Int} (hR : Sep (r16A rt b S n T :: l) w) : CallR Try.prog 63 [.pointer (some ⟨b, 0, none⟩), .agg [.int .i64 s, .int .i64 u].toArray] w (fun v w' => v = atF T.F s u ∧ Sep (r16A rt b S n T :: l) w') := by
 refine enter Try.func63 rfl Try.ntmps63 (Nat.le_of_ble_eq_true rfl) ?_; intro aa hS
 obtain ⟨ba, r, c, hTF, hS4, hR⟩ := (hR.pk (r := r16A _ b _ _ _) pkQ).r16E
 have hFl := hTF.len
 have hrc := (hR.pk (r := sls r _ _ _ _ _) pkQ).slsLe.1
 refine wp_seq_k ?_; intro K963 hK963
 refine wp_region_lit ?_
 refine sB (Bbox hS hR rfl (by rfl) (by decide) ?_); clear hS hR; intro aa ww bb3 hS hR
 refine sB (Balloc hS hR info123 (by rfl) (by rfl) (by decide) ?_); clear hS hR; intro aa ww bb4 hS hR
 replace hR := hR.pk (r := blk bb4 _ _) pkQ
 change Sep (blk bb4 [.int .i64 0, .int .i64 0, .int .u8 0, .int .u32 0, .int .u32 0, .int .u16 0, .int .u16 0, .int .i64 0] 123 :: _) _ at hR
 revert aa
 refine qN hR ?_
 intro aa hS
 refine wpList_nil ?_
 refine hK963 _ _ ?_
 refine wp_seq_k ?_; intro K964 hK964
 refine wp_seq_k ?_; intro K965 hK965
 refine wp_region_lit ?_
 revert aa
 refine qN hR ?_
 intro aa hS
 refine wpList_nil ?_
 refine hK965 _ _ ?_
 refine wp_block ?_
 refine loopI (X := Nat) [(0, _), (3, _), (4, _)] (fun x => [(6, .int .i64 (x : Int))]) (fun x => []) _ (fun x => x ≤ T.F.length ∧ ∀ f ∈ T.F.take x, ¬ ((f.s : Int) = s ∧ f.u = u)) (fun x => T.F.length - x) 0 ⟨Nat.zero_le _, by simp⟩ (hS.le (Le.cons rfl (Le.nilapp (Le.cons rfl (Le.cons rfl (Le.cons rfl (Le.nil _))))))) hR ?_
 clear hS hR; rintro i aa ww hI hS hR; dsimp only [List.cons_append, List.nil_append] at hI hS hR
 refine wp_seq_k ?_; intro K967 hK967
 refine wp_seq_k ?_; intro K968 hK968
 refine wp_region_lit ?_
 revert aa
 refine qM hR ?_
 refine qM hR ?_
 refine qA hR rfl (fun _ hS => Yld.nilCheck hS rfl) ?_
 refine qA hR rfl (fun _ hS => Yld.fieldAddr hS rfl 0 Try.underlying111 rfl rfl info109 (by decide)) ?_
 refine qA hR rfl (fun _ hS => Yld.load1 hS rfl Try.underlying109 rfl rdQ) ?_
 refine qA hR rfl (fun _ hS => Yld.len hS rfl Try.underlying109) ?_
 refine qA hR rfl (fun _ hS => Yld.lss hS rfl rfl) ?_
 intro aa hS
 refine wpList_nil ?_
 refine hK968 _ _ ?_
 refine hS.splitB (t := 13) rfl ?_ ?_ <;> clear hS
 ·
  intro hg hS
  obtain ⟨f, hfe⟩ : ∃ y : Fl, T.F[i]'(by omega) = y := ⟨_, rfl⟩
  have hil : i < T.F.length := by omega
  have hfm : f ∈ T.F := by rw [← hfe]; exact List.getElem_mem hil
  refine condT hS rfl ?_
  refine wp_skip ?_
  refine hK967 _ _ ?_
  refine wp_seq_k ?_; intro K969 hK969
  refine wp_block ?_
  refine wp_seq_k ?_; intro K970 hK970
  refine drawn krQ hR Ex.refl ?_; clear hR; intro ww hR hR0
  revert aa
  refine eA 0 rfl krQ (fun _ _ _ h => h) hR0 rfl (fun _ hS => Yld.move hS rfl) ?_
  refine eA 1 rfl krQ (fun _ _ _ h => h) hR0 rfl (fun _ hS => Yld.nilCheck hS rfl) ?_
  refine eA 2 rfl krQ (fun _ _ _ h => h) hR0 rfl (fun _ hS => Yld.fieldAddr hS rfl 0 Try.underlying111 rfl rfl info109 (by decide)) ?_
  refine eA 3 rfl krQ (fun _ _ _ h => h) hR0 rfl (fun _ hS => Yld.load1 hS rfl Try.underlying109 rfl rdQ) ?_
  refine eA 4 rfl krQ (fun _ _ _ h => h) hR0 rfl (fun _ hS => Yld.move hS rfl) ?_
  refine eA 5 rfl krQ (fun _ _ _ h => h) hR0 rfl (fun _ hS => ilQ 8 (i) Try.underlying109 info123) ?_
  refine eA 6 rfl krQ (fun _ _ _ h => h) hR0 rfl (fun _ hS => Yld.fieldAddr hS rfl 0 Try.underlying123 rfl rfl info112 (by decide)) ?_
  refine eA 7 rfl krQ (fun _ _ _ h => h) hR0 rfl (fun _ hS => Yld.loadAgg (vs := [.int .i64 (f.s : Int), .int .i64 f.u]) hS rfl Try.underlying112 rfl info112 (Rds.recPart (enc := eF) (xs := T.F) (k := i) (j := 0) (us := [.int .i64 (f.s : Int), .int .i64 f.u]) pkQ (by intro _; rfl) (by omega) (by rw [hfe]; rfl)) (by rfl)) ?_
  intro aa hS
  refine dA 8 rfl krQ krQ krQ (fun _ _ _ h => h) hS hR0 (Yld.loadAgg hS rfl Try.underlying112 rfl info112 rdsQ2 (by rfl)) (by decide) ?_; clear hS; intro aa hS
  revert aa
  refine eA 9 rfl krQ (fun _ _ _ h => h) hR0 rfl (fun _ hS => Yld.binRun hS rfl rfl (eql112 _ _ _ _ _ _)) ?_
  intro aa hS
  refine wpAnyH_done krQ ?_ _; clear hR0
  refine hK970 _ _ ?_
  refine hS.splitB (t := 25) rfl ?_ ?_ <;> clear hS
  ·
   intro hg hS
   have hyes : getF T.F s u = some f := (getF_mem hTF).2 ⟨hfm, hg⟩
   refine condT hS rfl ?_
   refine wp_seq_k ?_; intro K971 hK971
   refine wp_region_lit ?_
   revert aa
   refine qM hR ?_
   refine qA hR rfl (fun _ hS => Yld.nilCheck hS rfl) ?_
   refine qA hR rfl (fun _ hS => Yld.fieldAddr hS rfl 0 Try.underlying111 rfl rfl info109 (by decide)) ?_
   refine qA hR rfl (fun _ hS => Yld.load1 hS rfl Try.underlying109 rfl rdQ) ?_
   refine qM hR ?_
   refine qA hR rfl (fun _ hS => ilQ 8 (i) Try.underlying109 info123) ?_
   refine qA hR rfl (fun _ hS => Yld.loadAgg (vs := eF f) hS rfl Try.underlying123 rfl info123 (hfe ▸ Rds.rec (enc := eF) (xs := T.F) (k := i) pkQ (by intro _; rfl) (by omega)) (by rfl)) ?_
   intro aa hS
   refine sB (Bstore hS hR rfl rfl (by rfl) info123 (by rfl) pkQ (by rfl) (Nat.le_of_ble_eq_true rfl) ?_); clear hR; intro ww hR
   revert aa
   refine qN hR ?_
   intro aa hS
   refine wpList_nil ?_
   refine hK971 _ _ ?_
   refine wp_ret ?_
   repeat first | with_reducible refine thenR ?_ | with_reducible refine blockR ?_ | with_reducible refine scopeR ?_
   refine retN (fn := Try.f63) (e := .ret) (.inl rfl) Try.results63 hS hR ⟨_, .cons (.agg rfl Try.underlying123 rfl info123 (Rds.cons (Rd.blk pkQ (by rfl)) (Rds.cons (Rd.blk pkQ (by rfl)) (Rds.cons (Rd.blk pkQ (by rfl)) (Rds.cons (Rd.blk pkQ (by rfl)) (Rds.cons (Rd.blk pkQ (by rfl)) (Rds.cons (Rd.blk pkQ (by rfl)) (Rds.cons (Rd.blk pkQ (by rfl)) (Rds.cons (Rd.blk pkQ (by rfl)) (Rds.nil))))))))) (by rfl)) (.cons (.tmp rfl) (.nil)), rfl, ?_⟩
   try dsimp only [lay, List.set] at hR
   unfold atF
   rw [hyes]
   exact ⟨rfl, Sep.r16J (t := rt) (b := b) (n := n) (T := T) hTF hS4 (hR.sub exQ)⟩
  ·
   intro hg hS
   have hnx := fno_next (F := T.F) (P := fun f => ¬ ((f.s : Int) = s ∧ f.u = u)) hil hI.2 (by rw [hfe]; exact hg)
   refine condF hS rfl ?_
   refine wp_skip ?_
   refine hK969 _ _ ?_
   refine wp_region_lit ?_
   revert aa
   refine qM hR ?_
   intro aa hS
   refine sA hS hR adQ (by decide) ?_; clear hS; intro aa hS
   revert aa
   refine qN hR ?_
   intro aa hS
   refine wpList_nil ?_
   refine ⟨i + 1, ?_, ?_, hS.le (Le.cons rfl (Le.nilapp (Le.cons rfl (Le.cons rfl (Le.cons rfl (Le.nil _)))))), hR.sub (Ex.nilapp exQ)⟩
   ·
    exact ⟨by omega, hnx⟩
   ·
    omega
 ·
  intro hg hS
  have hno := getF_no (fno_all (F := T.F) (P := fun f => ¬ ((f.s : Int) = s ∧ f.u = u)) (i := i) (by omega) hI.2)
  refine condF hS rfl ?_
  refine wp_exit ?_
  refine hK964 _ _ ?_
  refine wp_seq_k ?_; intro K972 hK972
  refine wp_region_lit ?_
  refine sA hS hR (Yld.build hS rfl (bld123_)) (by decide) ?_; clear hS; intro aa hS
  refine sB (Bstore hS hR rfl rfl (by rfl) info123 (by rfl) pkQ (by rfl) (Nat.le_of_ble_eq_true rfl) ?_); clear hR; intro ww hR
  revert aa
  refine qN hR ?_
  intro aa hS
  refine wpList_nil ?_
  refine hK972 _ _ ?_
  refine wp_ret ?_
  repeat first | with_reducible refine thenR ?_ | with_reducible refine blockR ?_ | with_reducible refine scopeR ?_
  refine retN (fn := Try.f63) (e := .ret) (.inl rfl) Try.results63 hS hR ⟨_, .cons (.agg rfl Try.underlying123 rfl info123 (Rds.cons (Rd.blk pkQ (by rfl)) (Rds.cons (Rd.blk pkQ (by rfl)) (Rds.cons (Rd.blk pkQ (by rfl)) (Rds.cons (Rd.blk pkQ (by rfl)) (Rds.cons (Rd.blk pkQ (by rfl)) (Rds.cons (Rd.blk pkQ (by rfl)) (Rds.cons (Rd.blk pkQ (by rfl)) (Rds.cons (Rd.blk pkQ (by rfl)) (Rds.nil))))))))) (by rfl)) (.cons (.tmp rfl) (.nil)), rfl, ?_⟩
  try dsimp only [lay, List.set] at hR
  unfold atF
  rw [hno]
  exact ⟨rfl, Sep.r16J (t := rt) (b := b) (n := n) (T := T) hTF hS4 (hR.sub exQ)⟩
set_option maxHeartbeats 2000000 in
theorem RfWio_ok {T : Tb} {S n b : Nat} {l : List HP} {w : World} {s u : Int} (hR : Sep (r16A rt b S n T :: l) w) : CallR Try.prog 84 [.pointer (some ⟨b, 0, none⟩), .agg [.int .i64 s, .int .i64 u].toArray] w (fun v w' => ∃ r c, v = .slice r (wioF T.F s u).length c ∧ Sep (sls r (wioF T.F s u).length c 123 8 ((wioF T.F s u).flatMap eF) :: r16A rt b S n T :: l) w') := by
 refine enter Try.func84 rfl Try.ntmps84 (Nat.le_of_ble_eq_true rfl) ?_; intro aa hS
 obtain ⟨ba, r, c, hTF, hS4, hR⟩ := (hR.pk (r := r16A _ b _ _ _) pkQ).r16E
 have hFl := hTF.len
 have hrc := (hR.pk (r := sls r _ _ _ _ _) pkQ).slsLe.1
 refine wp_seq_k ?_; intro K973 hK973
 refine wp_region_lit ?_
 refine sB (Bbox hS hR rfl (by rfl) (by decide) ?_); clear hS hR; intro aa ww bb3 hS hR
 revert aa
 refine qN hR ?_
 intro aa hS
 refine wpList_nil ?_
 refine hK973 _ _ ?_
 refine wp_seq_k ?_; intro K974 hK974
 refine wp_region_lit ?_
 revert aa
 refine qN hR ?_
 intro aa hS
 refine wpList_nil ?_
 refine hK974 _ _ ?_
 refine wp_seq_k ?_; intro K975 hK975
 refine wp_seq_k ?_; intro K976 hK976
 refine wp_region_lit ?_
 revert aa
 refine qN hR ?_
 intro aa hS
 refine wpList_nil ?_
 refine hK976 _ _ ?_
 refine wp_block ?_
 replace hR := hR.slsNil (T := 123) (sz := 8)
 replace hR := hR.pk (r := sls none 0 0 123 8 []) pkQ
 refine loopI (X := Nat × Option Addr × Nat) [(0, _), (3, _), (4, _)] (fun x => [(5, .slice x.2.1 (wioF (T.F.take x.1) s u).length x.2.2), (6, .int .i64 (x.1 : Int))]) (fun x => [sls x.2.1 (wioF (T.F.take x.1) s u).length x.2.2 123 8 ((wioF (T.F.take x.1) s u).flatMap eF)]) _ (fun x => x.1 ≤ T.F.length) (fun x => T.F.length - x.1) (0, none, 0) (Nat.zero_le _) (hS.le (Le.cons rfl (Le.cons rfl (Le.nilapp (Le.cons rfl (Le.cons rfl (Le.cons rfl (Le.nil _)))))))) hR ?_
 clear hS hR; rintro ⟨i, r0, c0⟩ aa ww hI hS hR; dsimp only [List.cons_append, List.nil_append] at hI hS hR
 refine wp_seq_k ?_; intro K978 hK978
 refine wp_seq_k ?_; intro K979 hK979
 refine wp_region_lit ?_
 revert aa
 refine qM hR ?_
 refine qM hR ?_
 refine qA hR rfl (fun _ hS => Yld.nilCheck hS rfl) ?_
 refine qA hR rfl (fun _ hS => Yld.fieldAddr hS rfl 0 Try.underlying111 rfl rfl info109 (by decide)) ?_
 refine qA hR rfl (fun _ hS => Yld.load1 hS rfl Try.underlying109 rfl rdQ) ?_
 refine qA hR rfl (fun _ hS => Yld.len hS rfl Try.underlying109) ?_
 refine qA hR rfl (fun _ hS => Yld.lss hS rfl rfl) ?_
 intro aa hS
 refine wpList_nil ?_
 refine hK979 _ _ ?_
 refine hS.splitB (t := 13) rfl ?_ ?_ <;> clear hS
 ·
  intro hg hS
  obtain ⟨f, hfe⟩ : ∃ y : Fl, T.F[i]'(by omega) = y := ⟨_, rfl⟩
  have hil : i < T.F.length := by omega
  have hfm : f ∈ T.F := by rw [← hfe]; exact List.getElem_mem hil
  have hwn := wio_next (F := T.F) (s := s) (u := u) hil
  rw [hfe] at hwn
  have hwl : (wioF (T.F.take i) s u).length ≤ i := Nat.le_trans wio_len (by rw [List.length_take]; omega)
  refine condT hS rfl ?_
  refine wp_skip ?_
  refine hK978 _ _ ?_
  refine wp_seq_k ?_; intro K980 hK980
  refine wp_block ?_
  refine wp_seq_k ?_; intro K981 hK981
  refine drawn krQ hR Ex.refl ?_; clear hR; intro ww hR hR0
  revert aa
  refine eA 0 rfl krQ (fun _ _ _ h => h) hR0 rfl (fun _ hS => Yld.move hS rfl) ?_
  refine eA 1 rfl krQ (fun _ _ _ h => h) hR0 rfl (fun _ hS => Yld.nilCheck hS rfl) ?_
  refine eA 2 rfl krQ (fun _ _ _ h => h) hR0 rfl (fun _ hS => Yld.fieldAddr hS rfl 0 Try.underlying111 rfl rfl info109 (by decide)) ?_
  refine eA 3 rfl krQ (fun _ _ _ h => h) hR0 rfl (fun _ hS => Yld.load1 hS rfl Try.underlying109 rfl rdQ) ?_
  refine eA 4 rfl krQ (fun _ _ _ h => h) hR0 rfl (fun _ hS => Yld.move hS rfl) ?_
  refine eA 5 rfl krQ (fun _ _ _ h => h) hR0 rfl (fun _ hS => ilQ 8 (i) Try.underlying109 info123) ?_
  refine eA 6 rfl krQ (fun _ _ _ h => h) hR0 rfl (fun _ hS => Yld.fieldAddr hS rfl 0 Try.underlying123 rfl rfl info112 (by decide)) ?_
  refine eA 7 rfl krQ (fun _ _ _ h => h) hR0 rfl (fun _ hS => Yld.loadAgg (vs := [.int .i64 (f.s : Int), .int .i64 f.u]) hS rfl Try.underlying112 rfl info112 (Rds.recPart (enc := eF) (xs := T.F) (k := i) (j := 0) (us := [.int .i64 (f.s : Int), .int .i64 f.u]) pkQ (by intro _; rfl) (by omega) (by rw [hfe]; rfl)) (by rfl)) ?_
  intro aa hS
  refine dA 8 rfl krQ krQ krQ (fun _ _ _ h => h) hS hR0 (Yld.loadAgg hS rfl Try.underlying112 rfl info112 rdsQ2 (by rfl)) (by decide) ?_; clear hS; intro aa hS
  revert aa
  refine eA 9 rfl krQ (fun _ _ _ h => h) hR0 rfl (fun _ hS => Yld.binRun hS rfl rfl (neq112 _ _ _ _ _ _)) ?_
  intro aa hS
  refine wpAnyH_done krQ ?_ _; clear hR0
  refine hK981 _ _ ?_
  refine hS.splitB (t := 25) rfl ?_ ?_ <;> clear hS
  ·
   intro hg hS
   rw [if_neg hg] at hwn
   refine condT hS rfl ?_
   refine wp_region_lit ?_
   revert aa
   refine qM hR ?_
   refine qM hR ?_
   refine qA hR rfl (fun _ hS => Yld.nilCheck hS rfl) ?_
   refine qA hR rfl (fun _ hS => Yld.fieldAddr hS rfl 0 Try.underlying111 rfl rfl info109 (by decide)) ?_
   refine qA hR rfl (fun _ hS => Yld.load1 hS rfl Try.underlying109 rfl rdQ) ?_
   refine qM hR ?_
   refine qA hR rfl (fun _ hS => ilQ 8 (i) Try.underlying109 info123) ?_
   refine qA hR rfl (fun _ hS => Yld.loadAgg (vs := eF f) hS rfl Try.underlying123 rfl info123 (hfe ▸ Rds.rec (enc := eF) (xs := T.F) (k := i) pkQ (by intro _; rfl) (by omega)) (by rfl)) ?_
   intro aa hS
   refine sB (BbuildSlice hS hR rfl (bls109_1_0 _ _ _ _ _ _ _ _) (by decide) ?_); clear hS hR; intro aa ww bb34 hS hR
   refine sB (BappendR (sz := 8) hS hR rfl rfl Try.underlying109 info123 rfl rfl (by rfl) pkQ (XC.one (f) pkQ (by rfl) rfl) (by intro _; rfl) (by show (_ + _) * 40 ≤ _; exact lenQ) lenQ (by first | rfl | (simp; done) | (simp; omega)) (by decide) ?_); clear hS hR; intro aa ww r35 c35 hS hR
   rw [← hwn] at hS hR
   revert aa
   refine qN hR ?_
   intro aa hS
   refine wpList_nil ?_
   refine hK980 _ _ ?_
   refine wp_region_lit ?_
   revert aa
   refine qM hR ?_
   intro aa hS
   refine sA hS hR adQ (by decide) ?_; clear hS; intro aa hS
   revert aa
   refine qN hR ?_
   intro aa hS
   refine wpList_nil ?_
   refine ⟨(i + 1, _, _), ?_, ?_, hS.le (Le.cons rfl (Le.cons rfl (Le.nilapp (Le.cons rfl (Le.cons rfl (Le.cons rfl (Le.nil _))))))), hR.sub (Ex.take pkQ (Ex.nilapp exQ))⟩
   ·
    dsimp only; omega
   ·
    dsimp only; omega
  ·
   intro hg hS
   rw [if_pos hg] at hwn
   rw [← hwn] at hS hR
   refine condF hS rfl ?_
   refine wp_skip ?_
   refine hK980 _ _ ?_
   refine wp_region_lit ?_
   revert aa
   refine qM hR ?_
   intro aa hS
   refine sA hS hR adQ (by decide) ?_; clear hS; intro aa hS
   revert aa
   refine qN hR ?_
   intro aa hS
   refine wpList_nil ?_
   refine ⟨(i + 1, _, _), ?_, ?_, hS.le (Le.cons rfl (Le.cons rfl (Le.nilapp (Le.cons rfl (Le.cons rfl (Le.cons rfl (Le.nil _))))))), hR.sub (Ex.take pkQ (Ex.nilapp exQ))⟩
   ·
    dsimp only; omega
   ·
    dsimp only; omega
 ·
  intro hg hS
  rw [List.take_of_length_le (show T.F.length ≤ i by omega)] at hS hR
  refine condF hS rfl ?_
  refine wp_exit ?_
  refine hK975 _ _ ?_
  refine wp_seq_k ?_; intro K982 hK982
  refine wp_region_lit ?_
  revert aa
  refine qM hR ?_
  refine qN hR ?_
  intro aa hS
  refine wpList_nil ?_
  refine hK982 _ _ ?_
  refine wp_ret ?_
  repeat first | with_reducible refine thenR ?_ | with_reducible refine blockR ?_ | with_reducible refine scopeR ?_
  refine ret1 (fn := Try.f84) (e := .ret) (.inl rfl) Try.results84 hS hR ⟨_, (.tmp rfl), ?_⟩
  replace hR := Sep.r16J (t := rt) (b := b) (n := n) (T := T) hTF hS4 (hR.sub exQ)
  exact ⟨r0, c0, rfl, (hR.sub exQ)⟩
set_option maxHeartbeats 2000000 in
theorem RfIn_ok {T : Tb} {S n b : Nat} {l : List HP} {w : World} {z : Int} (hR : Sep (r16A rt b S n T :: l) w) : CallR Try.prog 64 [.pointer (some ⟨b, 0, none⟩), .int .i64 z] w (fun v w' => ∃ r c, v = .slice r ((inF T.F z).map hd2).length c ∧ Sep (sls r ((inF T.F z).map hd2).length c 112 2 (((inF T.F z).map hd2).flatMap e2) :: r16A rt b S n T :: l) w') := by
 refine enter Try.func64 rfl Try.ntmps64 (Nat.le_of_ble_eq_true rfl) ?_; intro aa hS
 obtain ⟨ba, r, c, hTF, hS4, hR⟩ := (hR.pk (r := r16A _ b _ _ _) pkQ).r16E
 have hFl := hTF.len
 have hrc := (hR.pk (r := sls r _ _ _ _ _) pkQ).slsLe.1
 refine wp_seq_k ?_; intro K983 hK983
 refine wp_region_lit ?_
 revert aa
 refine qN hR ?_
 intro aa hS
 refine wpList_nil ?_
 refine hK983 _ _ ?_
 refine wp_seq_k ?_; intro K984 hK984
 refine wp_region_lit ?_
 revert aa
 refine qN hR ?_
 intro aa hS
 refine wpList_nil ?_
 refine hK984 _ _ ?_
 refine wp_seq_k ?_; intro K985 hK985
 refine wp_seq_k ?_; intro K986 hK986
 refine wp_region_lit ?_
 revert aa
 refine qN hR ?_
 intro aa hS
 refine wpList_nil ?_
 refine hK986 _ _ ?_
 refine wp_block ?_
 replace hR := hR.slsNil (T := 112) (sz := 2)
 replace hR := hR.pk (r := sls none 0 0 112 2 []) pkQ
 refine loopI (X := Nat × Option Addr × Nat) [(0, _), (1, _), (4, _)] (fun x => [(5, .slice x.2.1 ((inF (T.F.take x.1) z).map hd2).length x.2.2), (6, .int .i64 (x.1 : Int))]) (fun x => [sls x.2.1 ((inF (T.F.take x.1) z).map hd2).length x.2.2 112 2 (((inF (T.F.take x.1) z).map hd2).flatMap e2)]) _ (fun x => x.1 ≤ T.F.length) (fun x => T.F.length - x.1) (0, none, 0) (Nat.zero_le _) (hS.le (Le.cons rfl (Le.cons rfl (Le.nilapp (Le.cons rfl (Le.cons rfl (Le.cons rfl (Le.nil _)))))))) hR ?_
 clear hS hR; rintro ⟨i, r0, c0⟩ aa ww hI hS hR; dsimp only [List.cons_append, List.nil_append] at hI hS hR
 refine wp_seq_k ?_; intro K988 hK988
 refine wp_seq_k ?_; intro K989 hK989
 refine wp_region_lit ?_
 revert aa
 refine qM hR ?_
 refine qM hR ?_
 refine qA hR rfl (fun _ hS => Yld.nilCheck hS rfl) ?_
 refine qA hR rfl (fun _ hS => Yld.fieldAddr hS rfl 0 Try.underlying111 rfl rfl info109 (by decide)) ?_
 refine qA hR rfl (fun _ hS => Yld.load1 hS rfl Try.underlying109 rfl rdQ) ?_
 refine qA hR rfl (fun _ hS => Yld.len hS rfl Try.underlying109) ?_
 refine qA hR rfl (fun _ hS => Yld.lss hS rfl rfl) ?_
 intro aa hS
 refine wpList_nil ?_
 refine hK989 _ _ ?_
 refine hS.splitB (t := 13) rfl ?_ ?_ <;> clear hS
 ·
  intro hg hS
  obtain ⟨f, hfe⟩ : ∃ y : Fl, T.F[i]'(by omega) = y := ⟨_, rfl⟩
  have hil : i < T.F.length := by omega
  have hfm : f ∈ T.F := by rw [← hfe]; exact List.getElem_mem hil
  have hwn := inF_next (F := T.F) (s := z) hil
  rw [hfe] at hwn
  have hwl : ((inF (T.F.take i) z).map hd2).length ≤ i := by rw [List.length_map]; exact Nat.le_trans inF_len (by rw [List.length_take]; omega)
  refine condT hS rfl ?_
  refine wp_skip ?_
  refine hK988 _ _ ?_
  refine wp_seq_k ?_; intro K990 hK990
  refine wp_block ?_
  refine wp_seq_k ?_; intro K991 hK991
  refine wp_region_lit ?_
  revert aa
  refine qM hR ?_
  refine qA hR rfl (fun _ hS => Yld.nilCheck hS rfl) ?_
  refine qA hR rfl (fun _ hS => Yld.fieldAddr hS rfl 0 Try.underlying111 rfl rfl info109 (by decide)) ?_
  refine qA hR rfl (fun _ hS => Yld.load1 hS rfl Try.underlying109 rfl rdQ) ?_
  refine qM hR ?_
  refine qA hR rfl (fun _ hS => ilQ 8 (i) Try.underlying109 info123) ?_
  refine qA hR rfl (fun _ hS => Yld.fieldAddr hS rfl 7 Try.underlying123 rfl rfl info3 (by decide)) ?_
  refine qA hR rfl (fun _ hS => Yld.load1 hS rfl Try.underlying3 rfl (Rd.rec (enc := eF) (k := i) (j := 7) (xs := T.F) (v := .int .i64 (f.i : Int)) pkQ (by intro _; rfl) (by omega) (by rw [hfe]; rfl))) ?_
  refine qM hR ?_
  refine qA hR rfl (fun _ hS => Yld.eql hS rfl rfl) ?_
  intro aa hS
  refine wpList_nil ?_
  refine hK991 _ _ ?_
  refine hS.splitB (t := 25) rfl ?_ ?_ <;> clear hS
  ·
   intro hg hS
   rw [if_pos hg] at hwn
   refine condT hS rfl ?_
   refine wp_region_lit ?_
   revert aa
   refine qM hR ?_
   refine qM hR ?_
   refine qA hR rfl (fun _ hS => Yld.nilCheck hS rfl) ?_
   refine qA hR rfl (fun _ hS => Yld.fieldAddr hS rfl 0 Try.underlying111 rfl rfl info109 (by decide)) ?_
   refine qA hR rfl (fun _ hS => Yld.load1 hS rfl Try.underlying109 rfl rdQ) ?_
   refine qM hR ?_
   refine qA hR rfl (fun _ hS => ilQ 8 (i) Try.underlying109 info123) ?_
   refine qA hR rfl (fun _ hS => Yld.fieldAddr hS rfl 0 Try.underlying123 rfl rfl info112 (by decide)) ?_
   refine qA hR rfl (fun _ hS => Yld.loadAgg (vs := [.int .i64 (f.s : Int), .int .i64 f.u]) hS rfl Try.underlying112 rfl info112 (Rds.recPart (enc := eF) (xs := T.F) (k := i) (j := 0) (us := [.int .i64 (f.s : Int), .int .i64 f.u]) pkQ (by intro _; rfl) (by omega) (by rw [hfe]; rfl)) (by rfl)) ?_
   intro aa hS
   refine sB (BbuildSlice hS hR rfl (bls126_1_0 _ _) (by decide) ?_); clear hS hR; intro aa ww bb35 hS hR
   refine sB (BappendR (sz := 2) hS hR rfl rfl Try.underlying126 info112 rfl rfl (by rfl) pkQ (XC.one (hd2 f) pkQ (by rfl) rfl) (by intro _; rfl) (by show (_ + _) * 16 ≤ _; exact lenQ) lenQ (by first | rfl | (simp; done) | (simp; omega)) (by decide) ?_); clear hS hR; intro aa ww r36 c36 hS hR
   rw [← hwn] at hS hR
   revert aa
   refine qN hR ?_
   intro aa hS
   refine wpList_nil ?_
   refine hK990 _ _ ?_
   refine wp_region_lit ?_
   revert aa
   refine qM hR ?_
   intro aa hS
   refine sA hS hR adQ (by decide) ?_; clear hS; intro aa hS
   revert aa
   refine qN hR ?_
   intro aa hS
   refine wpList_nil ?_
   refine ⟨(i + 1, _, _), ?_, ?_, hS.le (Le.cons rfl (Le.cons rfl (Le.nilapp (Le.cons rfl (Le.cons rfl (Le.cons rfl (Le.nil _))))))), hR.sub (Ex.take pkQ (Ex.nilapp exQ))⟩
   ·
    dsimp only; omega
   ·
    dsimp only; omega
  ·
   intro hg hS
   rw [if_neg hg] at hwn
   rw [← hwn] at hS hR
   refine condF hS rfl ?_
   refine wp_skip ?_
   refine hK990 _ _ ?_
   refine wp_region_lit ?_
   revert aa
   refine qM hR ?_
   intro aa hS
   refine sA hS hR adQ (by decide) ?_; clear hS; intro aa hS
   revert aa
   refine qN hR ?_
   intro aa hS
   refine wpList_nil ?_
   refine ⟨(i + 1, _, _), ?_, ?_, hS.le (Le.cons rfl (Le.cons rfl (Le.nilapp (Le.cons rfl (Le.cons rfl (Le.cons rfl (Le.nil _))))))), hR.sub (Ex.take pkQ (Ex.nilapp exQ))⟩
   ·
    dsimp only; omega
   ·
    dsimp only; omega
 ·
  intro hg hS
  rw [List.take_of_length_le (show T.F.length ≤ i by omega)] at hS hR
  refine condF hS rfl ?_
  refine wp_exit ?_
  refine hK985 _ _ ?_
  refine wp_seq_k ?_; intro K992 hK992
  refine wp_region_lit ?_
  revert aa
  refine qM hR ?_
  refine qN hR ?_
  intro aa hS
  refine wpList_nil ?_
  refine hK992 _ _ ?_
  refine wp_ret ?_
  repeat first | with_reducible refine thenR ?_ | with_reducible refine blockR ?_ | with_reducible refine scopeR ?_
  refine ret1 (fn := Try.f64) (e := .ret) (.inl rfl) Try.results64 hS hR ⟨_, (.tmp rfl), ?_⟩
  replace hR := Sep.r16J (t := rt) (b := b) (n := n) (T := T) hTF hS4 (hR.sub exQ)
  exact ⟨r0, c0, rfl, (hR.sub exQ)⟩
end Go.Proofs.Ythhndmlfgjcgpaa.Sx
