/-
 
-/
import Derived.Test.YthjfclljjcpikaaSoC
import Derived.Test.YthjfclljjcpikaaPo
namespace Go.Proofs.Ythjfclljjcpikaa.Sx
open Go
set_option linter.unusedVariables false
set_option linter.unusedSimpArgs false

theorem bls40_2_0_1 (x0 : Int) (x1 : Int) (w : World) : (Instr.buildSlice 40 2 [(0, .int .i64 x0), (1, .int .i64 x1)].toArray).run Try.prog w = .ok (.slice (some ⟨w.heap.size, 0, none⟩) 2 2) (w.alloc (.cells ([.int .i64 x0, .int .i64 x1] : List Value).toArray 3)) := by kernel_rfl
theorem bls46_2_0_1 (x0 : Int) (x1 : Int) (w : World) : (Instr.buildSlice 46 2 [(0, .int .u32 x0), (1, .int .u32 x1)].toArray).run Try.prog w = .ok (.slice (some ⟨w.heap.size, 0, none⟩) 2 2) (w.alloc (.cells ([.int .u32 x0, .int .u32 x1] : List Value).toArray 28)) := by kernel_rfl

theorem take_nextA {α : Type} {xs ys : List α} {k : Nat} (h : xs.take k = ys.take k) (h1 : k < xs.length) (h2 : k < ys.length) (e : xs[k] = ys[k]) : xs.take (k + 1) = ys.take (k + 1) := by
 rw [List.take_succ_eq_append_getElem h1, List.take_succ_eq_append_getElem h2, h, e]
set_option maxRecDepth 20000 in
theorem eqI_ok {q1 q2 : Option Addr} {c1 c2 : Nat} {xs ys : List Int} {l : List HP} {w : World} (hx : xs.length ≤ 9000) (hy : ys.length ≤ 9000) (hR : Sep (sls q1 xs.length c1 3 1 (xs.flatMap e1) :: sls q2 ys.length c2 3 1 (ys.flatMap e1) :: l) w) : CallR Try.prog 26 [.slice q1 xs.length c1, .slice q2 ys.length c2] w (fun v w' => v = .bool (decide (xs = ys)) ∧ Sep (sls q1 xs.length c1 3 1 (xs.flatMap e1) :: sls q2 ys.length c2 3 1 (ys.flatMap e1) :: l) w') := by
 refine enter Try.func26 rfl Try.ntmps26 (Nat.le_of_ble_eq_true rfl) ?_; intro aa hS
 refine wp_seq_k ?_; intro K499 hK499
 refine wp_region_lit ?_
 revert aa
 refine qN hR ?_
 intro aa hS
 refine wpList_nil ?_
 refine hK499 _ _ ?_
 refine wp_seq_k ?_; intro K500 hK500
 refine wp_seq_k ?_; intro K501 hK501
 refine wp_region_lit ?_
 revert aa
 refine qM hR ?_
 refine qA hR rfl (fun _ hS => Yld.len hS rfl Try.underlying40) ?_
 refine qM hR ?_
 refine qA hR rfl (fun _ hS => Yld.len hS rfl Try.underlying40) ?_
 refine qA hR rfl (fun _ hS => Yld.neq hS rfl rfl) ?_
 intro aa hS
 refine wpList_nil ?_
 refine hK501 _ _ ?_
 refine hS.splitB (t := 10) rfl ?_ ?_ <;> clear hS
 ·
  intro hg hS
  refine condT hS rfl ?_
  refine wp_seq_k ?_; intro K502 hK502
  refine wp_region_lit ?_
  revert aa
  refine qN hR ?_
  intro aa hS
  refine wpList_nil ?_
  refine hK502 _ _ ?_
  refine wp_ret ?_
  repeat first | with_reducible refine thenR ?_ | with_reducible refine blockR ?_ | with_reducible refine scopeR ?_
  refine ret1 (fn := Try.f26) (e := .ret) (.inl rfl) Try.results26 hS hR ⟨_, (.tmp rfl), ?_⟩
  refine ⟨?_, (hR.sub exQ)⟩
  first
   | exact dec_no (fun e => by subst e; omega)
   | exact dec_no (fun e => by subst e; exact hne rfl)
   | exact dec_yes (by have h := hI.2; rw [List.take_of_length_le (by omega), List.take_of_length_le (by omega)] at h; exact h)
 ·
  intro hg hS
  have hlen : xs.length = ys.length := by omega
  refine condF hS rfl ?_
  refine wp_skip ?_
  refine hK500 _ _ ?_
  refine wp_seq_k ?_; intro K503 hK503
  refine wp_seq_k ?_; intro K504 hK504
  refine wp_region_lit ?_
  revert aa
  refine qM hR ?_
  refine qA hR rfl (fun _ hS => Yld.len hS rfl Try.underlying40) ?_
  refine qM hR ?_
  intro aa hS
  refine wpList_nil ?_
  refine hK504 _ _ ?_
  refine wp_block ?_
  refine loopI (X := Nat) [(0, _), (1, _), (12, _)] (fun x => [(13, .int .i64 (x : Int))]) (fun x => []) _ (fun x => x ≤ xs.length ∧ xs.take x = ys.take x) (fun x => xs.length - x) 0 ⟨Nat.zero_le _, rfl⟩ (hS.le (Le.cons rfl (Le.nilapp (Le.cons rfl (Le.cons rfl (Le.cons rfl (Le.nil _))))))) hR ?_
  clear hS hR; rintro k aa ww hI hS hR; dsimp only [List.cons_append, List.nil_append] at hI hS hR
  refine wp_seq_k ?_; intro K506 hK506
  refine wp_region_lit ?_
  refine sA hS hR (Yld.lss hS rfl rfl) (by decide) ?_; clear hS; intro aa hS
  refine wpList_nil ?_
  refine hK506 _ _ ?_
  refine wp_seq_k ?_; intro K507 hK507
  refine hS.splitB (t := 14) rfl ?_ ?_ <;> clear hS
  ·
   intro hg hS
   have hk1 : k < xs.length := by omega
   have hk2 : k < ys.length := by omega
   obtain ⟨x0, hx0⟩ : ∃ y : Int, xs[k] = y := ⟨_, rfl⟩
   obtain ⟨y0, hy0⟩ : ∃ y : Int, ys[k] = y := ⟨_, rfl⟩
   refine condT hS rfl ?_
   refine wp_skip ?_
   refine hK507 _ _ ?_
   refine wp_seq_k ?_; intro K508 hK508
   refine wp_block ?_
   refine wp_seq_k ?_; intro K509 hK509
   refine wp_region_lit ?_
   revert aa
   refine qM hR ?_
   refine qN hR ?_
   intro aa hS
   refine wpList_nil ?_
   refine hK509 _ _ ?_
   refine wp_seq_k ?_; intro K510 hK510
   refine drawn (by kernel_rfl) hR Ex.refl ?_; clear hR; intro ww hR hR0
   revert aa
   refine eA 0 rfl (by kernel_rfl) (fun _ _ _ h => h) hR0 rfl (fun _ hS => Yld.move hS rfl) ?_
   refine eA 1 rfl (by kernel_rfl) (fun _ _ _ h => h) hR0 rfl (fun _ hS => Yld.move hS rfl) ?_
   refine eA 2 rfl (by kernel_rfl) (fun _ _ _ h => h) hR0 rfl (fun _ hS => ilQ 1 (k) Try.underlying40 info3) ?_
   refine eA 3 rfl (by kernel_rfl) (fun _ _ _ h => h) hR0 rfl (fun _ hS => Yld.load1 hS rfl Try.underlying3 rfl (Rd.rec0 (k := k) (xs := xs) (v := (e1 x0).headD (.bool false)) pkQ (by intro _; rfl) hk1 (by rw [hx0]; rfl))) ?_
   refine eA 4 rfl (by kernel_rfl) (fun _ _ _ h => h) hR0 rfl (fun _ hS => Yld.move hS rfl) ?_
   refine eA 5 rfl (by kernel_rfl) (fun _ _ _ h => h) hR0 rfl (fun _ hS => Yld.move hS rfl) ?_
   refine eA 6 rfl (by kernel_rfl) (fun _ _ _ h => h) hR0 rfl (fun _ hS => ilQ 1 (k) Try.underlying40 info3) ?_
   refine eA 7 rfl (by kernel_rfl) (fun _ _ _ h => h) hR0 rfl (fun _ hS => Yld.load1 hS rfl Try.underlying3 rfl (Rd.rec0 (k := k) (xs := ys) (v := (e1 y0).headD (.bool false)) pkQ (by intro _; rfl) hk2 (by rw [hy0]; rfl))) ?_
   refine eA 8 rfl (by kernel_rfl) (fun _ _ _ h => h) hR0 rfl (fun _ hS => Yld.neq hS rfl rfl) ?_
   intro aa hS
   refine wpAnyH_done (by kernel_rfl) ?_ _; clear hR0
   refine hK510 _ _ ?_
   refine hS.splitB (t := 24) rfl ?_ ?_ <;> clear hS
   ·
    intro hg hS
    have hne : ¬ xs[k] = ys[k] := fun e => by
     rw [hx0, hy0] at e
     exact hg e
    refine condT hS rfl ?_
    refine wp_seq_k ?_; intro K511 hK511
    refine wp_region_lit ?_
    revert aa
    refine qN hR ?_
    intro aa hS
    refine wpList_nil ?_
    refine hK511 _ _ ?_
    refine wp_ret ?_
    repeat first | with_reducible refine thenR ?_ | with_reducible refine blockR ?_ | with_reducible refine scopeR ?_
    refine ret1 (fn := Try.f26) (e := .ret) (.inl rfl) Try.results26 hS hR ⟨_, (.tmp rfl), ?_⟩
    refine ⟨?_, (hR.sub exQ)⟩
    first
     | exact dec_no (fun e => by subst e; omega)
     | exact dec_no (fun e => by subst e; exact hne rfl)
     | exact dec_yes (by have h := hI.2; rw [List.take_of_length_le (by omega), List.take_of_length_le (by omega)] at h; exact h)
   ·
    intro hg hS
    have heq : xs[k] = ys[k] := by
     rw [hx0, hy0]
     first | exact hg | exact Decidable.not_not.1 hg | omega
    refine condF hS rfl ?_
    refine wp_skip ?_
    refine hK508 _ _ ?_
    refine wp_region_lit ?_
    refine sA hS hR adQ (by decide) ?_; clear hS; intro aa hS
    revert aa
    refine qM hR ?_
    intro aa hS
    refine wpList_nil ?_
    
    refine ⟨k + 1, ?_, ?_, hS.le (Le.cons rfl (Le.nilapp (Le.cons rfl (Le.cons rfl (Le.cons rfl (Le.nil _)))))), hR.sub (Ex.nilapp exQ)⟩
    ·
     exact ⟨by omega, take_nextA hI.2 hk1 hk2 heq⟩
    ·
     omega
  ·
   intro hg hS
   refine condF hS rfl ?_
   refine wp_exit ?_
   refine hK503 _ _ ?_
   refine wp_seq_k ?_; intro K512 hK512
   refine wp_region_lit ?_
   revert aa
   refine qN hR ?_
   intro aa hS
   refine wpList_nil ?_
   refine hK512 _ _ ?_
   refine wp_ret ?_
   repeat first | with_reducible refine thenR ?_ | with_reducible refine blockR ?_ | with_reducible refine scopeR ?_
   refine ret1 (fn := Try.f26) (e := .ret) (.inl rfl) Try.results26 hS hR ⟨_, (.tmp rfl), ?_⟩
   refine ⟨?_, (hR.sub exQ)⟩
   first
    | exact dec_no (fun e => by subst e; omega)
    | exact dec_no (fun e => by subst e; exact hne rfl)
    | exact dec_yes (by have h := hI.2; rw [List.take_of_length_le (by omega), List.take_of_length_le (by omega)] at h; exact h)
set_option maxRecDepth 20000 in
theorem eqU_ok {q1 q2 : Option Addr} {c1 c2 : Nat} {xs ys : List Int} {l : List HP} {w : World} (hx : xs.length ≤ 9000) (hy : ys.length ≤ 9000) (hR : Sep (sls q1 xs.length c1 28 1 (xs.flatMap eUi) :: sls q2 ys.length c2 28 1 (ys.flatMap eUi) :: l) w) : CallR Try.prog 27 [.slice q1 xs.length c1, .slice q2 ys.length c2] w (fun v w' => v = .bool (decide (xs = ys)) ∧ Sep (sls q1 xs.length c1 28 1 (xs.flatMap eUi) :: sls q2 ys.length c2 28 1 (ys.flatMap eUi) :: l) w') := by
 refine enter Try.func27 rfl Try.ntmps27 (Nat.le_of_ble_eq_true rfl) ?_; intro aa hS
 refine wp_seq_k ?_; intro K513 hK513
 refine wp_region_lit ?_
 revert aa
 refine qN hR ?_
 intro aa hS
 refine wpList_nil ?_
 refine hK513 _ _ ?_
 refine wp_seq_k ?_; intro K514 hK514
 refine wp_seq_k ?_; intro K515 hK515
 refine wp_region_lit ?_
 revert aa
 refine qM hR ?_
 refine qA hR rfl (fun _ hS => Yld.len hS rfl Try.underlying46) ?_
 refine qM hR ?_
 refine qA hR rfl (fun _ hS => Yld.len hS rfl Try.underlying46) ?_
 refine qA hR rfl (fun _ hS => Yld.neq hS rfl rfl) ?_
 intro aa hS
 refine wpList_nil ?_
 refine hK515 _ _ ?_
 refine hS.splitB (t := 10) rfl ?_ ?_ <;> clear hS
 ·
  intro hg hS
  refine condT hS rfl ?_
  refine wp_seq_k ?_; intro K516 hK516
  refine wp_region_lit ?_
  revert aa
  refine qN hR ?_
  intro aa hS
  refine wpList_nil ?_
  refine hK516 _ _ ?_
  refine wp_ret ?_
  repeat first | with_reducible refine thenR ?_ | with_reducible refine blockR ?_ | with_reducible refine scopeR ?_
  refine ret1 (fn := Try.f27) (e := .ret) (.inl rfl) Try.results27 hS hR ⟨_, (.tmp rfl), ?_⟩
  refine ⟨?_, (hR.sub exQ)⟩
  first
   | exact dec_no (fun e => by subst e; omega)
   | exact dec_no (fun e => by subst e; exact hne rfl)
   | exact dec_yes (by have h := hI.2; rw [List.take_of_length_le (by omega), List.take_of_length_le (by omega)] at h; exact h)
 ·
  intro hg hS
  have hlen : xs.length = ys.length := by omega
  refine condF hS rfl ?_
  refine wp_skip ?_
  refine hK514 _ _ ?_
  refine wp_seq_k ?_; intro K517 hK517
  refine wp_seq_k ?_; intro K518 hK518
  refine wp_region_lit ?_
  revert aa
  refine qM hR ?_
  refine qA hR rfl (fun _ hS => Yld.len hS rfl Try.underlying46) ?_
  refine qM hR ?_
  intro aa hS
  refine wpList_nil ?_
  refine hK518 _ _ ?_
  refine wp_block ?_
  refine loopI (X := Nat) [(0, _), (1, _), (12, _)] (fun x => [(13, .int .i64 (x : Int))]) (fun x => []) _ (fun x => x ≤ xs.length ∧ xs.take x = ys.take x) (fun x => xs.length - x) 0 ⟨Nat.zero_le _, rfl⟩ (hS.le (Le.cons rfl (Le.nilapp (Le.cons rfl (Le.cons rfl (Le.cons rfl (Le.nil _))))))) hR ?_
  clear hS hR; rintro k aa ww hI hS hR; dsimp only [List.cons_append, List.nil_append] at hI hS hR
  refine wp_seq_k ?_; intro K520 hK520
  refine wp_region_lit ?_
  refine sA hS hR (Yld.lss hS rfl rfl) (by decide) ?_; clear hS; intro aa hS
  refine wpList_nil ?_
  refine hK520 _ _ ?_
  refine wp_seq_k ?_; intro K521 hK521
  refine hS.splitB (t := 14) rfl ?_ ?_ <;> clear hS
  ·
   intro hg hS
   have hk1 : k < xs.length := by omega
   have hk2 : k < ys.length := by omega
   obtain ⟨x0, hx0⟩ : ∃ y : Int, xs[k] = y := ⟨_, rfl⟩
   obtain ⟨y0, hy0⟩ : ∃ y : Int, ys[k] = y := ⟨_, rfl⟩
   refine condT hS rfl ?_
   refine wp_skip ?_
   refine hK521 _ _ ?_
   refine wp_seq_k ?_; intro K522 hK522
   refine wp_block ?_
   refine wp_seq_k ?_; intro K523 hK523
   refine wp_region_lit ?_
   revert aa
   refine qM hR ?_
   refine qN hR ?_
   intro aa hS
   refine wpList_nil ?_
   refine hK523 _ _ ?_
   refine wp_seq_k ?_; intro K524 hK524
   refine drawn (by kernel_rfl) hR Ex.refl ?_; clear hR; intro ww hR hR0
   revert aa
   refine eA 0 rfl (by kernel_rfl) (fun _ _ _ h => h) hR0 rfl (fun _ hS => Yld.move hS rfl) ?_
   refine eA 1 rfl (by kernel_rfl) (fun _ _ _ h => h) hR0 rfl (fun _ hS => Yld.move hS rfl) ?_
   refine eA 2 rfl (by kernel_rfl) (fun _ _ _ h => h) hR0 rfl (fun _ hS => ilQ 1 (k) Try.underlying46 info28) ?_
   refine eA 3 rfl (by kernel_rfl) (fun _ _ _ h => h) hR0 rfl (fun _ hS => Yld.load1 hS rfl Try.underlying28 rfl (Rd.rec0 (k := k) (xs := xs) (v := (eUi x0).headD (.bool false)) pkQ (by intro _; rfl) hk1 (by rw [hx0]; rfl))) ?_
   refine eA 4 rfl (by kernel_rfl) (fun _ _ _ h => h) hR0 rfl (fun _ hS => Yld.move hS rfl) ?_
   refine eA 5 rfl (by kernel_rfl) (fun _ _ _ h => h) hR0 rfl (fun _ hS => Yld.move hS rfl) ?_
   refine eA 6 rfl (by kernel_rfl) (fun _ _ _ h => h) hR0 rfl (fun _ hS => ilQ 1 (k) Try.underlying46 info28) ?_
   refine eA 7 rfl (by kernel_rfl) (fun _ _ _ h => h) hR0 rfl (fun _ hS => Yld.load1 hS rfl Try.underlying28 rfl (Rd.rec0 (k := k) (xs := ys) (v := (eUi y0).headD (.bool false)) pkQ (by intro _; rfl) hk2 (by rw [hy0]; rfl))) ?_
   refine eA 8 rfl (by kernel_rfl) (fun _ _ _ h => h) hR0 rfl (fun _ hS => Yld.neq hS rfl rfl) ?_
   intro aa hS
   refine wpAnyH_done (by kernel_rfl) ?_ _; clear hR0
   refine hK524 _ _ ?_
   refine hS.splitB (t := 24) rfl ?_ ?_ <;> clear hS
   ·
    intro hg hS
    have hne : ¬ xs[k] = ys[k] := fun e => by
     rw [hx0, hy0] at e
     exact hg e
    refine condT hS rfl ?_
    refine wp_seq_k ?_; intro K525 hK525
    refine wp_region_lit ?_
    revert aa
    refine qN hR ?_
    intro aa hS
    refine wpList_nil ?_
    refine hK525 _ _ ?_
    refine wp_ret ?_
    repeat first | with_reducible refine thenR ?_ | with_reducible refine blockR ?_ | with_reducible refine scopeR ?_
    refine ret1 (fn := Try.f27) (e := .ret) (.inl rfl) Try.results27 hS hR ⟨_, (.tmp rfl), ?_⟩
    refine ⟨?_, (hR.sub exQ)⟩
    first
     | exact dec_no (fun e => by subst e; omega)
     | exact dec_no (fun e => by subst e; exact hne rfl)
     | exact dec_yes (by have h := hI.2; rw [List.take_of_length_le (by omega), List.take_of_length_le (by omega)] at h; exact h)
   ·
    intro hg hS
    have heq : xs[k] = ys[k] := by
     rw [hx0, hy0]
     first | exact hg | exact Decidable.not_not.1 hg | omega
    refine condF hS rfl ?_
    refine wp_skip ?_
    refine hK522 _ _ ?_
    refine wp_region_lit ?_
    refine sA hS hR adQ (by decide) ?_; clear hS; intro aa hS
    revert aa
    refine qM hR ?_
    intro aa hS
    refine wpList_nil ?_
    
    refine ⟨k + 1, ?_, ?_, hS.le (Le.cons rfl (Le.nilapp (Le.cons rfl (Le.cons rfl (Le.cons rfl (Le.nil _)))))), hR.sub (Ex.nilapp exQ)⟩
    ·
     exact ⟨by omega, take_nextA hI.2 hk1 hk2 heq⟩
    ·
     omega
  ·
   intro hg hS
   refine condF hS rfl ?_
   refine wp_exit ?_
   refine hK517 _ _ ?_
   refine wp_seq_k ?_; intro K526 hK526
   refine wp_region_lit ?_
   revert aa
   refine qN hR ?_
   intro aa hS
   refine wpList_nil ?_
   refine hK526 _ _ ?_
   refine wp_ret ?_
   repeat first | with_reducible refine thenR ?_ | with_reducible refine blockR ?_ | with_reducible refine scopeR ?_
   refine ret1 (fn := Try.f27) (e := .ret) (.inl rfl) Try.results27 hS hR ⟨_, (.tmp rfl), ?_⟩
   refine ⟨?_, (hR.sub exQ)⟩
   first
    | exact dec_no (fun e => by subst e; omega)
    | exact dec_no (fun e => by subst e; exact hne rfl)
    | exact dec_yes (by have h := hI.2; rw [List.take_of_length_le (by omega), List.take_of_length_le (by omega)] at h; exact h)
def s0 : So := T0 4
def s1 : So := opnN 4 2 s0 9 3
def s2 : So := opnN 4 2 s1 9 0
def s3 : So := opnN 4 2 s2 9 1
def s4 : So := opnN 4 2 s3 7 0
def s5 : So := opnN 4 2 s4 7 1
def s6 : So := clsN s5 3
def s7 : So := clsN s6 3
def s8 : So := clsN s7 0
def s9 : So := opnN 4 2 s8 5 3
theorem q1 : opnE 4 2 s0 9 3 = 0 := by decide +kernel
theorem q2 : opnE 4 2 s1 9 0 = 0 := by decide +kernel
theorem q3 : cst (slO s2.O 9) = [3, 0] := by decide +kernel
theorem q4 : opnE 4 2 s2 9 1 = 4 := by decide +kernel
theorem q5 : opnE 4 2 s3 7 0 = 310 := by decide +kernel
theorem q6 : opnE 4 2 s4 7 1 = 0 := by decide +kernel
theorem q7 : rcR s5.R 9 = some 0 ∧ rcR s5.R 7 = some 1 := by decide +kernel
theorem q8 : allR s5.R = [7, 9] := by decide +kernel
theorem q9 : ofO s5.O 3 = some 9 ∧ clsE 4 s5 3 = 0 := by decide +kernel
theorem q10 : ofO s6.O 3 = none ∧ clsE 4 s6 3 = 6 := by decide +kernel
theorem q11 : ofO s7.O 0 = some 9 ∧ clsE 4 s7 0 = 0 := by decide +kernel
theorem q12 : rcR s8.R 9 = none := by decide +kernel
theorem q13 : opnE 4 2 s8 5 3 = 0 := by decide +kernel
theorem q14 : rcR s9.R 5 = some 0 := by decide +kernel
theorem q15 : (slO s9.O 5).length = 1 ∧ (slO s9.O 9).length = 0 ∧ s9.R.length = 2 := by decide +kernel
set_option maxHeartbeats 4000000 in
set_option maxRecDepth 20000 in
theorem awake31_ok {l : List HP} {w : World} (hR : Sep l w) : CallR Try.prog 10 ([] : List Value) w (fun v w' => v = .bool true ∧ Sep l w') := by
 refine enter Try.func10 rfl Try.ntmps10 (Nat.le_of_ble_eq_true rfl) ?_; intro aa hS
 refine wp_seq_k ?_; intro K527 hK527
 refine wp_region_lit ?_
 revert aa
 refine qN hR ?_
 intro aa hS
 refine wpList_nil ?_
 refine hK527 _ _ ?_
 refine wp_seq_k ?_; intro K528 hK528
 refine wp_region_lit ?_
 refine sB (Bcall hS rfl Try.call16 (soNew_ok (S := 4) (lim := 2) hR (by omega) (by omega) (by omega) (by omega)) (by decide) ?_); clear hS; intro aa ww vv hS hp
 clear hR
 obtain ⟨b, rfl, hR⟩ := hp
 change Sep (sourceA ss b 4 2 s0 :: _) _ at hR
 revert aa
 refine qM hR ?_
 refine qX hR ?_
 refine qX hR ?_
 refine qN hR ?_
 refine qN hR ?_
 intro aa hS
 refine wpList_nil ?_
 refine hK528 _ _ ?_
 refine wp_seq_k ?_; intro K529 hK529
 refine wp_seq_k ?_; intro K530 hK530
 refine wp_region_lit ?_
 revert aa
 refine qM hR ?_
 refine qA hR rfl (fun _ hS => Yld.neq hS rfl rfl) ?_
 refine qB (t := 21) false rfl (by decide) ?_
 refine qM hR ?_
 refine qMg hR ?_
 refine qAg hR rfl rfl rfl (fun _ hS => Yld.eqlNil hS rfl rfl Try.underlying24) ?_
 refine qB (t := 24) false rfl (by rfl) ?_
 refine qA hR rfl (fun _ hS => Yld.pickF hS rfl rfl) ?_
 refine qM hR ?_
 refine qMg hR ?_
 intro aa hS
 refine sBg hS rfl rfl (Bcall hS rfl Try.call17 (soOpen_ok (S := 4) (lim := 2) (T := s0) (a := 9) (x := 3) (by omega) (hR.pk (r := sourceA _ b _ _ _) pkQ)) (by decide) ?_); clear hS; intro aa ww vv hS hp
 clear hR
 obtain ⟨rfl, hR⟩ := hp
 rw [q1] at hS
 change Sep (sourceA ss b 4 2 s1 :: _) _ at hR
 revert aa
 refine qMg hR ?_
 intro aa hS
 refine sBg hS rfl rfl (Bcall hS rfl Try.call17 (soOpen_ok (S := 4) (lim := 2) (T := s1) (a := 9) (x := 0) (by omega) (hR.pk (r := sourceA _ b _ _ _) pkQ)) (by decide) ?_); clear hS; intro aa ww vv hS hp
 clear hR
 obtain ⟨rfl, hR⟩ := hp
 rw [q2] at hS
 change Sep (sourceA ss b 4 2 s2 :: _) _ at hR
 refine sAg hS hR rfl rfl adQ (by decide) ?_; clear hS; intro aa hS
 revert aa
 refine qAg hR rfl rfl rfl (fun _ hS => Yld.neq hS rfl rfl) ?_
 refine qB (t := 32) false rfl (by decide) ?_
 refine qA hR rfl (fun _ hS => Yld.pickF hS rfl rfl) ?_
 refine qM hR ?_
 refine qMg hR ?_
 intro aa hS
 refine sBg hS rfl rfl (Bcall hS rfl Try.call22 (soSlots_ok (T := s2) (a := 9) (by omega) (hR.pk (r := sourceA _ b _ _ _) pkQ)) (by decide) ?_); clear hS; intro aa ww vv hS hp
 clear hR
 obtain ⟨ra, ca, rfl, hR⟩ := hp
 rw [q3] at hS hR
 refine sBg hS rfl rfl (BbuildSlice hS hR rfl (bls40_2_0_1 _ _) (by decide) ?_); clear hS hR; intro aa ww bb37 hS hR
 replace hR := hR.pk (r := blk bb37 _ _) pkQ
 replace hR := Sep.toRecs (m := 2) (sz := 1) (enc := e1) (([3, 0] : List Int)) hR rfl (by intro _; rfl) rfl
 change Sep (sls (some ⟨bb37, 0, none⟩) ([3, 0] : List Int).length 2 3 1 (([3, 0] : List Int).flatMap e1) :: _) _ at hR
 refine sBg hS rfl rfl (Bcall hS rfl Try.call26 (eqI_ok (xs := [3, 0]) (ys := [3, 0]) (q1 := ra) (q2 := some ⟨bb37, 0, none⟩) (by simp) (by simp) ((hR.pk (r := sls (some ⟨bb37, 0, none⟩) _ _ _ _ _) pkQ).pk (r := sls ra _ _ _ _ _) pkQ)) (by decide) ?_); clear hS; intro aa ww vv hS hp
 clear hR
 obtain ⟨rfl, hR⟩ := hp
 rw [decide_eq_true rfl] at hS
 revert aa
 refine qAg hR rfl rfl rfl (fun _ hS => Yld.not hS rfl) ?_
 refine qB (t := 39) false rfl (by rfl) ?_
 refine qA hR rfl (fun _ hS => Yld.pickF hS rfl rfl) ?_
 refine qM hR ?_
 refine qMg hR ?_
 intro aa hS
 refine sBg hS rfl rfl (Bcall hS rfl Try.call17 (soOpen_ok (S := 4) (lim := 2) (T := s2) (a := 9) (x := 1) (by omega) (hR.pk (r := sourceA _ b _ _ _) pkQ)) (by decide) ?_); clear hS; intro aa ww vv hS hp
 clear hR
 obtain ⟨rfl, hR⟩ := hp
 rw [q4] at hS
 change Sep (sourceA ss b 4 2 s3 :: _) _ at hR
 revert aa
 refine qAg hR rfl rfl rfl (fun _ hS => Yld.neq hS rfl rfl) ?_
 refine qB (t := 44) false rfl (by decide) ?_
 refine qA hR rfl (fun _ hS => Yld.pickF hS rfl rfl) ?_
 refine qM hR ?_
 refine qMg hR ?_
 intro aa hS
 refine sBg hS rfl rfl (Bcall hS rfl Try.call17 (soOpen_ok (S := 4) (lim := 2) (T := s3) (a := 7) (x := 0) (by omega) (hR.pk (r := sourceA _ b _ _ _) pkQ)) (by decide) ?_); clear hS; intro aa ww vv hS hp
 clear hR
 obtain ⟨rfl, hR⟩ := hp
 rw [q5] at hS
 change Sep (sourceA ss b 4 2 s4 :: _) _ at hR
 revert aa
 refine qAg hR rfl rfl rfl (fun _ hS => Yld.neq hS rfl rfl) ?_
 refine qB (t := 49) false rfl (by decide) ?_
 refine qA hR rfl (fun _ hS => Yld.pickF hS rfl rfl) ?_
 refine qM hR ?_
 refine qMg hR ?_
 intro aa hS
 refine sBg hS rfl rfl (Bcall hS rfl Try.call17 (soOpen_ok (S := 4) (lim := 2) (T := s4) (a := 7) (x := 1) (by omega) (hR.pk (r := sourceA _ b _ _ _) pkQ)) (by decide) ?_); clear hS; intro aa ww vv hS hp
 clear hR
 obtain ⟨rfl, hR⟩ := hp
 rw [q6] at hS
 change Sep (sourceA ss b 4 2 s5 :: _) _ at hR
 revert aa
 refine qAg hR rfl rfl rfl (fun _ hS => Yld.neq hS rfl rfl) ?_
 refine qB (t := 54) false rfl (by decide) ?_
 refine qA hR rfl (fun _ hS => Yld.pickF hS rfl rfl) ?_
 intro aa hS
 refine wpList_nil ?_
 refine hK530 _ _ ?_
 refine condF hS rfl ?_
 refine wp_skip ?_
 refine hK529 _ _ ?_
 refine wp_seq_k ?_; intro K531 hK531
 refine wp_region_lit ?_
 revert aa
 refine qM hR ?_
 intro aa hS
 refine sB (Bcall hS rfl Try.call13 (soRecord_ok (T := s5) (a := 9) (by omega) (hR.pk (r := sourceA _ b _ _ _) pkQ)) (by decide) ?_); clear hS; intro aa ww vv hS hp
 clear hR
 obtain ⟨rfl, hR⟩ := hp
 rw [q7.1] at hS
 dsimp only [optV, Option.getD, Option.isSome] at hS
 revert aa
 refine qM hR ?_
 refine qX hR ?_
 refine qX hR ?_
 refine qN hR ?_
 refine qN hR ?_
 intro aa hS
 refine wpList_nil ?_
 refine hK531 _ _ ?_
 refine wp_seq_k ?_; intro K532 hK532
 refine wp_region_lit ?_
 revert aa
 refine qM hR ?_
 intro aa hS
 refine sB (Bcall hS rfl Try.call13 (soRecord_ok (T := s5) (a := 7) (by omega) (hR.pk (r := sourceA _ b _ _ _) pkQ)) (by decide) ?_); clear hS; intro aa ww vv hS hp
 clear hR
 obtain ⟨rfl, hR⟩ := hp
 rw [q7.2] at hS
 dsimp only [optV, Option.getD, Option.isSome] at hS
 revert aa
 refine qM hR ?_
 refine qX hR ?_
 refine qX hR ?_
 refine qN hR ?_
 refine qN hR ?_
 intro aa hS
 refine wpList_nil ?_
 refine hK532 _ _ ?_
 refine wp_seq_k ?_; intro K533 hK533
 refine wp_seq_k ?_; intro K534 hK534
 refine wp_region_lit ?_
 revert aa
 refine qM hR ?_
 refine qA hR rfl (fun _ hS => Yld.neq hS rfl rfl) ?_
 refine qB (t := 67) false rfl (by decide) ?_
 refine qM hR ?_
 refine qMg hR ?_
 refine qAg hR rfl rfl rfl (fun _ hS => Yld.neq hS rfl rfl) ?_
 refine qB (t := 70) false rfl (by decide) ?_
 refine qA hR rfl (fun _ hS => Yld.pickF hS rfl rfl) ?_
 refine qM hR ?_
 refine qMg hR ?_
 refine qAg hR rfl rfl rfl (fun _ hS => Yld.not hS rfl) ?_
 refine qB (t := 74) false rfl (by rfl) ?_
 refine qA hR rfl (fun _ hS => Yld.pickF hS rfl rfl) ?_
 refine qM hR ?_
 refine qMg hR ?_
 intro aa hS
 refine sBg hS rfl rfl (Bcall hS rfl Try.call23 (soAll_ok (T := s5) (hR.pk (r := sourceA _ b _ _ _) pkQ)) (by decide) ?_); clear hS; intro aa ww vv hS hp
 clear hR
 obtain ⟨rz, cz, rfl, hR⟩ := hp
 rw [q8] at hS hR
 refine sBg hS rfl rfl (BbuildSlice hS hR rfl (bls46_2_0_1 _ _) (by decide) ?_); clear hS hR; intro aa ww bb79 hS hR
 replace hR := hR.pk (r := blk bb79 _ _) pkQ
 replace hR := Sep.toRecs (m := 2) (sz := 1) (enc := eUi) (([7, 9] : List Int)) hR rfl (by intro _; rfl) rfl
 change Sep (sls (some ⟨bb79, 0, none⟩) ([7, 9] : List Int).length 2 28 1 (([7, 9] : List Int).flatMap eUi) :: _) _ at hR
 refine sBg hS rfl rfl (Bcall hS rfl Try.call27 (eqU_ok (xs := [7, 9]) (ys := [7, 9]) (q1 := rz) (q2 := some ⟨bb79, 0, none⟩) (by simp) (by simp) ((hR.pk (r := sls (some ⟨bb79, 0, none⟩) _ _ _ _ _) pkQ).pk (r := sls rz _ _ _ _ _) pkQ)) (by decide) ?_); clear hS; intro aa ww vv hS hp
 clear hR
 obtain ⟨rfl, hR⟩ := hp
 rw [decide_eq_true rfl] at hS
 revert aa
 refine qAg hR rfl rfl rfl (fun _ hS => Yld.not hS rfl) ?_
 refine qB (t := 81) false rfl (by rfl) ?_
 refine qA hR rfl (fun _ hS => Yld.pickF hS rfl rfl) ?_
 intro aa hS
 refine wpList_nil ?_
 refine hK534 _ _ ?_
 refine condF hS rfl ?_
 refine wp_skip ?_
 refine hK533 _ _ ?_
 refine wp_seq_k ?_; intro K535 hK535
 refine wp_region_lit ?_
 revert aa
 refine qM hR ?_
 intro aa hS
 refine sB (Bcall hS rfl Try.call20 (soClose_ok (S := 4) (lim := 2) (T := s5) (x := 3) (hR.pk (r := sourceA _ b _ _ _) pkQ)) (by decide) ?_); clear hS; intro aa ww vv hS hp
 clear hR
 obtain ⟨rfl, hR⟩ := hp
 rw [q9.1, q9.2] at hS
 dsimp only [Option.getD] at hS
 change Sep (sourceA ss b 4 2 s6 :: _) _ at hR
 revert aa
 refine qM hR ?_
 refine qX hR ?_
 refine qX hR ?_
 refine qN hR ?_
 refine qN hR ?_
 intro aa hS
 refine wpList_nil ?_
 refine hK535 _ _ ?_
 refine wp_seq_k ?_; intro K536 hK536
 refine wp_region_lit ?_
 revert aa
 refine qM hR ?_
 intro aa hS
 refine sB (Bcall hS rfl Try.call20 (soClose_ok (S := 4) (lim := 2) (T := s6) (x := 3) (hR.pk (r := sourceA _ b _ _ _) pkQ)) (by decide) ?_); clear hS; intro aa ww vv hS hp
 clear hR
 obtain ⟨rfl, hR⟩ := hp
 rw [q10.1, q10.2] at hS
 dsimp only [Option.getD] at hS
 change Sep (sourceA ss b 4 2 s7 :: _) _ at hR
 revert aa
 refine qM hR ?_
 refine qX hR ?_
 refine qX hR ?_
 refine qN hR ?_
 refine qN hR ?_
 intro aa hS
 refine wpList_nil ?_
 refine hK536 _ _ ?_
 refine wp_seq_k ?_; intro K537 hK537
 refine wp_region_lit ?_
 revert aa
 refine qM hR ?_
 intro aa hS
 refine sB (Bcall hS rfl Try.call20 (soClose_ok (S := 4) (lim := 2) (T := s7) (x := 0) (hR.pk (r := sourceA _ b _ _ _) pkQ)) (by decide) ?_); clear hS; intro aa ww vv hS hp
 clear hR
 obtain ⟨rfl, hR⟩ := hp
 rw [q11.1, q11.2] at hS
 dsimp only [Option.getD] at hS
 change Sep (sourceA ss b 4 2 s8 :: _) _ at hR
 revert aa
 refine qM hR ?_
 refine qX hR ?_
 refine qX hR ?_
 refine qN hR ?_
 refine qN hR ?_
 intro aa hS
 refine wpList_nil ?_
 refine hK537 _ _ ?_
 refine wp_seq_k ?_; intro K538 hK538
 refine wp_region_lit ?_
 revert aa
 refine qM hR ?_
 intro aa hS
 refine sB (Bcall hS rfl Try.call13 (soRecord_ok (T := s8) (a := 9) (by omega) (hR.pk (r := sourceA _ b _ _ _) pkQ)) (by decide) ?_); clear hS; intro aa ww vv hS hp
 clear hR
 obtain ⟨rfl, hR⟩ := hp
 rw [q12] at hS
 dsimp only [optV, Option.getD, Option.isSome] at hS
 revert aa
 refine qM hR ?_
 refine qX hR ?_
 refine qX hR ?_
 refine qN hR ?_
 refine qN hR ?_
 intro aa hS
 refine wpList_nil ?_
 refine hK538 _ _ ?_
 refine wp_seq_k ?_; intro K539 hK539
 refine wp_seq_k ?_; intro K540 hK540
 refine wp_region_lit ?_
 revert aa
 refine qM hR ?_
 refine qA hR rfl (fun _ hS => Yld.neq hS rfl rfl) ?_
 refine qB (t := 104) false rfl (by decide) ?_
 refine qM hR ?_
 refine qMg hR ?_
 refine qAg hR rfl rfl rfl (fun _ hS => Yld.neq hS rfl rfl) ?_
 refine qB (t := 107) false rfl (by decide) ?_
 refine qA hR rfl (fun _ hS => Yld.pickF hS rfl rfl) ?_
 refine qM hR ?_
 refine qMg hR ?_
 refine qMg hR ?_
 intro aa hS
 refine sAg hS hR rfl rfl adQ (by decide) ?_; clear hS; intro aa hS
 revert aa
 refine qAg hR rfl rfl rfl (fun _ hS => Yld.neq hS rfl rfl) ?_
 refine qB (t := 113) false rfl (by decide) ?_
 refine qA hR rfl (fun _ hS => Yld.pickF hS rfl rfl) ?_
 refine qM hR ?_
 refine qMg hR ?_
 refine qAg hR rfl rfl rfl (fun _ hS => Yld.neq hS rfl rfl) ?_
 refine qB (t := 117) false rfl (by decide) ?_
 refine qA hR rfl (fun _ hS => Yld.pickF hS rfl rfl) ?_
 refine qM hR ?_
 refine qMg hR ?_
 refine qB (t := 120) false rfl (by rfl) ?_
 refine qA hR rfl (fun _ hS => Yld.pickF hS rfl rfl) ?_
 refine qM hR ?_
 refine qMg hR ?_
 intro aa hS
 refine sBg hS rfl rfl (Bcall hS rfl Try.call17 (soOpen_ok (S := 4) (lim := 2) (T := s8) (a := 5) (x := 3) (by omega) (hR.pk (r := sourceA _ b _ _ _) pkQ)) (by decide) ?_); clear hS; intro aa ww vv hS hp
 clear hR
 obtain ⟨rfl, hR⟩ := hp
 rw [q13] at hS
 change Sep (sourceA ss b 4 2 s9 :: _) _ at hR
 revert aa
 refine qAg hR rfl rfl rfl (fun _ hS => Yld.neq hS rfl rfl) ?_
 refine qB (t := 125) false rfl (by decide) ?_
 refine qA hR rfl (fun _ hS => Yld.pickF hS rfl rfl) ?_
 intro aa hS
 refine wpList_nil ?_
 refine hK540 _ _ ?_
 refine condF hS rfl ?_
 refine wp_skip ?_
 refine hK539 _ _ ?_
 refine wp_seq_k ?_; intro K541 hK541
 refine wp_region_lit ?_
 revert aa
 refine qM hR ?_
 intro aa hS
 refine sB (Bcall hS rfl Try.call13 (soRecord_ok (T := s9) (a := 5) (by omega) (hR.pk (r := sourceA _ b _ _ _) pkQ)) (by decide) ?_); clear hS; intro aa ww vv hS hp
 clear hR
 obtain ⟨rfl, hR⟩ := hp
 rw [q14] at hS
 dsimp only [optV, Option.getD, Option.isSome] at hS
 revert aa
 refine qM hR ?_
 refine qX hR ?_
 refine qX hR ?_
 refine qN hR ?_
 refine qN hR ?_
 intro aa hS
 refine wpList_nil ?_
 refine hK541 _ _ ?_
 refine wp_seq_k ?_; intro K542 hK542
 refine wp_region_lit ?_
 revert aa
 refine qM hR ?_
 refine qA hR rfl (fun _ hS => Yld.eql hS rfl rfl) ?_
 refine qB (t := 133) true rfl (by decide) ?_
 refine qM hR ?_
 refine qMg hR ?_
 refine qB (t := 135) true rfl (by rfl) ?_
 refine qA hR rfl (fun _ hS => Yld.pickT hS rfl rfl) ?_
 refine qM hR ?_
 refine qMg hR ?_
 intro aa hS
 refine sBg hS rfl rfl (Bcall hS rfl Try.call19 (soRoom_ok (T := s9) (a := 5) (by omega) (hR.pk (r := sourceA _ b _ _ _) pkQ)) (by decide) ?_); clear hS; intro aa ww vv hS hp
 clear hR
 obtain ⟨rfl, hR⟩ := hp
 rw [q15.1] at hS
 revert aa
 refine qAg hR rfl rfl rfl (fun _ hS => Yld.eql hS rfl rfl) ?_
 refine qB (t := 140) true rfl (by decide) ?_
 refine qA hR rfl (fun _ hS => Yld.pickT hS rfl rfl) ?_
 refine qM hR ?_
 refine qMg hR ?_
 intro aa hS
 refine sBg hS rfl rfl (Bcall hS rfl Try.call19 (soRoom_ok (T := s9) (a := 9) (by omega) (hR.pk (r := sourceA _ b _ _ _) pkQ)) (by decide) ?_); clear hS; intro aa ww vv hS hp
 clear hR
 obtain ⟨rfl, hR⟩ := hp
 rw [q15.2.1] at hS
 revert aa
 refine qAg hR rfl rfl rfl (fun _ hS => Yld.eql hS rfl rfl) ?_
 refine qB (t := 145) true rfl (by decide) ?_
 refine qA hR rfl (fun _ hS => Yld.pickT hS rfl rfl) ?_
 refine qM hR ?_
 refine qMg hR ?_
 intro aa hS
 refine sBg hS rfl rfl (Bcall hS rfl Try.call18 (soLen_ok (T := s9) (hR.pk (r := sourceA _ b _ _ _) pkQ)) (by decide) ?_); clear hS; intro aa ww vv hS hp
 clear hR
 obtain ⟨rfl, hR⟩ := hp
 rw [q15.2.2] at hS
 revert aa
 refine qAg hR rfl rfl rfl (fun _ hS => Yld.eql hS rfl rfl) ?_
 refine qB (t := 150) true rfl (by decide) ?_
 refine qA hR rfl (fun _ hS => Yld.pickT hS rfl rfl) ?_
 refine qN hR ?_
 intro aa hS
 refine wpList_nil ?_
 refine hK542 _ _ ?_
 refine wp_ret ?_
 repeat first | with_reducible refine thenR ?_ | with_reducible refine blockR ?_ | with_reducible refine scopeR ?_
 refine ret1 (fn := Try.f10) (e := .ret) (.inl rfl) Try.results10 hS hR ⟨_, (.tmp rfl), ?_⟩
 exact ⟨rfl, (hR.sub exQ)⟩
end Go.Proofs.Ythjfclljjcpikaa.Sx
