/-
  
-/
import Derived.Test.YtmcfmhiadlkglaaTrJ
namespace Go.Proofs.Ytmcfmhiadlkglaa.Sx
open Go
set_option linter.unusedVariables false
set_option linter.unusedSimpArgs false

theorem neq34 (o1 o2 : Operand) (x_0 : Int) (x_1 : Int) (x_2 : Int) (x_3 : Int) (x_4 : Int) (y_0 : Int) (y_1 : Int) (y_2 : Int) (y_3 : Int) (y_4 : Int) (w : World) : (do eqGuard .neq 34 o1 o2 (.agg [.int .u8 x_0, .int .u32 x_1, .int .u32 x_2, .int .u16 x_3, .int .u16 x_4].toArray) (.agg [.int .u8 y_0, .int .u32 y_1, .int .u32 y_2, .int .u16 y_3, .int .u16 y_4].toArray); binOp .neq 34 (.agg [.int .u8 x_0, .int .u32 x_1, .int .u32 x_2, .int .u16 x_3, .int .u16 x_4].toArray) (.agg [.int .u8 y_0, .int .u32 y_1, .int .u32 y_2, .int .u16 y_3, .int .u16 y_4].toArray) : Sem Value).run Try.prog w = .ok (.bool (!decide (x_0 = y_0 ∧ x_1 = y_1 ∧ x_2 = y_2 ∧ x_3 = y_3 ∧ x_4 = y_4))) w := by
  by_cases h0 : x_0 = y_0
  · skip
    by_cases h1 : x_1 = y_1
    · skip
      by_cases h2 : x_2 = y_2
      · skip
        by_cases h3 : x_3 = y_3
        · skip
          by_cases h4 : x_4 = y_4
          · simp [go_sem, h0, h1, h2, h3, h4]
          · simp [go_sem, h0, h1, h2, h3, h4]
        · simp [go_sem, h0, h1, h2, h3]
      · simp [go_sem, h0, h1, h2]
    · simp [go_sem, h0, h1]
  · simp [go_sem, h0]

theorem takeK_next {xs ys : List Ky} {k : Nat} (h : xs.take k = ys.take k) (h1 : k < xs.length) (h2 : k < ys.length) (e : xs[k] = ys[k]) : xs.take (k + 1) = ys.take (k + 1) := by
  rw [List.take_succ_eq_append_getElem h1, List.take_succ_eq_append_getElem h2, h, e]
set_option maxRecDepth 20000 in
theorem sameKeys_ok {q1 q2 : Option Addr} {c1 c2 : Nat} {xs ys : List Ky} {l : List HP} {w : World} (hR : Sep (sls q1 xs.length c1 34 5 (xs.flatMap eK) :: sls q2 ys.length c2 34 5 (ys.flatMap eK) :: l) w) (hx : xs.length ≤ 9000) (hy : ys.length ≤ 9000) : CallR Try.prog 24 [.slice q1 xs.length c1, .slice q2 ys.length c2] w (fun v w' => v = .bool (decide (xs = ys)) ∧ Sep (sls q1 xs.length c1 34 5 (xs.flatMap eK) :: sls q2 ys.length c2 34 5 (ys.flatMap eK) :: l) w') := by
  refine enter Try.func24 rfl Try.ntmps24 (Nat.le_of_ble_eq_true rfl) ?_; intro aa hS
  refine wp_seq_k ?_; intro K335 hK335
  refine wp_region_lit ?_
  refine sA hS hR (Yld.assign hS rfl) (by decide) ?_; clear hS; intro aa hS
  refine wpList_nil ?_
  refine hK335 _ _ ?_
  refine wp_seq_k ?_; intro K336 hK336
  refine wp_seq_k ?_; intro K337 hK337
  refine wp_region_lit ?_
  refine sA hS hR (Yld.move hS rfl) (by decide) ?_; clear hS; intro aa hS
  refine sA hS hR (Yld.len hS rfl Try.underlying24) (by decide) ?_; clear hS; intro aa hS
  refine sA hS hR (Yld.move hS rfl) (by decide) ?_; clear hS; intro aa hS
  refine sA hS hR (Yld.len hS rfl Try.underlying24) (by decide) ?_; clear hS; intro aa hS
  refine sA hS hR (Yld.neq hS rfl rfl) (by decide) ?_; clear hS; intro aa hS
  refine wpList_nil ?_
  refine hK337 _ _ ?_
  refine hS.splitB (t := 10) rfl ?_ ?_ <;> clear hS
  · intro hg hS
    refine condT hS rfl ?_
    refine wp_seq_k ?_; intro K338 hK338
    refine wp_region_lit ?_
    refine sA hS hR (Yld.assign hS rfl) (by decide) ?_; clear hS; intro aa hS
    refine wpList_nil ?_
    refine hK338 _ _ ?_
    refine wp_ret ?_
    repeat (first | with_reducible refine thenR ?_ | with_reducible refine blockR ?_ | with_reducible refine scopeR ?_)
    refine ret1 (fn := Try.f24) (e := .ret) (.inl rfl) Try.results24 hS hR ⟨_, (.tmp rfl), ?_⟩
    refine ⟨?_, (hR.sub exQ)⟩
    first
      | exact dec_no (fun e => by subst e; omega)
      | exact dec_no (fun e => by subst e; exact hne rfl)
      | exact dec_yes (by have h := hI.2; rw [List.take_of_length_le (by omega), List.take_of_length_le (by omega)] at h; exact h)
  · intro hg hS
    have hlen : xs.length = ys.length := by omega
    refine condF hS rfl ?_
    refine wp_skip ?_
    refine hK336 _ _ ?_
    refine wp_seq_k ?_; intro K339 hK339
    refine wp_seq_k ?_; intro K340 hK340
    refine wp_region_lit ?_
    refine sA hS hR (Yld.move hS rfl) (by decide) ?_; clear hS; intro aa hS
    refine sA hS hR (Yld.len hS rfl Try.underlying24) (by decide) ?_; clear hS; intro aa hS
    refine sA hS hR (Yld.move hS rfl) (by decide) ?_; clear hS; intro aa hS
    refine wpList_nil ?_
    refine hK340 _ _ ?_
    refine wp_block ?_
    refine loopI (X := Nat) [(0, _), (1, _), (12, _)] (fun x => [(13, .int .i64 (x : Int))]) (fun x => []) _ (fun x => x ≤ xs.length ∧ xs.take x = ys.take x) (fun x => xs.length - x) 0 ⟨Nat.zero_le _, rfl⟩ (hS.le (Le.cons rfl (Le.nilapp (Le.cons rfl (Le.cons rfl (Le.cons rfl (Le.nil _))))))) hR ?_
    clear hS hR; rintro k aa ww hI hS hR; dsimp only [List.cons_append, List.nil_append] at hI hS hR
    refine wp_seq_k ?_; intro K342 hK342
    refine wp_region_lit ?_
    refine sA hS hR (Yld.lss hS rfl rfl) (by decide) ?_; clear hS; intro aa hS
    refine wpList_nil ?_
    refine hK342 _ _ ?_
    refine wp_seq_k ?_; intro K343 hK343
    refine hS.splitB (t := 14) rfl ?_ ?_ <;> clear hS
    · intro hg hS
      have hk1 : k < xs.length := by omega
      have hk2 : k < ys.length := by omega
      obtain ⟨x0, hx0⟩ : ∃ y : Ky, xs[k] = y := ⟨_, rfl⟩
      obtain ⟨y0, hy0⟩ : ∃ y : Ky, ys[k] = y := ⟨_, rfl⟩
      refine condT hS rfl ?_
      refine wp_skip ?_
      refine hK343 _ _ ?_
      refine wp_seq_k ?_; intro K344 hK344
      refine wp_block ?_
      refine wp_seq_k ?_; intro K345 hK345
      refine wp_region_lit ?_
      refine sA hS hR (Yld.move hS rfl) (by decide) ?_; clear hS; intro aa hS
      refine sA hS hR (Yld.assign hS rfl) (by decide) ?_; clear hS; intro aa hS
      refine wpList_nil ?_
      refine hK345 _ _ ?_
      refine wp_seq_k ?_; intro K346 hK346
      refine drawn (by kernel_rfl) hR Ex.refl ?_; clear hR; intro ww hR hR0
      refine dA 0 rfl (by kernel_rfl) (by kernel_rfl) (by kernel_rfl) (fun _ _ _ h => h) hS hR0 (Yld.move hS rfl) (by decide) ?_; clear hS; intro aa hS
      refine dA 1 rfl (by kernel_rfl) (by kernel_rfl) (by kernel_rfl) (fun _ _ _ h => h) hS hR0 (Yld.move hS rfl) (by decide) ?_; clear hS; intro aa hS
      refine dA 2 rfl (by kernel_rfl) (by kernel_rfl) (by kernel_rfl) (fun _ _ _ h => h) hS hR0 ((by first | exact Yld.indexL (sz := 5) (k) hS rfl rfl Try.underlying24 info34 pkQ rfl (by first | rfl | omega) (by omega) | exact Yld.indexB (sz := 5) (k) hS rfl rfl Try.underlying24 info34 rfl (by first | rfl | omega) (by omega))) (by decide) ?_; clear hS; intro aa hS
      refine dA 3 rfl (by kernel_rfl) (by kernel_rfl) (by kernel_rfl) (fun _ _ _ h => h) hS hR0 (Yld.loadAgg (vs := eK x0) hS rfl Try.underlying34 rfl info34 (hx0 ▸ Rds.rec (enc := eK) (xs := xs) (k := k) pkQ (by intro _; rfl) hk1) (by rfl)) (by decide) ?_; clear hS; intro aa hS
      refine dA 4 rfl (by kernel_rfl) (by kernel_rfl) (by kernel_rfl) (fun _ _ _ h => h) hS hR0 (Yld.move hS rfl) (by decide) ?_; clear hS; intro aa hS
      refine dA 5 rfl (by kernel_rfl) (by kernel_rfl) (by kernel_rfl) (fun _ _ _ h => h) hS hR0 (Yld.move hS rfl) (by decide) ?_; clear hS; intro aa hS
      refine dA 6 rfl (by kernel_rfl) (by kernel_rfl) (by kernel_rfl) (fun _ _ _ h => h) hS hR0 ((by first | exact Yld.indexL (sz := 5) (k) hS rfl rfl Try.underlying24 info34 pkQ rfl (by first | rfl | omega) (by omega) | exact Yld.indexB (sz := 5) (k) hS rfl rfl Try.underlying24 info34 rfl (by first | rfl | omega) (by omega))) (by decide) ?_; clear hS; intro aa hS
      refine dA 7 rfl (by kernel_rfl) (by kernel_rfl) (by kernel_rfl) (fun _ _ _ h => h) hS hR0 (Yld.loadAgg (vs := eK y0) hS rfl Try.underlying34 rfl info34 (hy0 ▸ Rds.rec (enc := eK) (xs := ys) (k := k) pkQ (by intro _; rfl) hk2) (by rfl)) (by decide) ?_; clear hS; intro aa hS
      refine dA 8 rfl (by kernel_rfl) (by kernel_rfl) (by kernel_rfl) (fun _ _ _ h => h) hS hR0 (Yld.binRun hS rfl rfl (neq34 _ _ _ _ _ _ _ _ _ _ _ _)) (by decide) ?_; clear hS; intro aa hS
      refine wpAnyH_done (by kernel_rfl) ?_ _; clear hR0
      refine hK346 _ _ ?_
      refine hS.splitB (t := 24) rfl ?_ ?_ <;> clear hS
      · intro hg hS
        have hne : ¬ xs[k] = ys[k] := fun e => by
          rw [hx0, hy0] at e
          subst e
          simp at hg
        refine condT hS rfl ?_
        refine wp_seq_k ?_; intro K347 hK347
        refine wp_region_lit ?_
        refine sA hS hR (Yld.assign hS rfl) (by decide) ?_; clear hS; intro aa hS
        refine wpList_nil ?_
        refine hK347 _ _ ?_
        refine wp_ret ?_
        repeat (first | with_reducible refine thenR ?_ | with_reducible refine blockR ?_ | with_reducible refine scopeR ?_)
        refine ret1 (fn := Try.f24) (e := .ret) (.inl rfl) Try.results24 hS hR ⟨_, (.tmp rfl), ?_⟩
        refine ⟨?_, (hR.sub exQ)⟩
        first
          | exact dec_no (fun e => by subst e; omega)
          | exact dec_no (fun e => by subst e; exact hne rfl)
          | exact dec_yes (by have h := hI.2; rw [List.take_of_length_le (by omega), List.take_of_length_le (by omega)] at h; exact h)
      · intro hg hS
        have heq : xs[k] = ys[k] := by
          rw [hx0, hy0]
          obtain ⟨a1, a2, a3, a4, a5⟩ := x0
          obtain ⟨b1, b2, b3, b4, b5⟩ := y0
          simp at hg
          simp [hg]
        refine condF hS rfl ?_
        refine wp_skip ?_
        refine hK344 _ _ ?_
        refine wp_region_lit ?_
        refine sA hS hR ((by first | exact Yld.add64 hS rfl rfl (by omega) | exact Yld.add hS rfl rfl)) (by decide) ?_; clear hS; intro aa hS
        refine sA hS hR (Yld.move hS rfl) (by decide) ?_; clear hS; intro aa hS
        refine wpList_nil ?_
        
        refine ⟨k + 1, ?_, ?_, hS.le (Le.cons rfl (Le.nilapp (Le.cons rfl (Le.cons rfl (Le.cons rfl (Le.nil _)))))), hR.sub (Ex.nilapp exQ)⟩
        · exact ⟨by omega, takeK_next hI.2 hk1 hk2 heq⟩
        · omega
    · intro hg hS
      refine condF hS rfl ?_
      refine wp_exit ?_
      refine hK339 _ _ ?_
      refine wp_seq_k ?_; intro K348 hK348
      refine wp_region_lit ?_
      refine sA hS hR (Yld.assign hS rfl) (by decide) ?_; clear hS; intro aa hS
      refine wpList_nil ?_
      refine hK348 _ _ ?_
      refine wp_ret ?_
      repeat (first | with_reducible refine thenR ?_ | with_reducible refine blockR ?_ | with_reducible refine scopeR ?_)
      refine ret1 (fn := Try.f24) (e := .ret) (.inl rfl) Try.results24 hS hR ⟨_, (.tmp rfl), ?_⟩
      refine ⟨?_, (hR.sub exQ)⟩
      first
        | exact dec_no (fun e => by subst e; omega)
        | exact dec_no (fun e => by subst e; exact hne rfl)
        | exact dec_yes (by have h := hI.2; rw [List.take_of_length_le (by omega), List.take_of_length_le (by omega)] at h; exact h)
end Go.Proofs.Ytmcfmhiadlkglaa.Sx
