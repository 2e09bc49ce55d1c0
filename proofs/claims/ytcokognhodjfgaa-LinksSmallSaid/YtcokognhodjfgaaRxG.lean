/-
  
-/
import Derived.Test.YtcokognhodjfgaaRxF
namespace Go.Proofs.Ytcokognhodjfgaa.Sx
open Go
set_option linter.unusedVariables false
set_option linter.unusedSimpArgs false



set_option maxHeartbeats 2000000 in
set_option maxRecDepth 20000 in
theorem same14_ok {S n b b2 : Nat} {L : Nat → List Nat} {l : List HP} {w : World} (hR : Sep (linksA 54 65 3 b S n L :: refA 70 27 3 b2 S n L :: l) w) : CallR Try.prog 25 [.pointer (some ⟨b, 0, none⟩), .pointer (some ⟨b2, 0, none⟩)] w (fun v w' => v = .bool true ∧ Sep (linksA 54 65 3 b S n L :: refA 70 27 3 b2 S n L :: l) w') := by
  refine enter Try.func25 rfl Try.ntmps25 (Nat.le_of_ble_eq_true rfl) ?_; intro aa hS
  have hWL := (hR.pk (r := linksA _ _ _ _ _ _ _) (by repeat (first | with_reducible exact Pk.here | with_reducible apply Pk.there))).linksWL
  have hs1 := hWL.s1
  have hs2 := hWL.s2
  have hn1 := hWL.n1
  have hn2 := hWL.n2
  refine wp_seq_k ?_; intro K581 hK581
  refine wp_region_lit ?_
  refine sA hS hR (Yld.assign hS rfl) (by decide) ?_; clear hS; intro aa hS
  refine wpList_nil ?_
  refine hK581 _ _ ?_
  refine wp_seq_k ?_; intro K582 hK582
  refine wp_seq_k ?_; intro K583 hK583
  refine wp_region_lit ?_
  refine sA hS hR (Yld.assign hS rfl) (by decide) ?_; clear hS; intro aa hS
  refine wpList_nil ?_
  refine hK583 _ _ ?_
  refine wp_block ?_
  refine loopI (X := Nat) [(0, _), (1, _)] (fun x => [(5, .int .i64 ((x : Int) - 1))]) (fun x => []) _ (fun x => x ≤ S + 2) (fun x => S + 2 - x) 0 (Nat.zero_le _) (hS.le (Le.cons rfl (Le.nilapp (Le.cons rfl (Le.cons rfl (Le.nil _)))))) hR ?_
  clear hS hR; rintro x0 aa ww hI hS hR; dsimp only [List.cons_append, List.nil_append] at hI hS hR
  refine wp_seq_k ?_; intro K585 hK585
  refine wp_seq_k ?_; intro K586 hK586
  refine wp_region_lit ?_
  refine sA hS hR (Yld.move hS rfl) (by decide) ?_; clear hS; intro aa hS
  refine sA hS hR (Yld.move hS rfl) (by decide) ?_; clear hS; intro aa hS
  obtain ⟨ys, r2, c2, hys, hR⟩ := (hR.pk (r := refA _ _ _ _ _ _ _) (by repeat (first | with_reducible exact Pk.here | with_reducible apply Pk.there))).refE
  have hyl := hys.len
  refine sA hS hR (Yld.nilCheck hS rfl) (by decide) ?_; clear hS; intro aa hS
  refine sA hS hR (Yld.fieldAddr hS rfl 0 Try.underlying70 rfl rfl info3 (by decide)) (by decide) ?_; clear hS; intro aa hS
  refine sA hS hR (Yld.load1 hS rfl Try.underlying3 rfl (by first | exact Rd.blk (by repeat (first | with_reducible exact Pk.here | with_reducible apply Pk.there)) (by rfl) | exact Rd.rec (by repeat (first | with_reducible exact Pk.here | with_reducible apply Pk.there)) (by intro _; rfl) (by omega) rfl | exact Rd.rec0 (by repeat (first | with_reducible exact Pk.here | with_reducible apply Pk.there)) (by intro _; rfl) (by omega) rfl | exact Rd.flatJ (by repeat (first | with_reducible exact Pk.here | with_reducible apply Pk.there)) (by intro _; rfl) (by omega) rfl | exact Rd.flat0 (by repeat (first | with_reducible exact Pk.here | with_reducible apply Pk.there)) (by intro _; rfl) (by omega) rfl)) (by decide) ?_; clear hS; intro aa hS
  refine sA hS hR (Yld.leq hS rfl rfl) (by decide) ?_; clear hS; intro aa hS
  refine wpList_nil ?_
  refine hK586 _ _ ?_
  refine hS.splitB (t := 12) rfl ?_ ?_ <;> clear hS
  · intro hg hS
    replace hR := Sep.refI (TR := 70) (TS := 27) (TI := 3) (S := S) (b2 := b2) (n := n) hys rfl rfl (l := linksA 54 65 3 b S n L :: l) (hR.sub (by repeat (first | with_reducible exact Ex.refl | (with_reducible apply Ex.take; · repeat (first | with_reducible exact Pk.here | with_reducible apply Pk.there)) | with_reducible apply Ex.drop)))
    refine condT hS rfl ?_
    refine wp_skip ?_
    refine hK585 _ _ ?_
    refine wp_seq_k ?_; intro K587 hK587
    refine wp_block ?_
    refine wp_seq_k ?_; intro K588 hK588
    refine wp_region_lit ?_
    refine sA hS hR (Yld.move hS rfl) (by decide) ?_; clear hS; intro aa hS
    refine sA hS hR (Yld.move hS rfl) (by decide) ?_; clear hS; intro aa hS
    refine sA hS hR (Yld.move hS rfl) (by decide) ?_; clear hS; intro aa hS
    refine sB (Bcall hS rfl Try.call23 (slot14_ok ((hR.pk (r := refA _ _ _ _ _ _ _) (by repeat (first | with_reducible exact Pk.here | with_reducible apply Pk.there))).pk (r := linksA _ _ _ _ _ _ _) (by repeat (first | with_reducible exact Pk.here | with_reducible apply Pk.there)))) (by decide) ?_); clear hS; intro aa ww vv hS hp
    clear hR
    obtain ⟨rfl, hR⟩ := hp
    refine sA hS hR (Yld.not hS rfl) (by decide) ?_; clear hS; intro aa hS
    refine wpList_nil ?_
    refine hK588 _ _ ?_
    refine condF hS rfl ?_
    refine wp_skip ?_
    refine hK587 _ _ ?_
    refine wp_region_lit ?_
    refine sA hS hR (Yld.move hS rfl) (by decide) ?_; clear hS; intro aa hS
    refine sA hS hR ((by first | exact Yld.add64 hS rfl rfl (by omega) | exact Yld.add hS rfl rfl)) (by decide) ?_; clear hS; intro aa hS
    replace hS := hS.say (t := 14) (.int .i64 (((x0 + 1 : Nat) : Int) - 1)) rfl (by congr 1; omega)
    refine sA hS hR (Yld.assign hS rfl) (by decide) ?_; clear hS; intro aa hS
    refine wpList_nil ?_
    
    refine ⟨x0 + 1, ?_, ?_, hS.le (Le.cons rfl (Le.nilapp (Le.cons rfl (Le.cons rfl (Le.nil _))))), hR.sub (Ex.nilapp (by repeat (first | with_reducible exact Ex.refl | (with_reducible apply Ex.take; · repeat (first | with_reducible exact Pk.here | with_reducible apply Pk.there)) | with_reducible apply Ex.drop)))⟩
    · omega
    · omega
  · intro hg hS
    replace hR := Sep.refI (TR := 70) (TS := 27) (TI := 3) (S := S) (b2 := b2) (n := n) hys rfl rfl (l := linksA 54 65 3 b S n L :: l) (hR.sub (by repeat (first | with_reducible exact Ex.refl | (with_reducible apply Ex.take; · repeat (first | with_reducible exact Pk.here | with_reducible apply Pk.there)) | with_reducible apply Ex.drop)))
    refine condF hS rfl ?_
    refine wp_exit ?_
    refine hK582 _ _ ?_
    refine wp_seq_k ?_; intro K589 hK589
    refine wp_seq_k ?_; intro K590 hK590
    refine wp_region_lit ?_
    refine sA hS hR (Yld.assign hS rfl) (by decide) ?_; clear hS; intro aa hS
    refine wpList_nil ?_
    refine hK590 _ _ ?_
    refine wp_block ?_
    refine loopI (X := Nat) [(0, _), (1, _)] (fun x => [(6, .int .i64 ((x : Int) - 1))]) (fun x => []) _ (fun x => x ≤ n + 2) (fun x => n + 2 - x) 0 (Nat.zero_le _) (hS.le (Le.cons rfl (Le.nilapp (Le.cons rfl (Le.cons rfl (Le.nil _)))))) hR ?_
    clear hS hR; rintro x0 aa ww hI hS hR; dsimp only [List.cons_append, List.nil_append] at hI hS hR
    refine wp_seq_k ?_; intro K592 hK592
    refine wp_seq_k ?_; intro K593 hK593
    refine wp_region_lit ?_
    refine sA hS hR (Yld.move hS rfl) (by decide) ?_; clear hS; intro aa hS
    refine sA hS hR (Yld.move hS rfl) (by decide) ?_; clear hS; intro aa hS
    obtain ⟨ys, r2, c2, hys, hR⟩ := (hR.pk (r := refA _ _ _ _ _ _ _) (by repeat (first | with_reducible exact Pk.here | with_reducible apply Pk.there))).refE
    have hyl := hys.len
    refine sA hS hR (Yld.nilCheck hS rfl) (by decide) ?_; clear hS; intro aa hS
    refine sA hS hR (Yld.fieldAddr hS rfl 1 Try.underlying70 rfl rfl info26 (by decide)) (by decide) ?_; clear hS; intro aa hS
    refine sA hS hR (Yld.load1 hS rfl Try.underlying26 rfl (by first | exact Rd.blk (by repeat (first | with_reducible exact Pk.here | with_reducible apply Pk.there)) (by rfl) | exact Rd.rec (by repeat (first | with_reducible exact Pk.here | with_reducible apply Pk.there)) (by intro _; rfl) (by omega) rfl | exact Rd.rec0 (by repeat (first | with_reducible exact Pk.here | with_reducible apply Pk.there)) (by intro _; rfl) (by omega) rfl | exact Rd.flatJ (by repeat (first | with_reducible exact Pk.here | with_reducible apply Pk.there)) (by intro _; rfl) (by omega) rfl | exact Rd.flat0 (by repeat (first | with_reducible exact Pk.here | with_reducible apply Pk.there)) (by intro _; rfl) (by omega) rfl)) (by decide) ?_; clear hS; intro aa hS
    refine sA hS hR (Yld.len hS rfl Try.underlying26) (by decide) ?_; clear hS; intro aa hS
    refine sA hS hR (Yld.leq hS rfl rfl) (by decide) ?_; clear hS; intro aa hS
    refine wpList_nil ?_
    refine hK593 _ _ ?_
    refine hS.splitB (t := 26) rfl ?_ ?_ <;> clear hS
    · intro hg hS
      replace hR := Sep.refI (TR := 70) (TS := 27) (TI := 3) (S := S) (b2 := b2) (n := n) hys rfl rfl (l := linksA 54 65 3 b S n L :: l) (hR.sub (by repeat (first | with_reducible exact Ex.refl | (with_reducible apply Ex.take; · repeat (first | with_reducible exact Pk.here | with_reducible apply Pk.there)) | with_reducible apply Ex.drop)))
      refine condT hS rfl ?_
      refine wp_skip ?_
      refine hK592 _ _ ?_
      refine wp_seq_k ?_; intro K594 hK594
      refine wp_block ?_
      refine wp_seq_k ?_; intro K595 hK595
      refine wp_region_lit ?_
      refine sA hS hR (Yld.move hS rfl) (by decide) ?_; clear hS; intro aa hS
      refine sA hS hR (Yld.move hS rfl) (by decide) ?_; clear hS; intro aa hS
      refine sA hS hR (Yld.move hS rfl) (by decide) ?_; clear hS; intro aa hS
      refine sB (Bcall hS rfl Try.call24 (list14_ok ((hR.pk (r := refA _ _ _ _ _ _ _) (by repeat (first | with_reducible exact Pk.here | with_reducible apply Pk.there))).pk (r := linksA _ _ _ _ _ _ _) (by repeat (first | with_reducible exact Pk.here | with_reducible apply Pk.there)))) (by decide) ?_); clear hS; intro aa ww vv hS hp
      clear hR
      obtain ⟨rfl, hR⟩ := hp
      refine sA hS hR (Yld.not hS rfl) (by decide) ?_; clear hS; intro aa hS
      refine wpList_nil ?_
      refine hK595 _ _ ?_
      refine condF hS rfl ?_
      refine wp_skip ?_
      refine hK594 _ _ ?_
      refine wp_region_lit ?_
      refine sA hS hR (Yld.move hS rfl) (by decide) ?_; clear hS; intro aa hS
      refine sA hS hR ((by first | exact Yld.add64 hS rfl rfl (by omega) | exact Yld.add hS rfl rfl)) (by decide) ?_; clear hS; intro aa hS
      replace hS := hS.say (t := 28) (.int .i64 (((x0 + 1 : Nat) : Int) - 1)) rfl (by congr 1; omega)
      refine sA hS hR (Yld.assign hS rfl) (by decide) ?_; clear hS; intro aa hS
      refine wpList_nil ?_
      
      refine ⟨x0 + 1, ?_, ?_, hS.le (Le.cons rfl (Le.nilapp (Le.cons rfl (Le.cons rfl (Le.nil _))))), hR.sub (Ex.nilapp (by repeat (first | with_reducible exact Ex.refl | (with_reducible apply Ex.take; · repeat (first | with_reducible exact Pk.here | with_reducible apply Pk.there)) | with_reducible apply Ex.drop)))⟩
      · omega
      · omega
    · intro hg hS
      replace hR := Sep.refI (TR := 70) (TS := 27) (TI := 3) (S := S) (b2 := b2) (n := n) hys rfl rfl (l := linksA 54 65 3 b S n L :: l) (hR.sub (by repeat (first | with_reducible exact Ex.refl | (with_reducible apply Ex.take; · repeat (first | with_reducible exact Pk.here | with_reducible apply Pk.there)) | with_reducible apply Ex.drop)))
      refine condF hS rfl ?_
      refine wp_exit ?_
      refine hK589 _ _ ?_
      refine wp_seq_k ?_; intro K596 hK596
      refine wp_region_lit ?_
      refine sA hS hR (Yld.assign hS rfl) (by decide) ?_; clear hS; intro aa hS
      refine wpList_nil ?_
      refine hK596 _ _ ?_
      refine wp_ret ?_
      repeat (first | with_reducible refine thenR ?_ | with_reducible refine blockR ?_ | with_reducible refine scopeR ?_)
      refine ret1 (fn := Try.f25) (e := .ret) (.inl rfl) Try.results25 hS hR ⟨_, (.tmp rfl), ?_⟩
      exact ⟨rfl, (hR.sub (by repeat (first | with_reducible exact Ex.refl | (with_reducible apply Ex.take; · repeat (first | with_reducible exact Pk.here | with_reducible apply Pk.there)) | with_reducible apply Ex.drop)))⟩
end Go.Proofs.Ytcokognhodjfgaa.Sx
