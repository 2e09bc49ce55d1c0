/-
 
-/
import Derived.Test.YtkhdejjompbklaaGreatOLrB
namespace Go.Proofs.YtkhdejjompbklaaGreat.Sx
open Go
set_option maxRecDepth 20000
set_option linter.unusedVariables false
set_option linter.unusedSimpArgs false
theorem lrall1_ok {v0 : Value} {l : List HP} {w : World} (hR : Sep l w) : CallR Tryz.prog 73 [v0] w (fun v w' => v = .bool true ∧ Sep l w') := by
 refine enter Tryz.func73 rfl Tryz.ntmps73 (Nat.le_of_ble_eq_true rfl) ?_; intro aa hS
 refine wp_seq_k ?_; intro K458 hK458
 refine wp_region_lit ?_
 revert aa
 refine qN hR ?_
 intro aa hS
 refine wpList_nil ?_
 refine hK458 _ _ ?_
 refine wp_seq_k ?_; intro K459 hK459
 refine wp_region_lit ?_
 revert aa
 refine qN hR ?_
 intro aa hS
 refine wpList_nil ?_
 refine hK459 _ _ ?_
 refine wp_ret ?_
 repeat first | with_reducible refine thenR ?_ | with_reducible refine blockR ?_ | with_reducible refine scopeR ?_
 refine ret1 (fn := Tryz.f73) (e := .ret) (.inl rfl) Tryz.results73 hS hR ⟨_, (.tmp rfl), ?_⟩
 exact ⟨rfl, (hR.sub exQ)⟩
set_option maxHeartbeats 2000000 in
theorem lrthose_all {S b : Nat} {ord : List Nat} {T : Nat → Int} {now : Int} {l : List HP} {w : World} (hR : Sep (lruA 125 183 180 3 b S ord T now :: l) w) : CallR Tryz.prog 72 [.pointer (some ⟨b, 0, none⟩), .func (.func 73) #[] #[]] w (fun v w' => ∃ r c, v = .slice r (cst (ord.filter (fun _ => true))).length c ∧ Sep (sls r (cst (ord.filter (fun _ => true))).length c 3 1 ((cst (ord.filter (fun _ => true))).flatMap e1) :: lruA 125 183 180 3 b S ord T now :: l) w') := by
 refine enterX Tryz.func72 rfl Tryz.ntmps72 (Nat.le_of_ble_eq_true rfl) ?_; intro aa hS
 obtain ⟨bl, r, c, hWL, hbr, hR⟩ := (hR.pk (r := lruA _ _ _ _ _ _ _ _ _) pkQ).lruAE
 obtain ⟨hnd, hlt, hol⟩ := hWL.ords
 have hs2 := hWL.s2
 refine Go.wpIn_seq_k ?_; intro K460 hK460
 refine Go.wpIn_region_lit ?_
 refine xB hS (Bbox hS hR rfl (by rfl) (by decide) ?_); clear hS hR; intro aa ww bb3 hS hR; refine ⟨hS.defers, ?_⟩
 refine xA hS hR (Yld.assign hS rfl) (by decide) ?_; clear hS; intro aa hS
 refine Go.wpListIn_nil ?_
 refine hK460 _ _ ?_
 refine Go.wpIn_seq_k ?_; intro K461 hK461
 refine Go.wpIn_region_lit ?_
 refine xB hS (Balloc hS hR info36 (by rfl) (by rfl) (by decide) ?_); clear hS hR; intro aa ww bb5 hS hR; refine ⟨hS.defers, ?_⟩
 refine Go.wpListIn_nil ?_
 refine hK461 _ _ ?_
 refine Go.wpIn_seq_k ?_; intro K462 hK462
 refine Go.wpIn_seq_k ?_; intro K463 hK463
 refine Go.wpIn_region_lit ?_
 refine xA hS hR (Yld.move hS rfl) (by decide) ?_; clear hS; intro aa hS
 refine xB hS (Bcall hS rfl Tryz.call110 (lreach_ok hR) (by decide) ?_); clear hS; intro aa ww vv hS hp; refine ⟨hS.defers, ?_⟩
 clear hR
 obtain ⟨p1, rfl, hR⟩ := hp
 refine Go.wpListIn_nil ?_
 refine hK463 _ _ ?_
 refine Go.wpIn_block ?_
 replace hS := hS.le (T := [(3, _), (4, _), (5, _), (8, _)]) (Le.cons rfl (Le.cons rfl (Le.cons rfl (Le.cons rfl (Le.nil _)))))
 replace hR := hR.slsNil (T := 3) (sz := 1)
 replace hR := hR.pk (r := blk bb5 _ _) pkQ
 change Sep (blk bb5 [.slice none ([] : List Int).length 0] 36 :: sls none ([] : List Int).length 0 3 1 (([] : List Int).flatMap e1) :: _) _ at hR
 refine yrange hS hR rfl Tryz.call135 ?_
 intro D464 L464 lr ww hlr hR
 have hround : ∀ (Y : List HP) (i : Nat) (w : World), i < ord.length → Sep ((fun i : Nat => box (fun x : List Int × Option Addr × Nat => x.1 = cst ((ord.take i).filter (fun _ => true))) (fun x => [lr .ready none, blk b [.pointer (some ⟨bl, 0, none⟩), .slice r S c, .int .i64 now] 125, linksA 183 180 3 bl S 1 (one ord), sls r S c 3 1 ((tab S T).flatMap e1), blk bb3 [.func (.func 73) #[] #[]] 39, blk bb5 [.slice x.2.1 x.1.length x.2.2] 36, sls x.2.1 x.1.length x.2.2 3 1 (x.1.flatMap e1)])) i :: Y) w → YieldR Tryz.prog L464 [.int .i64 (((ord[i]?.getD 0) : Nat) : Int)] w (fun zb zw => Sep ((bif zb then (fun i : Nat => box (fun x : List Int × Option Addr × Nat => x.1 = cst ((ord.take i).filter (fun _ => true))) (fun x => [lr .ready none, blk b [.pointer (some ⟨bl, 0, none⟩), .slice r S c, .int .i64 now] 125, linksA 183 180 3 bl S 1 (one ord), sls r S c 3 1 ((tab S T).flatMap e1), blk bb3 [.func (.func 73) #[] #[]] 39, blk bb5 [.slice x.2.1 x.1.length x.2.2] 36, sls x.2.1 x.1.length x.2.2 3 1 (x.1.flatMap e1)])) (i + 1) else (pure' False)) :: Y) zw) := by
  intro Y i ww hi hR
  obtain ⟨⟨xs, r0, c0⟩, hI, hR⟩ := hR.boxE
  try dsimp only [List.cons_append, List.nil_append] at hI hR
  refine yround hlr hR rfl rfl ?_; clear hS; intro aa hS; dsimp only [rslots, List.zip, List.zipWith] at hS
  have hxl : xs.length ≤ i := by rw [hI, cst_len]; exact Nat.le_trans (List.length_filter_le _ _) (by rw [List.length_take]; omega)
  have hjS : (ord[i]?.getD 0) < S := by rw [List.getElem?_eq_getElem hi]; exact hlt _ (List.getElem_mem hi)
  have hp : (fun _ => true) (ord[i]?.getD 0) = true ∨ ¬ (fun _ => true) (ord[i]?.getD 0) = true := Classical.em _
  refine Go.wpIn_region_lit ?_
  refine xA hS hR (Yld.assign hS rfl) (by decide) ?_; clear hS; intro aa hS
  refine Go.wpListIn_nil ?_
  refine ⟨_, _, rfl, (hR.pk (r := lr _ _) pkQ), ?_⟩; clear hR; intro ww hR
  refine Go.wpIn_block ?_
  refine Go.wpIn_seq_k ?_; intro K465 hK465
  refine Go.wpIn_region_lit ?_
  refine xA hS hR (Yld.load1 hS rfl Tryz.underlying39 rfl rdQ) (by decide) ?_; clear hS; intro aa hS
  refine xA hS hR (Yld.move hS rfl) (by decide) ?_; clear hS; intro aa hS
  refine xB hS (BcallV (first := []) (caps := []) hS rfl rfl Tryz.call73 (lrall1_ok hR) (by decide) ?_); clear hS; intro aa ww vv hS hp; refine ⟨hS.defers, ?_⟩
  clear hR
  obtain ⟨rfl, hR⟩ := hp
  replace hS := hS.sayB (t := 12) true rfl (by rfl)
  refine Go.wpListIn_nil ?_
  refine hK465 _ _ ?_
  refine xcondT hS rfl ?_
  refine Go.wpIn_region_lit ?_
  refine xA hS hR (Yld.load1 hS rfl Tryz.underlying36 rfl rdQ) (by decide) ?_; clear hS; intro aa hS
  refine xA hS hR (Yld.move hS rfl) (by decide) ?_; clear hS; intro aa hS
  refine xB hS (BbuildSlice hS hR rfl (bls36_1_0 _) (by decide) ?_); clear hS hR; intro aa ww bb15 hS hR; refine ⟨hS.defers, ?_⟩
  refine xB hS (BappendR (sz := 1) hS hR rfl rfl Tryz.underlying36 info3 rfl rfl (by rfl) pkQ (XC.one ((((ord[i]?.getD 0) : Nat) : Int)) pkQ (by rfl) rfl) (by intro _; rfl) (by show (_ + _) * 8 ≤ _; exact lenQ) lenQ (by first | rfl | (simp; done) | (simp; omega)) (by decide) ?_); clear hS hR; intro aa ww r16 c16 hS hR; refine ⟨hS.defers, ?_⟩
  refine xB hS (Bstore hS hR rfl rfl (by rfl) info36 (by rfl) pkQ (by rfl) (Nat.le_of_ble_eq_true rfl) ?_); clear hR; intro ww hR; refine ⟨hS.defers, ?_⟩
  refine Go.wpListIn_nil ?_
  repeat (first | with_reducible refine thenR ?_ | with_reducible refine blockR ?_ | with_reducible refine scopeR ?_ | with_reducible refine thenX ?_ | with_reducible refine blockX ?_ | with_reducible refine blockY (by rfl) ?_)
  refine ⟨_, (hR.pk (r := lr _ _) pkQ), ?_⟩; clear hR; intro ww hR
  try dsimp only [lay, List.set] at hR
  exact Sep.boxI (xs ++ [(((ord[i]?.getD 0) : Nat) : Int)], _, _) (by dsimp only; rw [cst_filter (e := 0) hi]; rw [if_pos rfl, hI]) (by dsimp only [List.cons_append, List.nil_append]; exact hR.sub exQ)
 replace hR := Sep.boxI (X := List Int × Option Addr × Nat) (C := fun x : List Int × Option Addr × Nat => x.1 = cst ((ord.take 0).filter (fun _ => true))) (L := fun x : List Int × Option Addr × Nat => [lr .ready none, blk b [.pointer (some ⟨bl, 0, none⟩), .slice r S c, .int .i64 now] 125, linksA 183 180 3 bl S 1 (one ord), sls r S c 3 1 ((tab S T).flatMap e1), blk bb3 [.func (.func 73) #[] #[]] 39, blk bb5 [.slice x.2.1 x.1.length x.2.2] 36, sls x.2.1 x.1.length x.2.2 3 1 (x.1.flatMap e1)]) ([], none, 0) (rfl) (by dsimp only [List.cons_append, List.nil_append]; exact hR.sub exQ)
 refine CallR.mono (each_it (J := (fun i : Nat => box (fun x : List Int × Option Addr × Nat => x.1 = cst ((ord.take i).filter (fun _ => true))) (fun x => [lr .ready none, blk b [.pointer (some ⟨bl, 0, none⟩), .slice r S c, .int .i64 now] 125, linksA 183 180 3 bl S 1 (one ord), sls r S c 3 1 ((tab S T).flatMap e1), blk bb3 [.func (.func 73) #[] #[]] 39, blk bb5 [.slice x.2.1 x.1.length x.2.2] 36, sls x.2.1 x.1.length x.2.2 3 1 (x.1.flatMap e1)]))) (E := (pure' False)) (S := S) ((hR.pk (r := blk p1 _ _) pkQ).pk (r := box _ _) pkQ) hWL (fun i Y w h => lens h) hround) ?_; clear hR; rintro vv ww (hR | hR)
 ·
  obtain ⟨⟨xs, r0, c0⟩, hI, hR⟩ := hR.boxE
  try dsimp only [List.cons_append, List.nil_append] at hI hR
  refine ⟨.ready, none, _, by simp, hR, ?_⟩; clear hR; intro ww hR
  refine hK462 _ _ ?_
  refine Go.wpIn_seq_k ?_; intro K466 hK466
  refine Go.wpIn_region_lit ?_
  refine xA hS hR (Yld.load1 hS rfl Tryz.underlying36 rfl rdQ) (by decide) ?_; clear hS; intro aa hS
  refine xA hS hR (Yld.assign hS rfl) (by decide) ?_; clear hS; intro aa hS
  refine Go.wpListIn_nil ?_
  refine hK466 _ _ ?_
  refine Go.wpIn_ret ?_
  repeat first | with_reducible refine thenR ?_ | with_reducible refine blockR ?_ | with_reducible refine scopeR ?_
  replace hR := hR.pk (r := DF D464) pkQ
  refine xret1 (fn := Tryz.f72) (e := .ret) [D464] rfl (.inl rfl) Tryz.results72 hS hR ?_; clear hR; intro ww hR; refine ⟨_, (.tmp rfl), ?_⟩
  rw [List.take_of_length_le (Nat.le_refl _)] at hI
  rw [hI] at hR
  have h9 : Sep (lruA 125 183 180 3 b S ord T now :: sls r0 (cst (ord.filter (fun _ => true))).length c0 3 1 ((cst (ord.filter (fun _ => true))).flatMap e1) :: l) _ := Sep.lruAI (TU := 125) (TL := 183) (TN := 180) (TI := 3) (b := b) rfl (hR.sub exQ)
  exact ⟨r0, c0, by rw [hI], h9.sub exQ⟩
 ·
  exact absurd (hR.pureE).1 id
theorem lrAll_ok {S b : Nat} {ord : List Nat} {T : Nat → Int} {now : Int} {l : List HP} {w : World} (hR : Sep (lruA 125 183 180 3 b S ord T now :: l) w) : CallR Tryz.prog 37 [.pointer (some ⟨b, 0, none⟩)] w (fun v w' => ∃ r c, v = .slice r (cst ord).length c ∧ Sep (sls r (cst ord).length c 3 1 ((cst ord).flatMap e1) :: lruA 125 183 180 3 b S ord T now :: l) w') := by
 refine enter Tryz.func37 rfl Tryz.ntmps37 (Nat.le_of_ble_eq_true rfl) ?_; intro aa hS
 refine wp_seq_k ?_; intro K467 hK467
 refine wp_region_lit ?_
 revert aa
 refine qN hR ?_
 intro aa hS
 refine wpList_nil ?_
 refine hK467 _ _ ?_
 refine wp_seq_k ?_; intro K468 hK468
 refine wp_region_lit ?_
 revert aa
 refine qM hR ?_
 intro aa hS
 refine sB (Bcall hS rfl Tryz.call72 (lrthose_all (hR.pk (r := lruA _ _ _ _ _ _ _ _ _) pkQ)) (by decide) ?_); clear hS; intro aa ww vv hS hp
 clear hR
 obtain ⟨ra, ca, rfl, hR⟩ := hp
 rw [show ord.filter (fun _ => true) = ord from by simp] at hS hR
 revert aa
 refine qN hR ?_
 intro aa hS
 refine wpList_nil ?_
 refine hK468 _ _ ?_
 refine wp_ret ?_
 repeat first | with_reducible refine thenR ?_ | with_reducible refine blockR ?_ | with_reducible refine scopeR ?_
 refine ret1 (fn := Tryz.f37) (e := .ret) (.inl rfl) Tryz.results37 hS hR ⟨_, (.tmp rfl), ?_⟩
 exact ⟨_, _, rfl, (hR.sub exQ)⟩
end Go.Proofs.YtkhdejjompbklaaGreat.Sx
