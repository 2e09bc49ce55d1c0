/-
  
-/
import Derived.Test.YtojeibjlkbffcaaLrB
namespace Go.Proofs.Ytojeibjlkbffcaa.Sx
open Go
set_option linter.unusedVariables false
set_option linter.unusedSimpArgs false

theorem bls27_1_0 (x0 : Int) (w : World) : (Instr.buildSlice 27 1 [(0, .int .i64 x0)].toArray).run Try.prog w = .ok (.slice (some ⟨w.heap.size, 0, none⟩) 1 1) (w.alloc (.cells ([.int .i64 x0] : List Value).toArray 3)) := by kernel_rfl

set_option maxRecDepth 20000 in
theorem lrall1_ok {v0 : Value} {l : List HP} {w : World} (hR : Sep l w) : CallR Try.prog 28 [v0] w (fun v w' => v = .bool true ∧ Sep l w') := by
  refine enter Try.func28 rfl Try.ntmps28 (Nat.le_of_ble_eq_true rfl) ?_; intro aa hS
  refine wp_seq_k ?_; intro K195 hK195
  refine wp_region_lit ?_
  refine sA hS hR (Yld.assign hS rfl) (by decide) ?_; clear hS; intro aa hS
  refine wpList_nil ?_
  refine hK195 _ _ ?_
  refine wp_seq_k ?_; intro K196 hK196
  refine wp_region_lit ?_
  refine sA hS hR (Yld.assign hS rfl) (by decide) ?_; clear hS; intro aa hS
  refine wpList_nil ?_
  refine hK196 _ _ ?_
  refine wp_ret ?_
  repeat (first | with_reducible refine thenR ?_ | with_reducible refine blockR ?_ | with_reducible refine scopeR ?_)
  refine ret1 (fn := Try.f28) (e := .ret) (.inl rfl) Try.results28 hS hR ⟨_, (.tmp rfl), ?_⟩
  exact ⟨rfl, (hR.sub (by repeat (first | with_reducible exact Ex.refl | (with_reducible apply Ex.take; · repeat (first | with_reducible exact Pk.here | with_reducible apply Pk.there)) | with_reducible apply Ex.drop)))⟩
set_option maxRecDepth 20000 in
theorem lrsince1_ok {S b bl c c2 c3 j : Nat} {r : Option Addr} {now t0 : Int} {T : Nat → Int} {l : List HP} {w : World} (hR : Sep (blk c2 [.pointer (some ⟨b, 0, none⟩)] 23 :: blk c3 [.int .i64 t0] 3 :: blk b [.pointer (some ⟨bl, 0, none⟩), .slice r S c, .int .i64 now] 56 :: sls r S c 3 1 ((tab S T).flatMap e1) :: l) w) (hbr : Bk r) (hj : j < S) : CallR Try.prog 34 [.int .i64 (j : Int), .pointer (some ⟨c2, 0, none⟩), .pointer (some ⟨c3, 0, none⟩)] w (fun v w' => v = .bool (decide (T j > t0)) ∧ Sep (blk c2 [.pointer (some ⟨b, 0, none⟩)] 23 :: blk c3 [.int .i64 t0] 3 :: blk b [.pointer (some ⟨bl, 0, none⟩), .slice r S c, .int .i64 now] 56 :: sls r S c 3 1 ((tab S T).flatMap e1) :: l) w') := by
  refine enter Try.func34 rfl Try.ntmps34 (Nat.le_of_ble_eq_true rfl) ?_; intro aa hS
  refine wp_seq_k ?_; intro K197 hK197
  refine wp_region_lit ?_
  refine sA hS hR (Yld.assign hS rfl) (by decide) ?_; clear hS; intro aa hS
  refine wpList_nil ?_
  refine hK197 _ _ ?_
  refine wp_seq_k ?_; intro K198 hK198
  refine drawn (by kernel_rfl) hR Ex.refl ?_; clear hR; intro ww hR hR0
  refine dA 0 rfl (by kernel_rfl) (by kernel_rfl) (by kernel_rfl) (fun _ _ _ h => h) hS hR0 (Yld.load1 hS rfl Try.underlying23 rfl (by first | exact Rd.blk (by repeat (first | with_reducible exact Pk.here | with_reducible apply Pk.there)) (by rfl) | exact Rd.rec (by repeat (first | with_reducible exact Pk.here | with_reducible apply Pk.there)) (by intro _; rfl) (by first | omega | (rw [tab_len]; omega)) rfl | exact Rd.rec0 (by repeat (first | with_reducible exact Pk.here | with_reducible apply Pk.there)) (by intro _; rfl) (by first | omega | (rw [tab_len]; omega)) rfl | exact Rd.flatJ (by repeat (first | with_reducible exact Pk.here | with_reducible apply Pk.there)) (by intro _; rfl) (by first | omega | (rw [tab_len]; omega)) rfl | exact Rd.flat0 (by repeat (first | with_reducible exact Pk.here | with_reducible apply Pk.there)) (by intro _; rfl) (by first | omega | (rw [tab_len]; omega)) rfl)) (by decide) ?_; clear hS; intro aa hS
  refine dA 1 rfl (by kernel_rfl) (by kernel_rfl) (by kernel_rfl) (fun _ _ _ h => h) hS hR0 (Yld.nilCheck hS rfl) (by decide) ?_; clear hS; intro aa hS
  refine dA 2 rfl (by kernel_rfl) (by kernel_rfl) (by kernel_rfl) (fun _ _ _ h => h) hS hR0 (Yld.fieldAddr hS rfl 1 Try.underlying56 rfl rfl info27 (by decide)) (by decide) ?_; clear hS; intro aa hS
  refine dA 3 rfl (by kernel_rfl) (by kernel_rfl) (by kernel_rfl) (fun _ _ _ h => h) hS hR0 (Yld.load1 hS rfl Try.underlying27 rfl (by first | exact Rd.blk (by repeat (first | with_reducible exact Pk.here | with_reducible apply Pk.there)) (by rfl) | exact Rd.rec (by repeat (first | with_reducible exact Pk.here | with_reducible apply Pk.there)) (by intro _; rfl) (by first | omega | (rw [tab_len]; omega)) rfl | exact Rd.rec0 (by repeat (first | with_reducible exact Pk.here | with_reducible apply Pk.there)) (by intro _; rfl) (by first | omega | (rw [tab_len]; omega)) rfl | exact Rd.flatJ (by repeat (first | with_reducible exact Pk.here | with_reducible apply Pk.there)) (by intro _; rfl) (by first | omega | (rw [tab_len]; omega)) rfl | exact Rd.flat0 (by repeat (first | with_reducible exact Pk.here | with_reducible apply Pk.there)) (by intro _; rfl) (by first | omega | (rw [tab_len]; omega)) rfl)) (by decide) ?_; clear hS; intro aa hS
  refine dA 4 rfl (by kernel_rfl) (by kernel_rfl) (by kernel_rfl) (fun _ _ _ h => h) hS hR0 (Yld.move hS rfl) (by decide) ?_; clear hS; intro aa hS
  refine dA 5 rfl (by kernel_rfl) (by kernel_rfl) (by kernel_rfl) (fun _ _ _ h => h) hS hR0 ((by first | exact Yld.indexH (sz := 1) (j) hS rfl rfl Try.underlying27 info3 (by assumption) rfl (by first | rfl | omega) (by omega) | exact Yld.indexL (sz := 1) (j) hS rfl rfl Try.underlying27 info3 (by repeat (first | with_reducible exact Pk.here | with_reducible apply Pk.there)) rfl (by first | rfl | omega) (by omega) | exact Yld.indexB (sz := 1) (j) hS rfl rfl Try.underlying27 info3 rfl (by first | rfl | omega) (by omega))) (by decide) ?_; clear hS; intro aa hS
  refine dA 6 rfl (by kernel_rfl) (by kernel_rfl) (by kernel_rfl) (fun _ _ _ h => h) hS hR0 (Yld.load1 hS rfl Try.underlying3 rfl (Rd.rec0 (k := j) (xs := tab S T) (v := .int .i64 (T j)) (by repeat (first | with_reducible exact Pk.here | with_reducible apply Pk.there)) (by intro _; rfl) (by rw [tab_len]; omega) (by rw [tab_get]; rfl))) (by decide) ?_; clear hS; intro aa hS
  refine dA 7 rfl (by kernel_rfl) (by kernel_rfl) (by kernel_rfl) (fun _ _ _ h => h) hS hR0 (Yld.load1 hS rfl Try.underlying3 rfl (by first | exact Rd.blk (by repeat (first | with_reducible exact Pk.here | with_reducible apply Pk.there)) (by rfl) | exact Rd.rec (by repeat (first | with_reducible exact Pk.here | with_reducible apply Pk.there)) (by intro _; rfl) (by first | omega | (rw [tab_len]; omega)) rfl | exact Rd.rec0 (by repeat (first | with_reducible exact Pk.here | with_reducible apply Pk.there)) (by intro _; rfl) (by first | omega | (rw [tab_len]; omega)) rfl | exact Rd.flatJ (by repeat (first | with_reducible exact Pk.here | with_reducible apply Pk.there)) (by intro _; rfl) (by first | omega | (rw [tab_len]; omega)) rfl | exact Rd.flat0 (by repeat (first | with_reducible exact Pk.here | with_reducible apply Pk.there)) (by intro _; rfl) (by first | omega | (rw [tab_len]; omega)) rfl)) (by decide) ?_; clear hS; intro aa hS
  refine dA 8 rfl (by kernel_rfl) (by kernel_rfl) (by kernel_rfl) (fun _ _ _ h => h) hS hR0 (Yld.gtr hS rfl rfl) (by decide) ?_; clear hS; intro aa hS
  refine dA 9 rfl (by kernel_rfl) (by kernel_rfl) (by kernel_rfl) (fun _ _ _ h => h) hS hR0 (Yld.assign hS rfl) (by decide) ?_; clear hS; intro aa hS
  refine wpAnyH_done (by kernel_rfl) ?_ _; clear hR0
  refine hK198 _ _ ?_
  refine wp_ret ?_
  repeat (first | with_reducible refine thenR ?_ | with_reducible refine blockR ?_ | with_reducible refine scopeR ?_)
  refine ret1 (fn := Try.f34) (e := .ret) (.inl rfl) Try.results34 hS hR ⟨_, (.tmp rfl), ?_⟩
  exact ⟨rfl, (hR.sub (by repeat (first | with_reducible exact Ex.refl | (with_reducible apply Ex.take; · repeat (first | with_reducible exact Pk.here | with_reducible apply Pk.there)) | with_reducible apply Ex.drop)))⟩
set_option maxHeartbeats 2000000 in
set_option maxRecDepth 20000 in
theorem lrthose_all {S b : Nat} {ord : List Nat} {T : Nat → Int} {now : Int} {l : List HP} {w : World} (hR : Sep (lruA 56 80 77 3 b S ord T now :: l) w) : CallR Try.prog 27 [.pointer (some ⟨b, 0, none⟩), .func (.func 28) #[] #[]] w (fun v w' => ∃ r c, v = .slice r (cst (ord.filter (fun _ => true))).length c ∧ Sep (sls r (cst (ord.filter (fun _ => true))).length c 3 1 ((cst (ord.filter (fun _ => true))).flatMap e1) :: lruA 56 80 77 3 b S ord T now :: l) w') := by
  refine enterX Try.func27 rfl Try.ntmps27 (Nat.le_of_ble_eq_true rfl) ?_; intro aa hS
  obtain ⟨bl, r, c, hWL, hbr, hR⟩ := (hR.pk (r := lruA _ _ _ _ _ _ _ _ _) (by repeat (first | with_reducible exact Pk.here | with_reducible apply Pk.there))).lruAE
  obtain ⟨hnd, hlt, hol⟩ := hWL.ords
  have hs2 := hWL.s2
  refine Go.wpIn_seq_k ?_; intro K199 hK199
  refine Go.wpIn_region_lit ?_
  refine xB hS (Bbox hS hR rfl (by rfl) (by decide) ?_); clear hS hR; intro aa ww bb3 hS hR; refine ⟨hS.defers, ?_⟩
  refine xA hS hR (Yld.assign hS rfl) (by decide) ?_; clear hS; intro aa hS
  refine Go.wpListIn_nil ?_
  refine hK199 _ _ ?_
  refine Go.wpIn_seq_k ?_; intro K200 hK200
  refine Go.wpIn_region_lit ?_
  refine xB hS (Balloc hS hR info27 (by rfl) (by rfl) (by decide) ?_); clear hS hR; intro aa ww bb5 hS hR; refine ⟨hS.defers, ?_⟩
  refine Go.wpListIn_nil ?_
  refine hK200 _ _ ?_
  refine Go.wpIn_seq_k ?_; intro K201 hK201
  refine Go.wpIn_seq_k ?_; intro K202 hK202
  refine Go.wpIn_region_lit ?_
  refine xA hS hR (Yld.move hS rfl) (by decide) ?_; clear hS; intro aa hS
  refine xB hS (Bcall hS rfl Try.call43 (lreach_ok hR) (by decide) ?_); clear hS; intro aa ww vv hS hp; refine ⟨hS.defers, ?_⟩
  clear hR
  obtain ⟨p1, rfl, hR⟩ := hp
  refine Go.wpListIn_nil ?_
  refine hK202 _ _ ?_
  refine Go.wpIn_block ?_
  replace hS := hS.le (T := [(3, _), (4, _), (5, _), (8, _)]) (Le.cons rfl (Le.cons rfl (Le.cons rfl (Le.cons rfl (Le.nil _)))))
  replace hR := hR.slsNil (T := 3) (sz := 1)
  replace hR := hR.pk (r := blk bb5 _ _) (by repeat (first | with_reducible exact Pk.here | with_reducible apply Pk.there))
  change Sep (blk bb5 [.slice none ([] : List Int).length 0] 27 :: sls none ([] : List Int).length 0 3 1 (([] : List Int).flatMap e1) :: _) _ at hR
  refine yrange hS hR rfl Try.call49 ?_
  intro D203 L203 lr ww hlr hR
  have hround : ∀ (Y : List HP) (i : Nat) (w : World), i < ord.length → Sep ((fun i : Nat => box (fun x : List Int × Option Addr × Nat => x.1 = cst ((ord.take i).filter (fun _ => true))) (fun x => [lr .ready none, blk b [.pointer (some ⟨bl, 0, none⟩), .slice r S c, .int .i64 now] 56, linksA 80 77 3 bl S 1 (one ord), sls r S c 3 1 ((tab S T).flatMap e1), blk bb3 [.func (.func 28) #[] #[]] 46, blk bb5 [.slice x.2.1 x.1.length x.2.2] 27, sls x.2.1 x.1.length x.2.2 3 1 (x.1.flatMap e1)])) i :: Y) w → YieldR Try.prog L203 [.int .i64 (((ord[i]?.getD 0) : Nat) : Int)] w (fun zb zw => Sep ((bif zb then (fun i : Nat => box (fun x : List Int × Option Addr × Nat => x.1 = cst ((ord.take i).filter (fun _ => true))) (fun x => [lr .ready none, blk b [.pointer (some ⟨bl, 0, none⟩), .slice r S c, .int .i64 now] 56, linksA 80 77 3 bl S 1 (one ord), sls r S c 3 1 ((tab S T).flatMap e1), blk bb3 [.func (.func 28) #[] #[]] 46, blk bb5 [.slice x.2.1 x.1.length x.2.2] 27, sls x.2.1 x.1.length x.2.2 3 1 (x.1.flatMap e1)])) (i + 1) else (pure' False)) :: Y) zw) := by
    intro Y i ww hi hR
    obtain ⟨⟨xs, r0, c0⟩, hI, hR⟩ := hR.boxE
    try dsimp only [List.cons_append, List.nil_append] at hI hR
    refine yround hlr hR rfl rfl ?_; clear hS; intro aa hS; dsimp only [rslots, List.zip, List.zipWith] at hS
    have hxl : xs.length ≤ i := by rw [hI, cst_len]; exact Nat.le_trans (List.length_filter_le _ _) (by rw [List.length_take]; omega)
    have hjS : (ord[i]?.getD 0) < S := by rw [List.getElem?_eq_getElem hi]; exact hlt _ (List.getElem_mem hi)
    have hp : (fun _ => true) (ord[i]?.getD 0) = true ∨ ¬ (fun _ => true) (ord[i]?.getD 0) = true := Classical.em _
    refine Go.wpIn_region_lit ?_
    refine xA hS hR (Yld.assign hS rfl) (by decide) ?_; clear hS; intro aa hS
    refine Go.wpListIn_nil ?_
    refine ⟨_, _, rfl, (hR.pk (r := lr _ _) (by repeat (first | with_reducible exact Pk.here | with_reducible apply Pk.there))), ?_⟩; clear hR; intro ww hR
    refine Go.wpIn_block ?_
    refine Go.wpIn_seq_k ?_; intro K204 hK204
    refine Go.wpIn_region_lit ?_
    refine xA hS hR (Yld.load1 hS rfl Try.underlying46 rfl (by first | exact Rd.blk (by repeat (first | with_reducible exact Pk.here | with_reducible apply Pk.there)) (by rfl) | exact Rd.rec (by repeat (first | with_reducible exact Pk.here | with_reducible apply Pk.there)) (by intro _; rfl) (by omega) rfl | exact Rd.rec0 (by repeat (first | with_reducible exact Pk.here | with_reducible apply Pk.there)) (by intro _; rfl) (by omega) rfl | exact Rd.flatJ (by repeat (first | with_reducible exact Pk.here | with_reducible apply Pk.there)) (by intro _; rfl) (by omega) rfl | exact Rd.flat0 (by repeat (first | with_reducible exact Pk.here | with_reducible apply Pk.there)) (by intro _; rfl) (by omega) rfl)) (by decide) ?_; clear hS; intro aa hS
    refine xA hS hR (Yld.move hS rfl) (by decide) ?_; clear hS; intro aa hS
    refine xB hS (BcallV (first := []) (caps := []) hS rfl rfl Try.call28 (lrall1_ok hR) (by decide) ?_); clear hS; intro aa ww vv hS hp; refine ⟨hS.defers, ?_⟩
    clear hR
    obtain ⟨rfl, hR⟩ := hp
    replace hS := hS.sayB (t := 12) true rfl (by rfl)
    refine Go.wpListIn_nil ?_
    refine hK204 _ _ ?_
    refine xcondT hS rfl ?_
    refine Go.wpIn_region_lit ?_
    refine xA hS hR (Yld.load1 hS rfl Try.underlying27 rfl (by first | exact Rd.blk (by repeat (first | with_reducible exact Pk.here | with_reducible apply Pk.there)) (by rfl) | exact Rd.rec (by repeat (first | with_reducible exact Pk.here | with_reducible apply Pk.there)) (by intro _; rfl) (by omega) rfl | exact Rd.rec0 (by repeat (first | with_reducible exact Pk.here | with_reducible apply Pk.there)) (by intro _; rfl) (by omega) rfl | exact Rd.flatJ (by repeat (first | with_reducible exact Pk.here | with_reducible apply Pk.there)) (by intro _; rfl) (by omega) rfl | exact Rd.flat0 (by repeat (first | with_reducible exact Pk.here | with_reducible apply Pk.there)) (by intro _; rfl) (by omega) rfl)) (by decide) ?_; clear hS; intro aa hS
    refine xA hS hR (Yld.move hS rfl) (by decide) ?_; clear hS; intro aa hS
    refine xB hS (BbuildSlice hS hR rfl (bls27_1_0 _) (by decide) ?_); clear hS hR; intro aa ww bb15 hS hR; refine ⟨hS.defers, ?_⟩
    refine xB hS (BappendR (sz := 1) hS hR rfl rfl Try.underlying27 info3 rfl rfl (by rfl) (by repeat (first | with_reducible exact Pk.here | with_reducible apply Pk.there)) (XC.one ((((ord[i]?.getD 0) : Nat) : Int)) (by repeat (first | with_reducible exact Pk.here | with_reducible apply Pk.there)) (by rfl) rfl) (by intro _; rfl) (by show (_ + _) * 8 ≤ _; first | omega | (simp only [List.length_take, List.length_append, List.length_drop, List.length_cons, List.length_nil, List.length_map]; omega)) (by first | omega | (simp only [List.length_take, List.length_append, List.length_drop, List.length_cons, List.length_nil, List.length_map]; omega)) (by first | rfl | (simp; done) | (simp; omega)) (by decide) ?_); clear hS hR; intro aa ww r16 c16 hS hR; refine ⟨hS.defers, ?_⟩
    refine xB hS (Bstore hS hR rfl rfl (by rfl) info27 (by rfl) (by repeat (first | with_reducible exact Pk.here | with_reducible apply Pk.there)) (by rfl) (Nat.le_of_ble_eq_true rfl) ?_); clear hR; intro ww hR; refine ⟨hS.defers, ?_⟩
    refine Go.wpListIn_nil ?_
    repeat (first | with_reducible refine thenR ?_ | with_reducible refine blockR ?_ | with_reducible refine scopeR ?_ | with_reducible refine thenX ?_ | with_reducible refine blockX ?_ | with_reducible refine blockY (by rfl) ?_)
    refine ⟨_, (hR.pk (r := lr _ _) (by repeat (first | with_reducible exact Pk.here | with_reducible apply Pk.there))), ?_⟩; clear hR; intro ww hR
    try dsimp only [lay, List.set] at hR
    exact Sep.boxI (xs ++ [(((ord[i]?.getD 0) : Nat) : Int)], _, _) (by dsimp only; rw [cst_filter (e := 0) hi]; rw [if_pos rfl, hI]) (by dsimp only [List.cons_append, List.nil_append]; exact hR.sub (by repeat (first | with_reducible exact Ex.refl | (with_reducible apply Ex.take; · repeat (first | with_reducible exact Pk.here | with_reducible apply Pk.there)) | with_reducible apply Ex.drop)))
  replace hR := Sep.boxI (X := List Int × Option Addr × Nat) (C := fun x : List Int × Option Addr × Nat => x.1 = cst ((ord.take 0).filter (fun _ => true))) (L := fun x : List Int × Option Addr × Nat => [lr .ready none, blk b [.pointer (some ⟨bl, 0, none⟩), .slice r S c, .int .i64 now] 56, linksA 80 77 3 bl S 1 (one ord), sls r S c 3 1 ((tab S T).flatMap e1), blk bb3 [.func (.func 28) #[] #[]] 46, blk bb5 [.slice x.2.1 x.1.length x.2.2] 27, sls x.2.1 x.1.length x.2.2 3 1 (x.1.flatMap e1)]) ([], none, 0) (rfl) (by dsimp only [List.cons_append, List.nil_append]; exact hR.sub (by repeat (first | with_reducible exact Ex.refl | (with_reducible apply Ex.take; · repeat (first | with_reducible exact Pk.here | with_reducible apply Pk.there)) | with_reducible apply Ex.drop)))
  refine CallR.mono (each_it (J := (fun i : Nat => box (fun x : List Int × Option Addr × Nat => x.1 = cst ((ord.take i).filter (fun _ => true))) (fun x => [lr .ready none, blk b [.pointer (some ⟨bl, 0, none⟩), .slice r S c, .int .i64 now] 56, linksA 80 77 3 bl S 1 (one ord), sls r S c 3 1 ((tab S T).flatMap e1), blk bb3 [.func (.func 28) #[] #[]] 46, blk bb5 [.slice x.2.1 x.1.length x.2.2] 27, sls x.2.1 x.1.length x.2.2 3 1 (x.1.flatMap e1)]))) (E := (pure' False)) (S := S) ((hR.pk (r := blk p1 _ _) (by repeat (first | with_reducible exact Pk.here | with_reducible apply Pk.there))).pk (r := box _ _) (by repeat (first | with_reducible exact Pk.here | with_reducible apply Pk.there))) hWL (fun i Y w h => lens h) hround) ?_; clear hR; rintro vv ww (hR | hR)
  ·
    obtain ⟨⟨xs, r0, c0⟩, hI, hR⟩ := hR.boxE
    try dsimp only [List.cons_append, List.nil_append] at hI hR
    refine ⟨.ready, none, _, by simp, hR, ?_⟩; clear hR; intro ww hR
    refine hK201 _ _ ?_
    refine Go.wpIn_seq_k ?_; intro K205 hK205
    refine Go.wpIn_region_lit ?_
    refine xA hS hR (Yld.load1 hS rfl Try.underlying27 rfl (by first | exact Rd.blk (by repeat (first | with_reducible exact Pk.here | with_reducible apply Pk.there)) (by rfl) | exact Rd.rec (by repeat (first | with_reducible exact Pk.here | with_reducible apply Pk.there)) (by intro _; rfl) (by omega) rfl | exact Rd.rec0 (by repeat (first | with_reducible exact Pk.here | with_reducible apply Pk.there)) (by intro _; rfl) (by omega) rfl | exact Rd.flatJ (by repeat (first | with_reducible exact Pk.here | with_reducible apply Pk.there)) (by intro _; rfl) (by omega) rfl | exact Rd.flat0 (by repeat (first | with_reducible exact Pk.here | with_reducible apply Pk.there)) (by intro _; rfl) (by omega) rfl)) (by decide) ?_; clear hS; intro aa hS
    refine xA hS hR (Yld.assign hS rfl) (by decide) ?_; clear hS; intro aa hS
    refine Go.wpListIn_nil ?_
    refine hK205 _ _ ?_
    refine Go.wpIn_ret ?_
    repeat (first | with_reducible refine thenR ?_ | with_reducible refine blockR ?_ | with_reducible refine scopeR ?_)
    replace hR := hR.pk (r := DF D203) (by repeat (first | with_reducible exact Pk.here | with_reducible apply Pk.there))
    refine xret1 (fn := Try.f27) (e := .ret) [D203] rfl (.inl rfl) Try.results27 hS hR ?_; clear hR; intro ww hR; refine ⟨_, (.tmp rfl), ?_⟩
    rw [List.take_of_length_le (Nat.le_refl _)] at hI
    rw [hI] at hR
    have h9 : Sep (lruA 56 80 77 3 b S ord T now :: sls r0 (cst (ord.filter (fun _ => true))).length c0 3 1 ((cst (ord.filter (fun _ => true))).flatMap e1) :: l) _ := Sep.lruAI (TU := 56) (TL := 80) (TN := 77) (TI := 3) (b := b) rfl (hR.sub (by repeat (first | with_reducible exact Ex.refl | (with_reducible apply Ex.take; · repeat (first | with_reducible exact Pk.here | with_reducible apply Pk.there)) | with_reducible apply Ex.drop)))
    exact ⟨r0, c0, by rw [hI], h9.sub (by repeat (first | with_reducible exact Ex.refl | (with_reducible apply Ex.take; · repeat (first | with_reducible exact Pk.here | with_reducible apply Pk.there)) | with_reducible apply Ex.drop))⟩
  · exact absurd (hR.pureE).1 id
set_option maxHeartbeats 2000000 in
set_option maxRecDepth 20000 in
theorem lrthose_since {S b : Nat} {ord : List Nat} {T : Nat → Int} {now : Int} {l : List HP} {w : World} {c2 c3 : Nat} {t0 : Int} (hR : Sep (blk c2 [.pointer (some ⟨b, 0, none⟩)] 23 :: blk c3 [.int .i64 t0] 3 :: lruA 56 80 77 3 b S ord T now :: l) w) : CallR Try.prog 27 [.pointer (some ⟨b, 0, none⟩), .func (.func 34) #[] #[.pointer (some ⟨c2, 0, none⟩), .pointer (some ⟨c3, 0, none⟩)]] w (fun v w' => ∃ r c, v = .slice r (cst (ord.filter (fun j => decide (T j > t0)))).length c ∧ Sep (sls r (cst (ord.filter (fun j => decide (T j > t0)))).length c 3 1 ((cst (ord.filter (fun j => decide (T j > t0)))).flatMap e1) :: blk c2 [.pointer (some ⟨b, 0, none⟩)] 23 :: blk c3 [.int .i64 t0] 3 :: lruA 56 80 77 3 b S ord T now :: l) w') := by
  refine enterX Try.func27 rfl Try.ntmps27 (Nat.le_of_ble_eq_true rfl) ?_; intro aa hS
  obtain ⟨bl, r, c, hWL, hbr, hR⟩ := (hR.pk (r := lruA _ _ _ _ _ _ _ _ _) (by repeat (first | with_reducible exact Pk.here | with_reducible apply Pk.there))).lruAE
  obtain ⟨hnd, hlt, hol⟩ := hWL.ords
  have hs2 := hWL.s2
  refine Go.wpIn_seq_k ?_; intro K206 hK206
  refine Go.wpIn_region_lit ?_
  refine xB hS (Bbox hS hR rfl (by rfl) (by decide) ?_); clear hS hR; intro aa ww bb3 hS hR; refine ⟨hS.defers, ?_⟩
  refine xA hS hR (Yld.assign hS rfl) (by decide) ?_; clear hS; intro aa hS
  refine Go.wpListIn_nil ?_
  refine hK206 _ _ ?_
  refine Go.wpIn_seq_k ?_; intro K207 hK207
  refine Go.wpIn_region_lit ?_
  refine xB hS (Balloc hS hR info27 (by rfl) (by rfl) (by decide) ?_); clear hS hR; intro aa ww bb5 hS hR; refine ⟨hS.defers, ?_⟩
  refine Go.wpListIn_nil ?_
  refine hK207 _ _ ?_
  refine Go.wpIn_seq_k ?_; intro K208 hK208
  refine Go.wpIn_seq_k ?_; intro K209 hK209
  refine Go.wpIn_region_lit ?_
  refine xA hS hR (Yld.move hS rfl) (by decide) ?_; clear hS; intro aa hS
  refine xB hS (Bcall hS rfl Try.call43 (lreach_ok hR) (by decide) ?_); clear hS; intro aa ww vv hS hp; refine ⟨hS.defers, ?_⟩
  clear hR
  obtain ⟨p1, rfl, hR⟩ := hp
  refine Go.wpListIn_nil ?_
  refine hK209 _ _ ?_
  refine Go.wpIn_block ?_
  replace hS := hS.le (T := [(3, _), (4, _), (5, _), (8, _)]) (Le.cons rfl (Le.cons rfl (Le.cons rfl (Le.cons rfl (Le.nil _)))))
  replace hR := hR.slsNil (T := 3) (sz := 1)
  replace hR := hR.pk (r := blk bb5 _ _) (by repeat (first | with_reducible exact Pk.here | with_reducible apply Pk.there))
  change Sep (blk bb5 [.slice none ([] : List Int).length 0] 27 :: sls none ([] : List Int).length 0 3 1 (([] : List Int).flatMap e1) :: _) _ at hR
  refine yrange hS hR rfl Try.call49 ?_
  intro D210 L210 lr ww hlr hR
  have hround : ∀ (Y : List HP) (i : Nat) (w : World), i < ord.length → Sep ((fun i : Nat => box (fun x : List Int × Option Addr × Nat => x.1 = cst ((ord.take i).filter (fun j => decide (T j > t0)))) (fun x => [lr .ready none, blk b [.pointer (some ⟨bl, 0, none⟩), .slice r S c, .int .i64 now] 56, linksA 80 77 3 bl S 1 (one ord), sls r S c 3 1 ((tab S T).flatMap e1), blk bb3 [.func (.func 34) #[] #[.pointer (some ⟨c2, 0, none⟩), .pointer (some ⟨c3, 0, none⟩)]] 46, blk c2 [.pointer (some ⟨b, 0, none⟩)] 23, blk c3 [.int .i64 t0] 3, blk bb5 [.slice x.2.1 x.1.length x.2.2] 27, sls x.2.1 x.1.length x.2.2 3 1 (x.1.flatMap e1)])) i :: Y) w → YieldR Try.prog L210 [.int .i64 (((ord[i]?.getD 0) : Nat) : Int)] w (fun zb zw => Sep ((bif zb then (fun i : Nat => box (fun x : List Int × Option Addr × Nat => x.1 = cst ((ord.take i).filter (fun j => decide (T j > t0)))) (fun x => [lr .ready none, blk b [.pointer (some ⟨bl, 0, none⟩), .slice r S c, .int .i64 now] 56, linksA 80 77 3 bl S 1 (one ord), sls r S c 3 1 ((tab S T).flatMap e1), blk bb3 [.func (.func 34) #[] #[.pointer (some ⟨c2, 0, none⟩), .pointer (some ⟨c3, 0, none⟩)]] 46, blk c2 [.pointer (some ⟨b, 0, none⟩)] 23, blk c3 [.int .i64 t0] 3, blk bb5 [.slice x.2.1 x.1.length x.2.2] 27, sls x.2.1 x.1.length x.2.2 3 1 (x.1.flatMap e1)])) (i + 1) else (pure' False)) :: Y) zw) := by
    intro Y i ww hi hR
    obtain ⟨⟨xs, r0, c0⟩, hI, hR⟩ := hR.boxE
    try dsimp only [List.cons_append, List.nil_append] at hI hR
    refine yround hlr hR rfl rfl ?_; clear hS; intro aa hS; dsimp only [rslots, List.zip, List.zipWith] at hS
    have hxl : xs.length ≤ i := by rw [hI, cst_len]; exact Nat.le_trans (List.length_filter_le _ _) (by rw [List.length_take]; omega)
    have hjS : (ord[i]?.getD 0) < S := by rw [List.getElem?_eq_getElem hi]; exact hlt _ (List.getElem_mem hi)
    have hp : (fun j => decide (T j > t0)) (ord[i]?.getD 0) = true ∨ ¬ (fun j => decide (T j > t0)) (ord[i]?.getD 0) = true := Classical.em _
    refine Go.wpIn_region_lit ?_
    refine xA hS hR (Yld.assign hS rfl) (by decide) ?_; clear hS; intro aa hS
    refine Go.wpListIn_nil ?_
    refine ⟨_, _, rfl, (hR.pk (r := lr _ _) (by repeat (first | with_reducible exact Pk.here | with_reducible apply Pk.there))), ?_⟩; clear hR; intro ww hR
    refine Go.wpIn_block ?_
    refine Go.wpIn_seq_k ?_; intro K211 hK211
    refine Go.wpIn_region_lit ?_
    refine xA hS hR (Yld.load1 hS rfl Try.underlying46 rfl (by first | exact Rd.blk (by repeat (first | with_reducible exact Pk.here | with_reducible apply Pk.there)) (by rfl) | exact Rd.rec (by repeat (first | with_reducible exact Pk.here | with_reducible apply Pk.there)) (by intro _; rfl) (by omega) rfl | exact Rd.rec0 (by repeat (first | with_reducible exact Pk.here | with_reducible apply Pk.there)) (by intro _; rfl) (by omega) rfl | exact Rd.flatJ (by repeat (first | with_reducible exact Pk.here | with_reducible apply Pk.there)) (by intro _; rfl) (by omega) rfl | exact Rd.flat0 (by repeat (first | with_reducible exact Pk.here | with_reducible apply Pk.there)) (by intro _; rfl) (by omega) rfl)) (by decide) ?_; clear hS; intro aa hS
    refine xA hS hR (Yld.move hS rfl) (by decide) ?_; clear hS; intro aa hS
    refine xB hS (BcallV (first := []) (caps := [.pointer (some ⟨c2, 0, none⟩), .pointer (some ⟨c3, 0, none⟩)]) hS rfl rfl Try.call34 (lrsince1_ok ((((hR.pk (r := sls r _ _ _ _ _) (by repeat (first | with_reducible exact Pk.here | with_reducible apply Pk.there))).pk (r := blk b _ _) (by repeat (first | with_reducible exact Pk.here | with_reducible apply Pk.there))).pk (r := blk c3 _ _) (by repeat (first | with_reducible exact Pk.here | with_reducible apply Pk.there))).pk (r := blk c2 _ _) (by repeat (first | with_reducible exact Pk.here | with_reducible apply Pk.there))) hbr hjS) (by decide) ?_); clear hS; intro aa ww vv hS hp; refine ⟨hS.defers, ?_⟩
    clear hR
    obtain ⟨rfl, hR⟩ := hp
    refine Go.wpListIn_nil ?_
    refine hK211 _ _ ?_
    refine hS.splitB (t := 12) rfl ?_ ?_ <;> clear hS
    · intro hg hS
      have hp : (fun j => decide (T j > t0)) (ord[i]?.getD 0) = true := by simpa using hg
      refine xcondT hS rfl ?_
      refine Go.wpIn_region_lit ?_
      refine xA hS hR (Yld.load1 hS rfl Try.underlying27 rfl (by first | exact Rd.blk (by repeat (first | with_reducible exact Pk.here | with_reducible apply Pk.there)) (by rfl) | exact Rd.rec (by repeat (first | with_reducible exact Pk.here | with_reducible apply Pk.there)) (by intro _; rfl) (by omega) rfl | exact Rd.rec0 (by repeat (first | with_reducible exact Pk.here | with_reducible apply Pk.there)) (by intro _; rfl) (by omega) rfl | exact Rd.flatJ (by repeat (first | with_reducible exact Pk.here | with_reducible apply Pk.there)) (by intro _; rfl) (by omega) rfl | exact Rd.flat0 (by repeat (first | with_reducible exact Pk.here | with_reducible apply Pk.there)) (by intro _; rfl) (by omega) rfl)) (by decide) ?_; clear hS; intro aa hS
      refine xA hS hR (Yld.move hS rfl) (by decide) ?_; clear hS; intro aa hS
      refine xB hS (BbuildSlice hS hR rfl (bls27_1_0 _) (by decide) ?_); clear hS hR; intro aa ww bb15 hS hR; refine ⟨hS.defers, ?_⟩
      refine xB hS (BappendR (sz := 1) hS hR rfl rfl Try.underlying27 info3 rfl rfl (by rfl) (by repeat (first | with_reducible exact Pk.here | with_reducible apply Pk.there)) (XC.one ((((ord[i]?.getD 0) : Nat) : Int)) (by repeat (first | with_reducible exact Pk.here | with_reducible apply Pk.there)) (by rfl) rfl) (by intro _; rfl) (by show (_ + _) * 8 ≤ _; first | omega | (simp only [List.length_take, List.length_append, List.length_drop, List.length_cons, List.length_nil, List.length_map]; omega)) (by first | omega | (simp only [List.length_take, List.length_append, List.length_drop, List.length_cons, List.length_nil, List.length_map]; omega)) (by first | rfl | (simp; done) | (simp; omega)) (by decide) ?_); clear hS hR; intro aa ww r16 c16 hS hR; refine ⟨hS.defers, ?_⟩
      refine xB hS (Bstore hS hR rfl rfl (by rfl) info27 (by rfl) (by repeat (first | with_reducible exact Pk.here | with_reducible apply Pk.there)) (by rfl) (Nat.le_of_ble_eq_true rfl) ?_); clear hR; intro ww hR; refine ⟨hS.defers, ?_⟩
      refine Go.wpListIn_nil ?_
      repeat (first | with_reducible refine thenR ?_ | with_reducible refine blockR ?_ | with_reducible refine scopeR ?_ | with_reducible refine thenX ?_ | with_reducible refine blockX ?_ | with_reducible refine blockY (by rfl) ?_)
      refine ⟨_, (hR.pk (r := lr _ _) (by repeat (first | with_reducible exact Pk.here | with_reducible apply Pk.there))), ?_⟩; clear hR; intro ww hR
      try dsimp only [lay, List.set] at hR
      exact Sep.boxI (xs ++ [(((ord[i]?.getD 0) : Nat) : Int)], _, _) (by dsimp only; rw [cst_filter (e := 0) hi]; first | rw [if_pos hp, hI] | rw [if_neg hp, hI]) (by dsimp only [List.cons_append, List.nil_append]; exact hR.sub (by repeat (first | with_reducible exact Ex.refl | (with_reducible apply Ex.take; · repeat (first | with_reducible exact Pk.here | with_reducible apply Pk.there)) | with_reducible apply Ex.drop)))
    · intro hg hS
      have hp : ¬ (fun j => decide (T j > t0)) (ord[i]?.getD 0) = true := by simpa using hg
      refine xcondF hS rfl ?_
      refine Go.wpIn_skip ?_
      repeat (first | with_reducible refine thenR ?_ | with_reducible refine blockR ?_ | with_reducible refine scopeR ?_ | with_reducible refine thenX ?_ | with_reducible refine blockX ?_ | with_reducible refine blockY (by rfl) ?_)
      refine ⟨_, (hR.pk (r := lr _ _) (by repeat (first | with_reducible exact Pk.here | with_reducible apply Pk.there))), ?_⟩; clear hR; intro ww hR
      try dsimp only [lay, List.set] at hR
      exact Sep.boxI (xs, r0, c0) (by dsimp only; rw [cst_filter (e := 0) hi]; first | rw [if_pos hp, hI] | rw [if_neg hp, hI]) (by dsimp only [List.cons_append, List.nil_append]; exact hR.sub (by repeat (first | with_reducible exact Ex.refl | (with_reducible apply Ex.take; · repeat (first | with_reducible exact Pk.here | with_reducible apply Pk.there)) | with_reducible apply Ex.drop)))
  replace hR := Sep.boxI (X := List Int × Option Addr × Nat) (C := fun x : List Int × Option Addr × Nat => x.1 = cst ((ord.take 0).filter (fun j => decide (T j > t0)))) (L := fun x : List Int × Option Addr × Nat => [lr .ready none, blk b [.pointer (some ⟨bl, 0, none⟩), .slice r S c, .int .i64 now] 56, linksA 80 77 3 bl S 1 (one ord), sls r S c 3 1 ((tab S T).flatMap e1), blk bb3 [.func (.func 34) #[] #[.pointer (some ⟨c2, 0, none⟩), .pointer (some ⟨c3, 0, none⟩)]] 46, blk c2 [.pointer (some ⟨b, 0, none⟩)] 23, blk c3 [.int .i64 t0] 3, blk bb5 [.slice x.2.1 x.1.length x.2.2] 27, sls x.2.1 x.1.length x.2.2 3 1 (x.1.flatMap e1)]) ([], none, 0) (rfl) (by dsimp only [List.cons_append, List.nil_append]; exact hR.sub (by repeat (first | with_reducible exact Ex.refl | (with_reducible apply Ex.take; · repeat (first | with_reducible exact Pk.here | with_reducible apply Pk.there)) | with_reducible apply Ex.drop)))
  refine CallR.mono (each_it (J := (fun i : Nat => box (fun x : List Int × Option Addr × Nat => x.1 = cst ((ord.take i).filter (fun j => decide (T j > t0)))) (fun x => [lr .ready none, blk b [.pointer (some ⟨bl, 0, none⟩), .slice r S c, .int .i64 now] 56, linksA 80 77 3 bl S 1 (one ord), sls r S c 3 1 ((tab S T).flatMap e1), blk bb3 [.func (.func 34) #[] #[.pointer (some ⟨c2, 0, none⟩), .pointer (some ⟨c3, 0, none⟩)]] 46, blk c2 [.pointer (some ⟨b, 0, none⟩)] 23, blk c3 [.int .i64 t0] 3, blk bb5 [.slice x.2.1 x.1.length x.2.2] 27, sls x.2.1 x.1.length x.2.2 3 1 (x.1.flatMap e1)]))) (E := (pure' False)) (S := S) ((hR.pk (r := blk p1 _ _) (by repeat (first | with_reducible exact Pk.here | with_reducible apply Pk.there))).pk (r := box _ _) (by repeat (first | with_reducible exact Pk.here | with_reducible apply Pk.there))) hWL (fun i Y w h => lens h) hround) ?_; clear hR; rintro vv ww (hR | hR)
  ·
    obtain ⟨⟨xs, r0, c0⟩, hI, hR⟩ := hR.boxE
    try dsimp only [List.cons_append, List.nil_append] at hI hR
    refine ⟨.ready, none, _, by simp, hR, ?_⟩; clear hR; intro ww hR
    refine hK208 _ _ ?_
    refine Go.wpIn_seq_k ?_; intro K212 hK212
    refine Go.wpIn_region_lit ?_
    refine xA hS hR (Yld.load1 hS rfl Try.underlying27 rfl (by first | exact Rd.blk (by repeat (first | with_reducible exact Pk.here | with_reducible apply Pk.there)) (by rfl) | exact Rd.rec (by repeat (first | with_reducible exact Pk.here | with_reducible apply Pk.there)) (by intro _; rfl) (by omega) rfl | exact Rd.rec0 (by repeat (first | with_reducible exact Pk.here | with_reducible apply Pk.there)) (by intro _; rfl) (by omega) rfl | exact Rd.flatJ (by repeat (first | with_reducible exact Pk.here | with_reducible apply Pk.there)) (by intro _; rfl) (by omega) rfl | exact Rd.flat0 (by repeat (first | with_reducible exact Pk.here | with_reducible apply Pk.there)) (by intro _; rfl) (by omega) rfl)) (by decide) ?_; clear hS; intro aa hS
    refine xA hS hR (Yld.assign hS rfl) (by decide) ?_; clear hS; intro aa hS
    refine Go.wpListIn_nil ?_
    refine hK212 _ _ ?_
    refine Go.wpIn_ret ?_
    repeat (first | with_reducible refine thenR ?_ | with_reducible refine blockR ?_ | with_reducible refine scopeR ?_)
    replace hR := hR.pk (r := DF D210) (by repeat (first | with_reducible exact Pk.here | with_reducible apply Pk.there))
    refine xret1 (fn := Try.f27) (e := .ret) [D210] rfl (.inl rfl) Try.results27 hS hR ?_; clear hR; intro ww hR; refine ⟨_, (.tmp rfl), ?_⟩
    rw [List.take_of_length_le (Nat.le_refl _)] at hI
    rw [hI] at hR
    have h9 : Sep (lruA 56 80 77 3 b S ord T now :: blk c2 [.pointer (some ⟨b, 0, none⟩)] 23 :: blk c3 [.int .i64 t0] 3 :: sls r0 (cst (ord.filter (fun j => decide (T j > t0)))).length c0 3 1 ((cst (ord.filter (fun j => decide (T j > t0)))).flatMap e1) :: l) _ := Sep.lruAI (TU := 56) (TL := 80) (TN := 77) (TI := 3) (b := b) rfl (hR.sub (by repeat (first | with_reducible exact Ex.refl | (with_reducible apply Ex.take; · repeat (first | with_reducible exact Pk.here | with_reducible apply Pk.there)) | with_reducible apply Ex.drop)))
    exact ⟨r0, c0, by rw [hI], h9.sub (by repeat (first | with_reducible exact Ex.refl | (with_reducible apply Ex.take; · repeat (first | with_reducible exact Pk.here | with_reducible apply Pk.there)) | with_reducible apply Ex.drop))⟩
  · exact absurd (hR.pureE).1 id
set_option maxRecDepth 20000 in
theorem lrAll_ok {S b : Nat} {ord : List Nat} {T : Nat → Int} {now : Int} {l : List HP} {w : World} (hR : Sep (lruA 56 80 77 3 b S ord T now :: l) w) : CallR Try.prog 11 [.pointer (some ⟨b, 0, none⟩)] w (fun v w' => ∃ r c, v = .slice r (cst ord).length c ∧ Sep (sls r (cst ord).length c 3 1 ((cst ord).flatMap e1) :: lruA 56 80 77 3 b S ord T now :: l) w') := by
  refine enter Try.func11 rfl Try.ntmps11 (Nat.le_of_ble_eq_true rfl) ?_; intro aa hS
  refine wp_seq_k ?_; intro K213 hK213
  refine wp_region_lit ?_
  refine sA hS hR (Yld.assign hS rfl) (by decide) ?_; clear hS; intro aa hS
  refine wpList_nil ?_
  refine hK213 _ _ ?_
  refine wp_seq_k ?_; intro K214 hK214
  refine wp_region_lit ?_
  refine sA hS hR (Yld.move hS rfl) (by decide) ?_; clear hS; intro aa hS
  refine sB (Bcall hS rfl Try.call27 (lrthose_all (hR.pk (r := lruA _ _ _ _ _ _ _ _ _) (by repeat (first | with_reducible exact Pk.here | with_reducible apply Pk.there)))) (by decide) ?_); clear hS; intro aa ww vv hS hp
  clear hR
  obtain ⟨ra, ca, rfl, hR⟩ := hp
  rw [show ord.filter (fun _ => true) = ord from by simp] at hS hR
  refine sA hS hR (Yld.assign hS rfl) (by decide) ?_; clear hS; intro aa hS
  refine wpList_nil ?_
  refine hK214 _ _ ?_
  refine wp_ret ?_
  repeat (first | with_reducible refine thenR ?_ | with_reducible refine blockR ?_ | with_reducible refine scopeR ?_)
  refine ret1 (fn := Try.f11) (e := .ret) (.inl rfl) Try.results11 hS hR ⟨_, (.tmp rfl), ?_⟩
  exact ⟨_, _, rfl, (hR.sub (by repeat (first | with_reducible exact Ex.refl | (with_reducible apply Ex.take; · repeat (first | with_reducible exact Pk.here | with_reducible apply Pk.there)) | with_reducible apply Ex.drop)))⟩
set_option maxRecDepth 20000 in
theorem lrSince_ok {S b : Nat} {ord : List Nat} {T : Nat → Int} {now : Int} {l : List HP} {w : World} {t0 : Int} (hR : Sep (lruA 56 80 77 3 b S ord T now :: l) w) : CallR Try.prog 17 [.pointer (some ⟨b, 0, none⟩), .int .i64 t0] w (fun v w' => ∃ r c, v = .slice r (cst (ord.filter (fun j => decide (T j > t0)))).length c ∧ Sep (sls r (cst (ord.filter (fun j => decide (T j > t0)))).length c 3 1 ((cst (ord.filter (fun j => decide (T j > t0)))).flatMap e1) :: lruA 56 80 77 3 b S ord T now :: l) w') := by
  refine enter Try.func17 rfl Try.ntmps17 (Nat.le_of_ble_eq_true rfl) ?_; intro aa hS
  refine wp_seq_k ?_; intro K215 hK215
  refine wp_region_lit ?_
  refine sB (Bbox hS hR rfl (by rfl) (by decide) ?_); clear hS hR; intro aa ww bb2 hS hR
  refine sB (Bbox hS hR rfl (by rfl) (by decide) ?_); clear hS hR; intro aa ww bb3 hS hR
  refine sA hS hR (Yld.assign hS rfl) (by decide) ?_; clear hS; intro aa hS
  refine wpList_nil ?_
  refine hK215 _ _ ?_
  refine wp_seq_k ?_; intro K216 hK216
  refine wp_region_lit ?_
  refine sA hS hR (Yld.load1 hS rfl Try.underlying23 rfl (by first | exact Rd.blk (by repeat (first | with_reducible exact Pk.here | with_reducible apply Pk.there)) (by rfl) | exact Rd.rec (by repeat (first | with_reducible exact Pk.here | with_reducible apply Pk.there)) (by intro _; rfl) (by omega) rfl | exact Rd.rec0 (by repeat (first | with_reducible exact Pk.here | with_reducible apply Pk.there)) (by intro _; rfl) (by omega) rfl | exact Rd.flatJ (by repeat (first | with_reducible exact Pk.here | with_reducible apply Pk.there)) (by intro _; rfl) (by omega) rfl | exact Rd.flat0 (by repeat (first | with_reducible exact Pk.here | with_reducible apply Pk.there)) (by intro _; rfl) (by omega) rfl)) (by decide) ?_; clear hS; intro aa hS
  refine sA hS hR (Yld.makeFunc hS rfl rfl) (by decide) ?_; clear hS; intro aa hS
  refine sB (Bcall hS rfl Try.call27 (lrthose_since (c2 := bb2) (c3 := bb3) (t0 := t0) (((hR.pk (r := lruA _ _ _ _ _ _ _ _ _) (by repeat (first | with_reducible exact Pk.here | with_reducible apply Pk.there))).pk (r := blk bb3 _ _) (by repeat (first | with_reducible exact Pk.here | with_reducible apply Pk.there))).pk (r := blk bb2 _ _) (by repeat (first | with_reducible exact Pk.here | with_reducible apply Pk.there)))) (by decide) ?_); clear hS; intro aa ww vv hS hp
  clear hR
  obtain ⟨ra, ca, rfl, hR⟩ := hp
  refine sA hS hR (Yld.assign hS rfl) (by decide) ?_; clear hS; intro aa hS
  refine wpList_nil ?_
  refine hK216 _ _ ?_
  refine wp_ret ?_
  repeat (first | with_reducible refine thenR ?_ | with_reducible refine blockR ?_ | with_reducible refine scopeR ?_)
  refine ret1 (fn := Try.f17) (e := .ret) (.inl rfl) Try.results17 hS hR ⟨_, (.tmp rfl), ?_⟩
  exact ⟨_, _, rfl, (hR.sub (by repeat (first | with_reducible exact Ex.refl | (with_reducible apply Ex.take; · repeat (first | with_reducible exact Pk.here | with_reducible apply Pk.there)) | with_reducible apply Ex.drop)))⟩
end Go.Proofs.Ytojeibjlkbffcaa.Sx
