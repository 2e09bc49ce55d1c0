/-
 
-/
import Derived.Test.YtkhdejjompbklaaGreatOTrA
import Derived.Test.YtkhdejjompbklaaGreatOPc
namespace Go.Proofs.YtkhdejjompbklaaGreat.Sx
open Go
set_option maxRecDepth 20000
set_option linter.unusedVariables false
set_option linter.unusedSimpArgs false
theorem info206 : Tryz.prog.info? 206 = some Tryz.t206 := by kernel_rfl
theorem info208 : Tryz.prog.info? 208 = some Tryz.t208 := by kernel_rfl
theorem info209 : Tryz.prog.info? 209 = some Tryz.t209 := by kernel_rfl
set_option maxHeartbeats 1000000 in
theorem find_ok {T : Tr} {D : List Int → Prop} {c : List Int → Nat} {v : List Int → Int} {f : List Int → Nat} {k : Ky} {b : Nat} {n : Int} {r1 r2 : Option Addr} {c1 c2 : Nat} {l : List HP} {w : World} (hW : WFD T.nodes D c v f) (hk : WfK k) (hn : 0 ≤ n ∧ n ≤ 26) (hR : Sep (blk b [.slice r1 T.nodes.length c1, .slice r2 T.frees.length c2, .int .i64 T.most] 211 :: sls r1 T.nodes.length c1 208 18 (T.nodes.flatMap eN) :: l) w) : CallR Tryz.prog 129 [.pointer (some ⟨b, 0, none⟩), vK k, .int .i64 n] w (fun v w' => v = .tuple [.int .i64 (findAt c f (dl k) n.toNat), .int .i64 (findN c (dl k) n.toNat)].toArray ∧ Sep (blk b [.slice r1 T.nodes.length c1, .slice r2 T.frees.length c2, .int .i64 T.most] 211 :: sls r1 T.nodes.length c1 208 18 (T.nodes.flatMap eN) :: l) w') := by
 refine enterX Tryz.func129 rfl Tryz.ntmps129 (Nat.le_of_ble_eq_true rfl) ?_; intro aa hS
 obtain ⟨m, rfl⟩ : ∃ m : Nat, n = m := ⟨n.toNat, by omega⟩
 refine Go.wpIn_seq_k ?_; intro K317 hK317
 refine Go.wpIn_region_lit ?_
 refine xB hS (Bbox hS hR rfl (by rfl) (by decide) ?_); clear hS hR; intro aa ww bb3 hS hR; refine ⟨hS.defers, ?_⟩
 refine xB hS (Bbox hS hR rfl (by rfl) (by decide) ?_); clear hS hR; intro aa ww bb4 hS hR; refine ⟨hS.defers, ?_⟩
 refine xB hS (Bbox hS hR rfl (by rfl) (by decide) ?_); clear hS hR; intro aa ww bb5 hS hR; refine ⟨hS.defers, ?_⟩
 refine xB hS (Balloc hS hR info3 (by rfl) (by rfl) (by decide) ?_); clear hS hR; intro aa ww bb6 hS hR; refine ⟨hS.defers, ?_⟩
 refine xB hS (Balloc hS hR info3 (by rfl) (by rfl) (by decide) ?_); clear hS hR; intro aa ww bb7 hS hR; refine ⟨hS.defers, ?_⟩
 refine Go.wpListIn_nil ?_
 refine hK317 _ _ ?_
 refine Go.wpIn_seq_k ?_; intro K318 hK318
 refine Go.wpIn_region_lit ?_
 refine xB hS (Balloc hS hR info3 (by rfl) (by rfl) (by decide) ?_); clear hS hR; intro aa ww bb8 hS hR; refine ⟨hS.defers, ?_⟩
 refine xB hS (Bstore hS hR rfl rfl (by rfl) info3 (by rfl) pkQ (by rfl) (Nat.le_of_ble_eq_true rfl) ?_); clear hR; intro ww hR; refine ⟨hS.defers, ?_⟩
 refine Go.wpListIn_nil ?_
 refine hK318 _ _ ?_
 refine Go.wpIn_seq_k ?_; intro K319 hK319
 refine Go.wpIn_seq_k ?_; intro K320 hK320
 refine Go.wpIn_region_lit ?_
 refine xA hS hR (Yld.loadAgg hS rfl Tryz.underlying160 rfl info160 rdsQ5 (by rfl)) (by decide) ?_; clear hS; intro aa hS
 refine xB hS (Bcall hS rfl Tryz.call139 (digits_ok hR) (by decide) ?_); clear hS; intro aa ww vv hS hp; refine ⟨hS.defers, ?_⟩
 clear hR
 obtain ⟨bk, rfl, hR⟩ := hp
 refine Go.wpListIn_nil ?_
 refine hK320 _ _ ?_
 refine Go.wpIn_block ?_
 replace hS := hS.le (T := [(3, _), (5, _), (6, _), (7, _), (8, _), (12, _)]) (Le.cons rfl (Le.cons rfl (Le.cons rfl (Le.cons rfl (Le.cons rfl (Le.cons rfl (Le.nil _)))))))
 try dsimp only [lay, List.set] at hR
 replace hR := hR.pk (r := blk bb8 _ _) pkQ
 change Sep (blk bb8 [.int .i64 ((0 : Nat) : Int)] 3 :: _) _ at hR
 refine yrange hS hR rfl Tryz.call145 ?_
 intro D321 L321 lr ww hlr hR
 have hround : ∀ (Y : List HP) (i : Nat) (w : World), i < 26 → Sep ((fun i : Nat => box (fun x : Nat => i ≤ m ∧ dep c (dl k) i = i ∧ x = f ((dl k).take i)) (fun x => [lr .ready none, blk bb8 [.int .i64 (x : Int)] 3, blk bb6 [.int .i64 0] 3, blk bb7 [.int .i64 0] 3, blk bb3 [.pointer (some ⟨b, 0, none⟩)] 127, blk bb5 [.int .i64 (m : Int)] 3, blk b [.slice r1 T.nodes.length c1, .slice r2 T.frees.length c2, .int .i64 T.most] 211, sls r1 T.nodes.length c1 208 18 (T.nodes.flatMap eN)])) i :: Y) w → YieldR Tryz.prog L321 [.int .i64 (i : Int), .int .u8 (dig k i)] w (fun zb zw => Sep ((bif zb then (fun i : Nat => box (fun x : Nat => i ≤ m ∧ dep c (dl k) i = i ∧ x = f ((dl k).take i)) (fun x => [lr .ready none, blk bb8 [.int .i64 (x : Int)] 3, blk bb6 [.int .i64 0] 3, blk bb7 [.int .i64 0] 3, blk bb3 [.pointer (some ⟨b, 0, none⟩)] 127, blk bb5 [.int .i64 (m : Int)] 3, blk b [.slice r1 T.nodes.length c1, .slice r2 T.frees.length c2, .int .i64 T.most] 211, sls r1 T.nodes.length c1 208 18 (T.nodes.flatMap eN)])) (i + 1) else (orH (box (fun x : Nat => dep c (dl k) m = m ∧ x = f ((dl k).take m)) (fun x => [lr .done (some (Code.exit 0)), blk bb8 [.int .i64 (x : Int)] 3, blk bb6 [.int .i64 0] 3, blk bb7 [.int .i64 0] 3, blk bb3 [.pointer (some ⟨b, 0, none⟩)] 127, blk bb5 [.int .i64 (m : Int)] 3, blk b [.slice r1 T.nodes.length c1, .slice r2 T.frees.length c2, .int .i64 T.most] 211, sls r1 T.nodes.length c1 208 18 (T.nodes.flatMap eN)])) (box (fun x : Nat => x < m ∧ dep c (dl k) x = x ∧ ¬ 0 < c ((dl k).take (x + 1))) (fun x => [lr .done (some Code.ret), blk bb8 [.int .i64 0] 3, blk bb6 [.int .i64 (-1)] 3, blk bb7 [.int .i64 ((x : Int) + 1)] 3, blk bb3 [.pointer (some ⟨b, 0, none⟩)] 127, blk bb5 [.int .i64 (m : Int)] 3, blk b [.slice r1 T.nodes.length c1, .slice r2 T.frees.length c2, .int .i64 T.most] 211, sls r1 T.nodes.length c1 208 18 (T.nodes.flatMap eN)])))) :: Y) zw) := by
  intro Y i ww hi hR
  obtain ⟨x, hI, hR⟩ := hR.boxE
  try dsimp only [List.cons_append, List.nil_append] at hI hR
  refine yround hlr hR rfl rfl ?_; clear hS; intro aa hS; dsimp only [rslots, List.zip, List.zipWith] at hS
  have hstep := hW.step hi hI.2.1
  rw [← hI.2.2] at hstep
  obtain ⟨hlt, hnx, hpos⟩ := hstep
  have hdb := dig_bd k i
  refine Go.wpIn_seq_k ?_; intro K322 hK322
  refine Go.wpIn_region_lit ?_
  refine xA hS hR (Yld.assign hS rfl) (by decide) ?_; clear hS; intro aa hS
  refine Go.wpListIn_nil ?_
  refine hK322 _ _ ?_
  refine Go.wpIn_region_lit ?_
  refine xA hS hR (Yld.assign hS rfl) (by decide) ?_; clear hS; intro aa hS
  refine Go.wpListIn_nil ?_
  refine ⟨_, _, rfl, (hR.pk (r := lr _ _) pkQ), ?_⟩; clear hR; intro ww hR
  refine Go.wpIn_block ?_
  refine Go.wpIn_seq_k ?_; intro K323 hK323
  refine Go.wpIn_seq_k ?_; intro K324 hK324
  refine Go.wpIn_region_lit ?_
  refine xA hS hR (Yld.move hS rfl) (by decide) ?_; clear hS; intro aa hS
  refine xA hS hR (Yld.load1 hS rfl Tryz.underlying3 rfl rdQ) (by decide) ?_; clear hS; intro aa hS
  refine xA hS hR (Yld.eql hS rfl rfl) (by decide) ?_; clear hS; intro aa hS
  refine Go.wpListIn_nil ?_
  refine hK324 _ _ ?_
  refine hS.splitB (t := 17) rfl ?_ ?_ <;> clear hS
  ·
   intro hg hS
   obtain rfl : i = m := by omega
   refine xcondT hS rfl ?_
   refine Go.wpIn_exit ?_
   repeat (first | with_reducible refine thenR ?_ | with_reducible refine blockR ?_ | with_reducible refine scopeR ?_ | with_reducible refine thenX ?_ | with_reducible refine blockX ?_ | with_reducible refine blockY (by rfl) ?_)
   refine ⟨_, (hR.pk (r := lr _ _) pkQ), ?_⟩; clear hR; intro ww hR
   try dsimp only [lay, List.set] at hR
   exact Sep.orL (Sep.boxI x (⟨hI.2.1, hI.2.2⟩) (by dsimp only [List.cons_append, List.nil_append]; exact hR.sub exQ))
  ·
   intro hg hS
   refine xcondF hS rfl ?_
   refine Go.wpIn_skip ?_
   refine hK323 _ _ ?_
   refine Go.wpIn_seq_k ?_; intro K325 hK325
   refine xdrawn krQ krQ hS hR (Ex.of_pk (r := blk bb8 _ _) pkQ) ?_; clear hR; intro ww hR hR0
   revert aa
   refine eA 0 rfl krQ (fun _ _ _ h => h) hR0 rfl (fun _ hS => Yld.load1 hS rfl Tryz.underlying127 rfl rdQ) ?_
   refine eA 1 rfl krQ (fun _ _ _ h => h) hR0 rfl (fun _ hS => Yld.nilCheck hS rfl) ?_
   refine eA 2 rfl krQ (fun _ _ _ h => h) hR0 rfl (fun _ hS => Yld.fieldAddr hS rfl 0 Tryz.underlying211 rfl rfl info209 (by decide)) ?_
   refine eA 3 rfl krQ (fun _ _ _ h => h) hR0 rfl (fun _ hS => Yld.load1 hS rfl Tryz.underlying209 rfl rdQ) ?_
   refine eA 5 rfl krQ (fun _ _ _ h => h) hR0 rfl (fun _ hS => Yld.move hS rfl) ?_
   intro aa hS
   refine dOne (i := 4) krQ ?_
   refine dop rfl (BA hS hR (Yld.load1 hS rfl Tryz.underlying3 rfl rdQ) (by decide) ?_); clear hS; intro aa hS; refine ⟨hR0, ?_⟩
   revert aa
   refine eA 6 rfl krQ (fun _ _ _ h => h) hR0 rfl (fun _ hS => by first | exact Yld.indexL (sz := 18) _ hS rfl rfl Tryz.underlying209 info208 pkQ rfl rfl (by omega) | exact Yld.indexB (sz := 18) _ hS rfl rfl Tryz.underlying209 info208 rfl rfl (by omega) | exact Yld.indexSlice hS rfl rfl Tryz.underlying209 info208 (by omega) (by omega)) ?_
   refine eA 7 rfl krQ (fun _ _ _ h => h) hR0 rfl (fun _ hS => Yld.fieldAddr hS rfl 1 Tryz.underlying208 rfl rfl info206 (by decide)) ?_
   refine eA 8 rfl krQ (fun _ _ _ h => h) hR0 rfl (fun _ hS => Yld.indexArr hS rfl rfl Tryz.underlying206 info3 (by omega) (by omega)) ?_
   refine eA 9 rfl krQ (fun _ _ _ h => h) hR0 rfl (fun _ hS => Yld.load1 hS rfl Tryz.underlying3 rfl (Rd.at (Rd.rec (j := 1 + (dig k i).toNat) (v := .int .i64 ((T.nodes[x]'hlt).2.1 (dig k i).toNat)) pkQ (by intro _; rfl) hlt (eN_get (by omega))) (by have h1 : (Tryz.t3).size = 1 := rfl; rw [h1]; omega))) ?_
   intro aa hS
   replace hS := hS.say (t := 27) (.int .i64 (if 0 < c ((dl k).take (i + 1)) then (f ((dl k).take (i + 1)) : Int) else 0)) rfl (by rw [hnx])
   refine dOne (i := 10) krQ ?_
   refine dop rfl (Bstore hS hR rfl rfl (by rfl) info3 (by rfl) pkQ (by rfl) (Nat.le_of_ble_eq_true rfl) ?_); clear hR hR0; intro ww hR
   refine dnext (hR.sub exQ) ?_; intro hR0
   refine wpAnyH_done krQ ?_ _; clear hR0; refine ⟨by simp, hS.defers, ?_⟩
   refine hK325 _ _ ?_
   refine Go.wpIn_seq_k ?_; intro K326 hK326
   refine Go.wpIn_region_lit ?_
   refine xA hS hR (Yld.load1 hS rfl Tryz.underlying3 rfl rdQ) (by decide) ?_; clear hS; intro aa hS
   refine xA hS hR (Yld.eql hS rfl rfl) (by decide) ?_; clear hS; intro aa hS
   refine Go.wpListIn_nil ?_
   refine hK326 _ _ ?_
   refine hS.splitB (t := 29) rfl ?_ ?_ <;> clear hS
   ·
    intro hg hS
    have hno : ¬ 0 < c ((dl k).take (i + 1)) := fun hc => by rw [if_pos hc] at hg; have := (hpos hc).1; omega
    refine xcondT hS rfl ?_
    refine Go.wpIn_seq_k ?_; intro K327 hK327
    refine Go.wpIn_region_lit ?_
    refine xA hS hR (Yld.move hS rfl) (by decide) ?_; clear hS; intro aa hS
    refine xA hS hR adQ (by decide) ?_; clear hS; intro aa hS
    refine xB hS (Bstore hS hR rfl rfl (by rfl) info3 (by rfl) pkQ (by rfl) (Nat.le_of_ble_eq_true rfl) ?_); clear hR; intro ww hR; refine ⟨hS.defers, ?_⟩
    refine xB hS (Bstore hS hR rfl rfl (by rfl) info3 (by rfl) pkQ (by rfl) (Nat.le_of_ble_eq_true rfl) ?_); clear hR; intro ww hR; refine ⟨hS.defers, ?_⟩
    refine Go.wpListIn_nil ?_
    refine hK327 _ _ ?_
    refine Go.wpIn_ret ?_
    repeat (first | with_reducible refine thenR ?_ | with_reducible refine blockR ?_ | with_reducible refine scopeR ?_ | with_reducible refine thenX ?_ | with_reducible refine blockX ?_ | with_reducible refine blockY (by rfl) ?_)
    refine ⟨_, (hR.pk (r := lr _ _) pkQ), ?_⟩; clear hR; intro ww hR
    try dsimp only [lay, List.set] at hR
    rw [if_neg hno] at hR
    exact Sep.orR (Sep.boxI i (⟨by omega, hI.2.1, hno⟩) (by dsimp only [List.cons_append, List.nil_append]; exact hR.sub exQ))
   ·
    intro hg hS
    have hyes : 0 < c ((dl k).take (i + 1)) := by
     by_cases hc : 0 < c ((dl k).take (i + 1))
     ·
      exact hc
     ·
      rw [if_neg hc] at hg; exact absurd rfl hg
    refine xcondF hS rfl ?_
    refine Go.wpIn_skip ?_
    repeat (first | with_reducible refine thenR ?_ | with_reducible refine blockR ?_ | with_reducible refine scopeR ?_ | with_reducible refine thenX ?_ | with_reducible refine blockX ?_ | with_reducible refine blockY (by rfl) ?_)
    refine ⟨_, (hR.pk (r := lr _ _) pkQ), ?_⟩; clear hR; intro ww hR
    try dsimp only [lay, List.set] at hR
    rw [if_pos hyes] at hR
    exact Sep.boxI (f ((dl k).take (i + 1))) (⟨by omega, (hpos hyes).2, rfl⟩) (by dsimp only [List.cons_append, List.nil_append]; exact hR.sub exQ)
 replace hR := Sep.boxI (X := Nat) (C := fun x : Nat => 0 ≤ m ∧ dep c (dl k) 0 = 0 ∧ x = f ((dl k).take 0)) (L := fun x : Nat => [lr .ready none, blk bb8 [.int .i64 (x : Int)] 3, blk bb6 [.int .i64 0] 3, blk bb7 [.int .i64 0] 3, blk bb3 [.pointer (some ⟨b, 0, none⟩)] 127, blk bb5 [.int .i64 (m : Int)] 3, blk b [.slice r1 T.nodes.length c1, .slice r2 T.frees.length c2, .int .i64 T.most] 211, sls r1 T.nodes.length c1 208 18 (T.nodes.flatMap eN)]) 0 (⟨Nat.zero_le _, rfl, hW.root.symm⟩) (by dsimp only [List.cons_append, List.nil_append]; exact hR.sub exQ)
 refine CallR.mono (digits_it (J := (fun i : Nat => box (fun x : Nat => i ≤ m ∧ dep c (dl k) i = i ∧ x = f ((dl k).take i)) (fun x => [lr .ready none, blk bb8 [.int .i64 (x : Int)] 3, blk bb6 [.int .i64 0] 3, blk bb7 [.int .i64 0] 3, blk bb3 [.pointer (some ⟨b, 0, none⟩)] 127, blk bb5 [.int .i64 (m : Int)] 3, blk b [.slice r1 T.nodes.length c1, .slice r2 T.frees.length c2, .int .i64 T.most] 211, sls r1 T.nodes.length c1 208 18 (T.nodes.flatMap eN)]))) (E := (orH (box (fun x : Nat => dep c (dl k) m = m ∧ x = f ((dl k).take m)) (fun x => [lr .done (some (Code.exit 0)), blk bb8 [.int .i64 (x : Int)] 3, blk bb6 [.int .i64 0] 3, blk bb7 [.int .i64 0] 3, blk bb3 [.pointer (some ⟨b, 0, none⟩)] 127, blk bb5 [.int .i64 (m : Int)] 3, blk b [.slice r1 T.nodes.length c1, .slice r2 T.frees.length c2, .int .i64 T.most] 211, sls r1 T.nodes.length c1 208 18 (T.nodes.flatMap eN)])) (box (fun x : Nat => x < m ∧ dep c (dl k) x = x ∧ ¬ 0 < c ((dl k).take (x + 1))) (fun x => [lr .done (some Code.ret), blk bb8 [.int .i64 0] 3, blk bb6 [.int .i64 (-1)] 3, blk bb7 [.int .i64 ((x : Int) + 1)] 3, blk bb3 [.pointer (some ⟨b, 0, none⟩)] 127, blk bb5 [.int .i64 (m : Int)] 3, blk b [.slice r1 T.nodes.length c1, .slice r2 T.frees.length c2, .int .i64 T.most] 211, sls r1 T.nodes.length c1 208 18 (T.nodes.flatMap eN)])))) ((hR.pk (r := blk bk _ _) pkQ).pk (r := box _ _) pkQ) hk hround) ?_; clear hR; rintro vv ww (hR | hR)
 ·
  obtain ⟨x, hI, hR⟩ := hR.boxE
  try dsimp only [List.cons_append, List.nil_append] at hI hR
  refine ⟨.ready, none, _, by simp, hR, ?_⟩; clear hR; intro ww hR
  obtain rfl : m = 26 := by omega
  replace hI : dep c (dl k) 26 = 26 ∧ x = f ((dl k).take 26) := hI.2
  refine hK319 _ _ ?_
  refine Go.wpIn_seq_k ?_; intro K328 hK328
  refine xdrawn krQ krQ hS hR (Ex.of_pk2 (r := blk bb6 _ _) (s := blk bb7 _ _) pkQ pkQ) ?_; clear hR; intro ww hR hR0
  revert aa
  refine eA 0 rfl krQ (fun _ _ _ h => h) hR0 rfl (fun _ hS => Yld.load1 hS rfl Tryz.underlying3 rfl rdQ) ?_
  refine eA 1 rfl krQ (fun _ _ _ h => h) hR0 rfl (fun _ hS => Yld.load1 hS rfl Tryz.underlying3 rfl rdQ) ?_
  intro aa hS
  refine dA 2 rfl krQ krQ krQ (fun _ _ _ h => h) hS hR0 adQ (by decide) ?_; clear hS; intro aa hS
  refine dOne (i := 3) krQ ?_
  refine dop rfl (Bstore hS hR rfl rfl (by rfl) info3 (by rfl) pkQ (by rfl) (Nat.le_of_ble_eq_true rfl) ?_); clear hR hR0; intro ww hR
  refine dnext (hR.sub exQ) ?_; intro hR0
  refine dOne (i := 4) krQ ?_
  refine dop rfl (Bstore hS hR rfl rfl (by rfl) info3 (by rfl) pkQ (by rfl) (Nat.le_of_ble_eq_true rfl) ?_); clear hR hR0; intro ww hR
  refine dnext (hR.sub exQ) ?_; intro hR0
  refine wpAnyH_done krQ ?_ _; clear hR0; refine ⟨by simp, hS.defers, ?_⟩
  refine hK328 _ _ ?_
  refine Go.wpIn_ret ?_
  repeat first | with_reducible refine thenR ?_ | with_reducible refine blockR ?_ | with_reducible refine scopeR ?_
  replace hR := hR.pk (r := DF D321) pkQ
  refine xretN (fn := Tryz.f129) (e := .ret) [D321] rfl (.inl rfl) Tryz.results129 hS hR ?_; clear hR; intro ww hR; refine ⟨_, .cons (.one rfl Tryz.underlying3 rfl (Rd.blk pkQ (by rfl))) (.cons (.one rfl Tryz.underlying3 rfl (Rd.blk pkQ (by rfl))) (.nil)), rfl, ?_⟩
  refine ⟨?_, (hR.sub exQ)⟩
  rw [Int.toNat_natCast]
  first | (rw [(find_no (f := f) hI.2.1 hI.1 hI.2.2).1, (find_no (f := f) hI.2.1 hI.1 hI.2.2).2]) | (rw [find_yes hI.1, find_yesN hI.1, hI.2])
 replace hR := hR.orE
 rcases hR with hR | hR
 ·
  obtain ⟨x, hI, hR⟩ := hR.boxE
  try dsimp only [List.cons_append, List.nil_append] at hI hR
  refine ⟨.done, some _, _, by simp, hR, ?_⟩; clear hR; intro ww hR
  refine Go.wpIn_exit ?_
  refine hK319 _ _ ?_
  refine Go.wpIn_seq_k ?_; intro K329 hK329
  refine xdrawn krQ krQ hS hR (Ex.of_pk2 (r := blk bb6 _ _) (s := blk bb7 _ _) pkQ pkQ) ?_; clear hR; intro ww hR hR0
  revert aa
  refine eA 0 rfl krQ (fun _ _ _ h => h) hR0 rfl (fun _ hS => Yld.load1 hS rfl Tryz.underlying3 rfl rdQ) ?_
  refine eA 1 rfl krQ (fun _ _ _ h => h) hR0 rfl (fun _ hS => Yld.load1 hS rfl Tryz.underlying3 rfl rdQ) ?_
  intro aa hS
  refine dA 2 rfl krQ krQ krQ (fun _ _ _ h => h) hS hR0 adQ (by decide) ?_; clear hS; intro aa hS
  refine dOne (i := 3) krQ ?_
  refine dop rfl (Bstore hS hR rfl rfl (by rfl) info3 (by rfl) pkQ (by rfl) (Nat.le_of_ble_eq_true rfl) ?_); clear hR hR0; intro ww hR
  refine dnext (hR.sub exQ) ?_; intro hR0
  refine dOne (i := 4) krQ ?_
  refine dop rfl (Bstore hS hR rfl rfl (by rfl) info3 (by rfl) pkQ (by rfl) (Nat.le_of_ble_eq_true rfl) ?_); clear hR hR0; intro ww hR
  refine dnext (hR.sub exQ) ?_; intro hR0
  refine wpAnyH_done krQ ?_ _; clear hR0; refine ⟨by simp, hS.defers, ?_⟩
  refine hK329 _ _ ?_
  refine Go.wpIn_ret ?_
  repeat first | with_reducible refine thenR ?_ | with_reducible refine blockR ?_ | with_reducible refine scopeR ?_
  replace hR := hR.pk (r := DF D321) pkQ
  refine xretN (fn := Tryz.f129) (e := .ret) [D321] rfl (.inl rfl) Tryz.results129 hS hR ?_; clear hR; intro ww hR; refine ⟨_, .cons (.one rfl Tryz.underlying3 rfl (Rd.blk pkQ (by rfl))) (.cons (.one rfl Tryz.underlying3 rfl (Rd.blk pkQ (by rfl))) (.nil)), rfl, ?_⟩
  refine ⟨?_, (hR.sub exQ)⟩
  rw [Int.toNat_natCast]
  first | (rw [(find_no (f := f) hI.2.1 hI.1 hI.2.2).1, (find_no (f := f) hI.2.1 hI.1 hI.2.2).2]) | (rw [find_yes hI.1, find_yesN hI.1, hI.2])
 ·
  obtain ⟨x, hI, hR⟩ := hR.boxE
  try dsimp only [List.cons_append, List.nil_append] at hI hR
  refine ⟨.done, some _, _, by simp, hR, ?_⟩; clear hR; intro ww hR
  refine Go.wpIn_ret ?_
  repeat first | with_reducible refine thenR ?_ | with_reducible refine blockR ?_ | with_reducible refine scopeR ?_
  replace hR := hR.pk (r := DF D321) pkQ
  refine xretN (fn := Tryz.f129) (e := .ret) [D321] rfl (.inl rfl) Tryz.results129 hS hR ?_; clear hR; intro ww hR; refine ⟨_, .cons (.one rfl Tryz.underlying3 rfl (Rd.blk pkQ (by rfl))) (.cons (.one rfl Tryz.underlying3 rfl (Rd.blk pkQ (by rfl))) (.nil)), rfl, ?_⟩
  refine ⟨?_, (hR.sub exQ)⟩
  rw [Int.toNat_natCast]
  first | (rw [(find_no (f := f) hI.2.1 hI.1 hI.2.2).1, (find_no (f := f) hI.2.1 hI.1 hI.2.2).2]) | (rw [find_yes hI.1, find_yesN hI.1, hI.2])
end Go.Proofs.YtkhdejjompbklaaGreat.Sx
