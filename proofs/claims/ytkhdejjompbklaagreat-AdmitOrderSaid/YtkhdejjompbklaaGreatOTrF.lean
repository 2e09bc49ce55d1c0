/-
 
-/
import Derived.Test.YtkhdejjompbklaaGreatOTrE
import Derived.Test.YtkhdejjompbklaaGreatOPc
namespace Go.Proofs.YtkhdejjompbklaaGreat.Sx
open Go
set_option maxRecDepth 20000
set_option linter.unusedVariables false
set_option linter.unusedSimpArgs false
set_option maxHeartbeats 4000000 in
theorem Out_ok {K : List (Ky × Int)} {most : Int} {k : Ky} {b : Nat} {l : List HP} {w : World} (hR : Sep (trieA 211 208 3 b K most :: l) w) (hk : WfK k) : CallR Tryz.prog 125 [.pointer (some ⟨b, 0, none⟩), vK k] w (fun v w' => v = .tuple [.int .i64 ((findV K k).getD 0), .int .i64 (if (findV K k).isSome = true then 0 else 6)].toArray ∧ Sep (trieA 211 208 3 b (outK K k) most :: l) w') := by
 refine enterX Tryz.func125 rfl Tryz.ntmps125 (Nat.le_of_ble_eq_true rfl) ?_; intro aa hS
 obtain ⟨T, r1, c1, r2, c2, hT, hR⟩ := hR.trieAE
 have hpos := hT.pos
 obtain ⟨f, hW, hF⟩ := hT.wf
 have hK8 : (K.length : Int) ≤ 8192 := by have := hT.bd; omega
 refine Go.wpIn_seq_k ?_; intro K382 hK382
 refine Go.wpIn_region_lit ?_
 refine xB hS (Bbox hS hR rfl (by rfl) (by decide) ?_); clear hS hR; intro aa ww bb2 hS hR; refine ⟨hS.defers, ?_⟩
 refine xB hS (Bbox hS hR rfl (by rfl) (by decide) ?_); clear hS hR; intro aa ww bb3 hS hR; refine ⟨hS.defers, ?_⟩
 refine xA hS hR (Yld.assign hS rfl) (by decide) ?_; clear hS; intro aa hS
 refine xA hS hR (Yld.assign hS rfl) (by decide) ?_; clear hS; intro aa hS
 refine Go.wpListIn_nil ?_
 refine hK382 _ _ ?_
 refine Go.wpIn_seq_k ?_; intro K383 hK383
 refine Go.wpIn_seq_k ?_; intro K384 hK384
 refine Go.wpIn_region_lit ?_
 refine xA hS hR (Yld.load1 hS rfl Tryz.underlying127 rfl rdQ) (by decide) ?_; clear hS; intro aa hS
 refine xB hS (Bcall hS rfl Tryz.call128 (tsome_ok (hR.pk (r := blk b _ _) pkQ) (by omega)) (by decide) ?_); clear hS; intro aa ww vv hS hp; refine ⟨hS.defers, ?_⟩
 clear hR
 obtain ⟨rfl, hR⟩ := hp
 refine xA hS hR (Yld.not hS rfl) (by decide) ?_; clear hS; intro aa hS
 refine Go.wpListIn_nil ?_
 refine hK384 _ _ ?_
 refine xcondF hS rfl ?_
 refine Go.wpIn_skip ?_
 refine hK383 _ _ ?_
 refine Go.wpIn_seq_k ?_; intro K385 hK385
 refine Go.wpIn_region_lit ?_
 refine xA hS hR (Yld.load1 hS rfl Tryz.underlying127 rfl rdQ) (by decide) ?_; clear hS; intro aa hS
 refine xA hS hR (Yld.loadAgg hS rfl Tryz.underlying160 rfl info160 rdsQ5 (by rfl)) (by decide) ?_; clear hS; intro aa hS
 refine xB hS (Bcall hS rfl Tryz.call129 (find_ok hW hk (by omega) ((hR.pk (r := sls r1 _ _ _ _ _) pkQ).pk (r := blk b _ _) pkQ)) (by decide) ?_); clear hS; intro aa ww vv hS hp; refine ⟨hS.defers, ?_⟩
 clear hR
 obtain ⟨rfl, hR⟩ := hp
 have hfi := has_iff hk hT.keys
 have hfs := findV_some (K := K) (k := k)
 have htk : (dl k).take 26 = dl k := List.take_of_length_le (by rw [dl_len]; omega)
 refine xA hS hR (Yld.move hS rfl) (by decide) ?_; clear hS; intro aa hS
 refine xA hS hR (Yld.extract hS rfl rfl) (by decide) ?_; clear hS; intro aa hS
 refine xA hS hR (Yld.extract hS rfl rfl) (by decide) ?_; clear hS; intro aa hS
 refine xA hS hR (Yld.assign hS rfl) (by decide) ?_; clear hS; intro aa hS
 refine xA hS hR (Yld.assign hS rfl) (by decide) ?_; clear hS; intro aa hS
 refine Go.wpListIn_nil ?_
 refine hK385 _ _ ?_
 refine Go.wpIn_seq_k ?_; intro K386 hK386
 refine Go.wpIn_seq_k ?_; intro K387 hK387
 refine Go.wpIn_region_lit ?_
 refine xA hS hR (Yld.move hS rfl) (by decide) ?_; clear hS; intro aa hS
 refine xA hS hR (Yld.lss hS rfl rfl) (by decide) ?_; clear hS; intro aa hS
 refine Go.wpListIn_nil ?_
 refine hK387 _ _ ?_
 refine hS.splitB (t := 23) rfl ?_ ?_ <;> clear hS
 ·
  intro hg hS
  have hno : ¬ has K k := fun h => by rw [show (26 : Int).toNat = 26 from rfl, find_yes (hfi.2 h)] at hg; omega
  have hfn : findV K k = none := by cases h : findV K k with
   | none => rfl
   | some x => exact absurd (hfs.1 (by rw [h]; rfl)) hno
  refine xcondT hS rfl ?_
  refine Go.wpIn_seq_k ?_; intro K388 hK388
  refine Go.wpIn_region_lit ?_
  refine xA hS hR (Yld.assign hS rfl) (by decide) ?_; clear hS; intro aa hS
  refine xA hS hR (Yld.assign hS rfl) (by decide) ?_; clear hS; intro aa hS
  refine Go.wpListIn_nil ?_
  refine hK388 _ _ ?_
  refine Go.wpIn_ret ?_
  repeat first | with_reducible refine thenR ?_ | with_reducible refine blockR ?_ | with_reducible refine scopeR ?_
  refine xretN (fn := Tryz.f125) (e := .ret) [] rfl (.inl rfl) Tryz.results125 hS hR ?_; clear hR; intro ww hR; refine ⟨_, .cons (.tmp rfl) (.cons (.tmp rfl) (.nil)), rfl, ?_⟩
  refine ⟨by rw [hfn]; rfl, ?_⟩
  rw [outK_no hno]
  exact Sep.trieAI (TA := 211) (TN := 208) (TI := 3) (b := b) (T := T)  hT (by rfl) (by rfl) (hR.sub exQ)
 ·
  intro hg hS
  have hde : dep (cK K) (dl k) 26 = 26 := by
   by_cases h : dep (cK K) (dl k) 26 = 26
   ·
    exact h
   ·
    rw [show (26 : Int).toNat = 26 from rfl, findAt, if_neg h] at hg; omega
  rw [show (26 : Int).toNat = 26 from rfl, find_yes hde, htk] at hS
  have hD := hW.at hde
  rw [htk] at hD
  have hlt := hW.lt _ hD
  have hvl := hW.val _ _ hD (dl_len k) (List.getElem?_eq_getElem hlt)
  rw [vK2_eq hk hT.keys] at hvl
  have hhs := hfi.1 hde
  have hsm := hfs.2 hhs
  have hc0 : (T.nodes[0]'hpos).1 = (K.length : Int) := by
   have h9 := hW.cnt [] (T.nodes[0]'hpos) (.inl rfl) (by rw [hW.root]; exact List.getElem?_eq_getElem hpos)
   rw [cK_nil] at h9; exact h9
  obtain ⟨z, hz⟩ : ∃ y, f (dl k) = y := ⟨_, rfl⟩
  rw [hz] at hS
  have hltz : z < T.nodes.length := by rw [← hz]; exact hlt
  have hvz : (T.nodes[z]'hltz).2.2 = (findV K k).getD 0 := by subst hz; exact hvl
  refine xcondF hS rfl ?_
  refine Go.wpIn_skip ?_
  refine hK386 _ _ ?_
  refine Go.wpIn_seq_k ?_; intro K389 hK389
  refine Go.wpIn_region_lit ?_
  refine xA hS hR (Yld.load1 hS rfl Tryz.underlying127 rfl rdQ) (by decide) ?_; clear hS; intro aa hS
  refine xA hS hR (Yld.nilCheck hS rfl) (by decide) ?_; clear hS; intro aa hS
  refine xA hS hR (Yld.fieldAddr hS rfl 0 Tryz.underlying211 rfl rfl info209 (by decide)) (by decide) ?_; clear hS; intro aa hS
  refine xA hS hR (Yld.load1 hS rfl Tryz.underlying209 rfl rdQ) (by decide) ?_; clear hS; intro aa hS
  refine xA hS hR (Yld.move hS rfl) (by decide) ?_; clear hS; intro aa hS
  refine xA hS hR ((ilQ 18 (z) Tryz.underlying209 info208)) (by decide) ?_; clear hS; intro aa hS
  refine xA hS hR (Yld.fieldAddr hS rfl 17 Tryz.underlying208 rfl rfl info3 (by decide)) (by decide) ?_; clear hS; intro aa hS
  refine xA hS hR (Yld.load1 hS rfl Tryz.underlying3 rfl (Rd.rec (j := 17) (v := .int .i64 (T.nodes[z]'hltz).2.2) pkQ (by intro _; exact eN_len _) hltz (by rfl))) (by decide) ?_; clear hS; intro aa hS
  refine xB hS (Balloc hS hR info3 (by rfl) (by rfl) (by decide) ?_); clear hS hR; intro aa ww bb9 hS hR; refine ⟨hS.defers, ?_⟩
  refine xA hS hR (Yld.assign hS rfl) (by decide) ?_; clear hS; intro aa hS
  refine xB hS (Bstore hS hR rfl rfl (by rfl) info3 (by rfl) pkQ (by rfl) (Nat.le_of_ble_eq_true rfl) ?_); clear hR; intro ww hR; refine ⟨hS.defers, ?_⟩
  refine Go.wpListIn_nil ?_
  refine hK389 _ _ ?_
  refine Go.wpIn_seq_k ?_; intro K390 hK390
  refine Go.wpIn_region_lit ?_
  refine xA hS hR (Yld.load1 hS rfl Tryz.underlying127 rfl rdQ) (by decide) ?_; clear hS; intro aa hS
  refine xA hS hR (Yld.nilCheck hS rfl) (by decide) ?_; clear hS; intro aa hS
  refine xA hS hR (Yld.fieldAddr hS rfl 0 Tryz.underlying211 rfl rfl info209 (by decide)) (by decide) ?_; clear hS; intro aa hS
  refine xA hS hR (Yld.load1 hS rfl Tryz.underlying209 rfl rdQ) (by decide) ?_; clear hS; intro aa hS
  refine xA hS hR ((ilQ 18 (0) Tryz.underlying209 info208)) (by decide) ?_; clear hS; intro aa hS
  refine xA hS hR (Yld.fieldAddr hS rfl 0 Tryz.underlying208 rfl rfl info3 (by decide)) (by decide) ?_; clear hS; intro aa hS
  refine xA hS hR (Yld.load1 hS rfl Tryz.underlying3 rfl (Rd.rec (j := 0) (v := .int .i64 (T.nodes[0]'hpos).1) pkQ (by intro _; exact eN_len _) hpos (by rfl))) (by decide) ?_; clear hS; intro aa hS
  refine xA hS hR suQ (by decide) ?_; clear hS; intro aa hS
  refine xA hS hR ((ilQ 18 (0) Tryz.underlying209 info208)) (by decide) ?_; clear hS; intro aa hS
  refine xA hS hR (Yld.fieldAddr hS rfl 0 Tryz.underlying208 rfl rfl info3 (by decide)) (by decide) ?_; clear hS; intro aa hS
  refine xB hS (BstoreR (((T.nodes[0]'hpos).1 - 1, (T.nodes[0]'hpos).2.1, (T.nodes[0]'hpos).2.2)) hS hR rfl rfl (by rfl) info3 (by rfl) pkQ (by rfl) (by intro _; rfl) (by omega) (by first | exact Nat.le_of_ble_eq_true rfl | (simp only [List.length_singleton]; omega)) (Nat.le_of_ble_eq_true rfl) (by rfl) ?_); clear hR; intro ww hR; refine ⟨hS.defers, ?_⟩
  refine Go.wpListIn_nil ?_
  refine hK390 _ _ ?_
  refine Go.wpIn_seq_k ?_; intro K391 hK391
  refine Go.wpIn_seq_k ?_; intro K392 hK392
  refine Go.wpIn_region_lit ?_
  refine xA hS hR (Yld.loadAgg hS rfl Tryz.underlying160 rfl info160 rdsQ5 (by rfl)) (by decide) ?_; clear hS; intro aa hS
  refine xB hS (Bcall hS rfl Tryz.call139 (digits_ok hR) (by decide) ?_); clear hS; intro aa ww vv hS hp; refine ⟨hS.defers, ?_⟩
  clear hR
  obtain ⟨bk, rfl, hR⟩ := hp
  refine Go.wpListIn_nil ?_
  refine hK392 _ _ ?_
  refine Go.wpIn_block ?_
  replace hS := hS.le (T := [(2, _), (4, _), (5, _), (8, _), (9, _), (43, _)]) (Le.cons rfl (Le.cons rfl (Le.cons rfl (Le.cons rfl (Le.cons rfl (Le.cons rfl (Le.nil _)))))))
  try dsimp only [lay, List.set] at hR
  replace hR := hR.pk (r := blk bb9 _ _) pkQ
  change Sep (blk bb9 [.int .i64 ((0 : Nat) : Int)] 3 :: _) _ at hR
  have hL0 : T.nodes.length = (T.nodes.set 0 ((T.nodes[0]'hpos).1 - 1, (T.nodes[0]'hpos).2.1, (T.nodes[0]'hpos).2.2)).length := by simp
  rw [hL0] at hR
  refine yrange hS hR rfl Tryz.call145 ?_
  intro D393 L393 lr ww hlr hR
  have hround : ∀ (Y : List HP) (i : Nat) (w : World), i < 26 → Sep ((fun i : Nat => box (fun x : Nat × Tr × TrX => (∃ f, OutI K k most i x.1 x.2.1 f) ∧ x.2.1.nodes.length ≤ 300001) (fun x => [lr .ready none, blk bb9 [.int .i64 (x.1 : Int)] 3, blk bb2 [.pointer (some ⟨b, 0, none⟩)] 127, blk b [.slice x.2.2.1.1 x.2.1.nodes.length x.2.2.1.2, .slice x.2.2.2.1 x.2.1.frees.length x.2.2.2.2, .int .i64 x.2.1.most] 211, sls x.2.2.1.1 x.2.1.nodes.length x.2.2.1.2 208 18 (x.2.1.nodes.flatMap eN), sls x.2.2.2.1 x.2.1.frees.length x.2.2.2.2 3 1 (x.2.1.frees.flatMap e1)])) i :: Y) w → YieldR Tryz.prog L393 [.int .i64 (i : Int), .int .u8 (dig k i)] w (fun zb zw => Sep ((bif zb then (fun i : Nat => box (fun x : Nat × Tr × TrX => (∃ f, OutI K k most i x.1 x.2.1 f) ∧ x.2.1.nodes.length ≤ 300001) (fun x => [lr .ready none, blk bb9 [.int .i64 (x.1 : Int)] 3, blk bb2 [.pointer (some ⟨b, 0, none⟩)] 127, blk b [.slice x.2.2.1.1 x.2.1.nodes.length x.2.2.1.2, .slice x.2.2.2.1 x.2.1.frees.length x.2.2.2.2, .int .i64 x.2.1.most] 211, sls x.2.2.1.1 x.2.1.nodes.length x.2.2.1.2 208 18 (x.2.1.nodes.flatMap eN), sls x.2.2.2.1 x.2.1.frees.length x.2.2.2.2 3 1 (x.2.1.frees.flatMap e1)])) (i + 1) else (pure' False)) :: Y) zw) := by
   intro Y i ww hi hR
   obtain ⟨⟨a, T, ⟨r1, c1⟩, ⟨r2, c2⟩⟩, hI, hR⟩ := hR.boxE
   try dsimp only [List.cons_append, List.nil_append] at hI hR
   refine yround hlr hR rfl rfl ?_; clear hS; intro aa hS; dsimp only [rslots, List.zip, List.zipWith] at hS
   obtain ⟨⟨f, hP⟩, hnb⟩ := hI
   have hdb := dig_bd k i
   obtain ⟨nx, hnx2⟩ : ∃ y, f ((dl k).take (i + 1)) = y := ⟨_, rfl⟩
   have hnext := hP.next hde hi
   simp only [hnx2] at hnext
   obtain ⟨hlt, hnl, hnx, hcn, hcp, hane⟩ := hnext
   have hcl := cK_le K ((dl k).take (i + 1))
   have hfb := nodup_len hP.fr.nodup hP.fr.lt
   have hfe : T.frees.length = T.free.length := List.length_map _
   refine Go.wpIn_region_lit ?_
   refine xA hS hR (Yld.assign hS rfl) (by decide) ?_; clear hS; intro aa hS
   refine Go.wpListIn_nil ?_
   refine ⟨_, _, rfl, (hR.pk (r := lr _ _) pkQ), ?_⟩; clear hR; intro ww hR
   refine Go.wpIn_block ?_
   refine Go.wpIn_seq_k ?_; intro K394 hK394
   refine xdrawn krQ krQ hS hR Ex.refl ?_; clear hR; intro ww hR hR0
   revert aa
   refine eA 0 rfl krQ (fun _ _ _ h => h) hR0 rfl (fun _ hS => Yld.load1 hS rfl Tryz.underlying127 rfl rdQ) ?_
   refine eA 1 rfl krQ (fun _ _ _ h => h) hR0 rfl (fun _ hS => Yld.nilCheck hS rfl) ?_
   refine eA 2 rfl krQ (fun _ _ _ h => h) hR0 rfl (fun _ hS => Yld.fieldAddr hS rfl 0 Tryz.underlying211 rfl rfl info209 (by decide)) ?_
   refine eA 3 rfl krQ (fun _ _ _ h => h) hR0 rfl (fun _ hS => Yld.load1 hS rfl Tryz.underlying209 rfl rdQ) ?_
   refine eA 4 rfl krQ (fun _ _ _ h => h) hR0 rfl (fun _ hS => Yld.load1 hS rfl Tryz.underlying3 rfl rdQ) ?_
   refine eA 5 rfl krQ (fun _ _ _ h => h) hR0 rfl (fun _ hS => Yld.move hS rfl) ?_
   refine eA 6 rfl krQ (fun _ _ _ h => h) hR0 rfl (fun _ hS => by first | exact Yld.indexL (sz := 18) _ hS rfl rfl Tryz.underlying209 info208 pkQ rfl rfl (by omega) | exact Yld.indexB (sz := 18) _ hS rfl rfl Tryz.underlying209 info208 rfl rfl (by omega) | exact Yld.indexSlice hS rfl rfl Tryz.underlying209 info208 (by omega) (by omega)) ?_
   refine eA 7 rfl krQ (fun _ _ _ h => h) hR0 rfl (fun _ hS => Yld.fieldAddr hS rfl 1 Tryz.underlying208 rfl rfl info206 (by decide)) ?_
   refine eA 8 rfl krQ (fun _ _ _ h => h) hR0 rfl (fun _ hS => Yld.indexArr hS rfl rfl Tryz.underlying206 info3 (by omega) (by omega)) ?_
   refine eA 9 rfl krQ (fun _ _ _ h => h) hR0 rfl (fun _ hS => Yld.load1 hS rfl Tryz.underlying3 rfl (Rd.at (Rd.rec (j := 1 + (dig k i).toNat) (v := .int .i64 ((T.nodes[a]'hlt).2.1 (dig k i).toNat)) pkQ (by intro _; exact eN_len _) hlt (eN_get (by omega))) (by have h1 : (Tryz.t3).size = 1 := rfl; rw [h1]; omega))) ?_
   intro aa hS
   replace hS := hS.say (t := 55) (.int .i64 (nx : Int)) rfl (by rw [hnx])
   revert aa
   refine eA 10 rfl krQ (fun _ _ _ h => h) hR0 rfl (fun _ hS => Yld.assign hS rfl) ?_
   intro aa hS
   refine wpAnyH_done krQ ?_ _; clear hR0; refine ⟨by simp, hS.defers, ?_⟩
   refine hK394 _ _ ?_
   refine Go.wpIn_seq_k ?_; intro K395 hK395
   refine Go.wpIn_seq_k ?_; intro K396 hK396
   refine Go.wpIn_region_lit ?_
   refine xA hS hR (Yld.load1 hS rfl Tryz.underlying127 rfl rdQ) (by decide) ?_; clear hS; intro aa hS
   refine xA hS hR (Yld.nilCheck hS rfl) (by decide) ?_; clear hS; intro aa hS
   refine xA hS hR (Yld.fieldAddr hS rfl 0 Tryz.underlying211 rfl rfl info209 (by decide)) (by decide) ?_; clear hS; intro aa hS
   refine xA hS hR (Yld.load1 hS rfl Tryz.underlying209 rfl rdQ) (by decide) ?_; clear hS; intro aa hS
   refine xA hS hR (Yld.move hS rfl) (by decide) ?_; clear hS; intro aa hS
   refine xA hS hR ((by first | exact Yld.indexL (sz := 18) _ hS rfl rfl Tryz.underlying209 info208 pkQ rfl rfl (by omega) | exact Yld.indexB (sz := 18) _ hS rfl rfl Tryz.underlying209 info208 rfl rfl (by omega) | exact Yld.indexSlice hS rfl rfl Tryz.underlying209 info208 (by omega) (by omega))) (by decide) ?_; clear hS; intro aa hS
   refine xA hS hR (Yld.fieldAddr hS rfl 0 Tryz.underlying208 rfl rfl info3 (by decide)) (by decide) ?_; clear hS; intro aa hS
   refine xA hS hR (Yld.load1 hS rfl Tryz.underlying3 rfl (Rd.rec (j := 0) (v := .int .i64 (T.nodes[nx]'hnl).1) pkQ (by intro _; exact eN_len _) hnl (by rfl))) (by decide) ?_; clear hS; intro aa hS
   refine xA hS hR suQ (by decide) ?_; clear hS; intro aa hS
   refine xA hS hR ((by first | exact Yld.indexL (sz := 18) _ hS rfl rfl Tryz.underlying209 info208 pkQ rfl rfl (by omega) | exact Yld.indexB (sz := 18) _ hS rfl rfl Tryz.underlying209 info208 rfl rfl (by omega) | exact Yld.indexSlice hS rfl rfl Tryz.underlying209 info208 (by omega) (by omega))) (by decide) ?_; clear hS; intro aa hS
   refine xA hS hR (Yld.fieldAddr hS rfl 0 Tryz.underlying208 rfl rfl info3 (by decide)) (by decide) ?_; clear hS; intro aa hS
   refine xB hS (BstoreR (((T.nodes[nx]'hnl).1 - 1, (T.nodes[nx]'hnl).2.1, (T.nodes[nx]'hnl).2.2)) hS hR rfl rfl (by rfl) info3 (by rfl) pkQ (by rfl) (by intro _; rfl) (by omega) (by first | exact Nat.le_of_ble_eq_true rfl | (simp only [List.length_singleton]; omega)) (Nat.le_of_ble_eq_true rfl) (by rfl) ?_); clear hR; intro ww hR; refine ⟨hS.defers, ?_⟩
   obtain ⟨N, hN⟩ : ∃ y, T.nodes.set nx ((T.nodes[nx]'hnl).1 - 1, (T.nodes[nx]'hnl).2.1, (T.nodes[nx]'hnl).2.2) = y := ⟨_, rfl⟩
   have hNl : T.nodes.length = N.length := by rw [← hN]; simp
   have hnl3 : nx < N.length := by omega
   have hla : a < N.length := by omega
   have hN3 : (N[nx]'hnl3).1 = (T.nodes[nx]'hnl).1 - 1 := by subst hN; simp
   rw [hN, hNl] at hR
   refine Go.wpListIn_nil ?_
   refine hK396 _ _ ?_
   refine Go.wpIn_seq_k ?_; intro K397 hK397
   refine Go.wpIn_region_lit ?_
   refine xA hS hR (Yld.load1 hS rfl Tryz.underlying127 rfl rdQ) (by decide) ?_; clear hS; intro aa hS
   refine xA hS hR (Yld.nilCheck hS rfl) (by decide) ?_; clear hS; intro aa hS
   refine xA hS hR (Yld.fieldAddr hS rfl 0 Tryz.underlying211 rfl rfl info209 (by decide)) (by decide) ?_; clear hS; intro aa hS
   refine xA hS hR (Yld.load1 hS rfl Tryz.underlying209 rfl rdQ) (by decide) ?_; clear hS; intro aa hS
   refine xA hS hR (Yld.move hS rfl) (by decide) ?_; clear hS; intro aa hS
   refine xA hS hR ((by first | exact Yld.indexL (sz := 18) _ hS rfl rfl Tryz.underlying209 info208 pkQ rfl rfl (by omega) | exact Yld.indexB (sz := 18) _ hS rfl rfl Tryz.underlying209 info208 rfl rfl (by omega) | exact Yld.indexSlice hS rfl rfl Tryz.underlying209 info208 (by omega) (by omega))) (by decide) ?_; clear hS; intro aa hS
   refine xA hS hR (Yld.fieldAddr hS rfl 0 Tryz.underlying208 rfl rfl info3 (by decide)) (by decide) ?_; clear hS; intro aa hS
   refine xA hS hR (Yld.load1 hS rfl Tryz.underlying3 rfl (Rd.rec (j := 0) (v := .int .i64 (N[nx]'hnl3).1) pkQ (by intro _; exact eN_len _) hnl3 (by rfl))) (by decide) ?_; clear hS; intro aa hS
   refine xA hS hR (Yld.eql hS rfl rfl) (by decide) ?_; clear hS; intro aa hS
   refine Go.wpListIn_nil ?_
   refine hK397 _ _ ?_
   refine hS.splitB (t := 75) rfl ?_ ?_ <;> clear hS
   ·
    intro hg hS
    have hP2 := hP.last hde hi (by rw [hnx2]; exact List.getElem?_eq_getElem hnl) (by rw [hN3] at hg; exact hg) (by rw [hnx2, hN]; exact List.getElem?_eq_getElem hla)
    rw [hnx2, hN] at hP2
    refine xcondT hS rfl ?_
    refine Go.wpIn_seq_k ?_; intro K398 hK398
    refine xdrawn krQ krQ hS hR (Ex.of_pk (r := sls r1 _ _ _ _ _) pkQ) ?_; clear hR; intro ww hR hR0
    revert aa
    refine eA 0 rfl krQ (fun _ _ _ h => h) hR0 rfl (fun _ hS => Yld.load1 hS rfl Tryz.underlying127 rfl rdQ) ?_
    refine eA 1 rfl krQ (fun _ _ _ h => h) hR0 rfl (fun _ hS => Yld.nilCheck hS rfl) ?_
    refine eA 2 rfl krQ (fun _ _ _ h => h) hR0 rfl (fun _ hS => Yld.fieldAddr hS rfl 0 Tryz.underlying211 rfl rfl info209 (by decide)) ?_
    refine eA 3 rfl krQ (fun _ _ _ h => h) hR0 rfl (fun _ hS => Yld.load1 hS rfl Tryz.underlying209 rfl rdQ) ?_
    refine eA 4 rfl krQ (fun _ _ _ h => h) hR0 rfl (fun _ hS => Yld.load1 hS rfl Tryz.underlying3 rfl rdQ) ?_
    refine eA 5 rfl krQ (fun _ _ _ h => h) hR0 rfl (fun _ hS => Yld.move hS rfl) ?_
    intro aa hS
    refine dOne (i := 6) krQ ?_
    refine dop rfl (BA hS hR ((by first | exact Yld.indexL (sz := 18) _ hS rfl rfl Tryz.underlying209 info208 pkQ rfl rfl (by omega) | exact Yld.indexB (sz := 18) _ hS rfl rfl Tryz.underlying209 info208 rfl rfl (by omega) | exact Yld.indexSlice hS rfl rfl Tryz.underlying209 info208 (by omega) (by omega))) (by decide) ?_); clear hS; intro aa hS; refine ⟨hR0, ?_⟩
    revert aa
    refine eA 7 rfl krQ (fun _ _ _ h => h) hR0 rfl (fun _ hS => Yld.fieldAddr hS rfl 1 Tryz.underlying208 rfl rfl info206 (by decide)) ?_
    refine eA 8 rfl krQ (fun _ _ _ h => h) hR0 rfl (fun _ hS => Yld.to (u := .pointer (some ⟨blkOf r1, a * 18 + (1 + (dig k i).toNat), none⟩)) (Yld.indexArr hS rfl rfl Tryz.underlying206 info3 (by omega) (by omega)) (by have h1 : (Tryz.t3).size = 1 := rfl; rw [h1, Nat.mul_one, Nat.add_assoc])) ?_
    intro aa hS
    refine dOne (i := 9) krQ ?_
    refine dop rfl (BstoreR (((N[a]'hla).1, updN (N[a]'hla).2.1 (dig k i).toNat 0, (N[a]'hla).2.2)) hS hR rfl rfl (by rfl) info3 (by rfl) pkQ (by rfl) (by intro _; rfl) (by omega) (by first | exact Nat.le_of_ble_eq_true rfl | (simp only [List.length_singleton]; omega)) (Nat.le_of_ble_eq_true rfl) (by exact lay_next (by omega) _) ?_); clear hR hR0; intro ww hR
    refine dnext (hR.sub exQ) ?_; intro hR0
    refine wpAnyH_done krQ ?_ _; clear hR0; refine ⟨by simp, hS.defers, ?_⟩
    refine hK398 _ _ ?_
    refine xdrawn krQ krQ hS hR (Ex.of_pk2 (r := blk b _ _) (s := sls r2 _ _ _ _ _) pkQ pkQ) ?_; clear hR; intro ww hR hR0
    refine dA 0 rfl krQ krQ krQ (fun _ _ _ h => h) hS hR0 (Yld.load1 hS rfl Tryz.underlying127 rfl rdQ) (by decide) ?_; clear hS; intro aa hS
    revert aa
    refine eA 1 rfl krQ (fun _ _ _ h => h) hR0 rfl (fun _ hS => Yld.load1 hS rfl Tryz.underlying127 rfl rdQ) ?_
    refine eA 2 rfl krQ (fun _ _ _ h => h) hR0 rfl (fun _ hS => Yld.nilCheck hS rfl) ?_
    refine eA 3 rfl krQ (fun _ _ _ h => h) hR0 rfl (fun _ hS => Yld.fieldAddr hS rfl 1 Tryz.underlying211 rfl rfl info36 (by decide)) ?_
    refine eA 5 rfl krQ (fun _ _ _ h => h) hR0 rfl (fun _ hS => Yld.move hS rfl) ?_
    intro aa hS
    refine dTwo (i := 4) (j := 6) krQ ?_ ?_
    ·
     refine dop rfl (BA hS hR (Yld.load1 hS rfl Tryz.underlying36 rfl rdQ) (by decide) ?_); clear hS; intro aa hS; refine ⟨hR0, ?_⟩
     refine dOne (i := 6) krQ ?_
     refine dop rfl (BbuildSlice hS hR rfl (bls36_1_0 _) (by decide) ?_); clear hS hR hR0; intro aa ww bb91 hS hR
     refine dnext (hR.sub exQ) ?_; intro hR0
     refine dOne (i := 7) krQ ?_
     refine dop rfl (BappendR (sz := 1) hS hR rfl rfl Tryz.underlying36 info3 rfl rfl (by rfl) pkQ (XC.one ((nx : Int)) pkQ (by rfl) rfl) (by intro _; rfl) (by show (_ + _) * 8 ≤ _; exact lenQ) lenQ (by first | rfl | (simp; done) | (simp; omega)) (by decide) ?_); clear hS hR hR0; intro aa ww r92 c92 hS hR
     refine dnext (hR.sub exQ) ?_; intro hR0
     revert aa
     refine eA 8 rfl krQ (fun _ _ _ h => h) hR0 rfl (fun _ hS => Yld.nilCheck hS rfl) ?_
     refine eA 9 rfl krQ (fun _ _ _ h => h) hR0 rfl (fun _ hS => Yld.fieldAddr hS rfl 1 Tryz.underlying211 rfl rfl info36 (by decide)) ?_
     intro aa hS
     refine dOne (i := 10) krQ ?_
     refine dop rfl (Bstore hS hR rfl rfl (by rfl) info36 (by rfl) pkQ (by rfl) (Nat.le_of_ble_eq_true rfl) ?_); clear hR hR0; intro ww hR
     refine dnext (hR.sub exQ) ?_; intro hR0
     refine wpAnyH_done krQ ?_ _; clear hR0; refine ⟨by simp, hS.defers, ?_⟩
     refine hK395 _ _ ?_
     refine Go.wpIn_region_lit ?_
     refine xA hS hR (Yld.move hS rfl) (by decide) ?_; clear hS; intro aa hS
     refine xB hS (Bstore hS hR rfl rfl (by rfl) info3 (by rfl) pkQ (by rfl) (Nat.le_of_ble_eq_true rfl) ?_); clear hR; intro ww hR; refine ⟨hS.defers, ?_⟩
     refine Go.wpListIn_nil ?_
     repeat (first | with_reducible refine thenR ?_ | with_reducible refine blockR ?_ | with_reducible refine scopeR ?_ | with_reducible refine thenX ?_ | with_reducible refine blockX ?_ | with_reducible refine blockY (by rfl) ?_)
     refine ⟨_, (hR.pk (r := lr _ _) pkQ), ?_⟩; clear hR; intro ww hR
     try dsimp only [lay, List.set] at hR
     have hNs : N.length = (N.set a ((N[a]'hla).1, updN (N[a]'hla).2.1 (dig k i).toNat 0, (N[a]'hla).2.2)).length := by simp
     rw [hNs] at hR
     have hfx : T.frees ++ [(nx : Int)] = (T.free ++ [nx]).map (fun j : Nat => (j : Int)) := by simp [Tr.frees]
     rw [hfx] at hR
     exact Sep.boxI (nx, { nodes := N.set a ((N[a]'hla).1, updN (N[a]'hla).2.1 (dig k i).toNat 0, (N[a]'hla).2.2), free := T.free ++ [nx], most := T.most }, (r1, c1), (_, _)) (⟨⟨f, hP2⟩, by simp only [List.length_set]; omega⟩) (by dsimp only [List.cons_append, List.nil_append]; exact hR.sub exQ)
    ·
     refine dop rfl (BbuildSlice hS hR rfl (bls36_1_0 _) (by decide) ?_); clear hS hR hR0; intro aa ww bb91 hS hR
     refine dnext (hR.sub exQ) ?_; intro hR0
     refine dOne (i := 4) krQ ?_
     refine dop rfl (BA hS hR (Yld.load1 hS rfl Tryz.underlying36 rfl rdQ) (by decide) ?_); clear hS; intro aa hS; refine ⟨hR0, ?_⟩
     refine dOne (i := 7) krQ ?_
     refine dop rfl (BappendR (sz := 1) hS hR rfl rfl Tryz.underlying36 info3 rfl rfl (by rfl) pkQ (XC.one ((nx : Int)) pkQ (by rfl) rfl) (by intro _; rfl) (by show (_ + _) * 8 ≤ _; exact lenQ) lenQ (by first | rfl | (simp; done) | (simp; omega)) (by decide) ?_); clear hS hR hR0; intro aa ww r92 c92 hS hR
     refine dnext (hR.sub exQ) ?_; intro hR0
     revert aa
     refine eA 8 rfl krQ (fun _ _ _ h => h) hR0 rfl (fun _ hS => Yld.nilCheck hS rfl) ?_
     refine eA 9 rfl krQ (fun _ _ _ h => h) hR0 rfl (fun _ hS => Yld.fieldAddr hS rfl 1 Tryz.underlying211 rfl rfl info36 (by decide)) ?_
     intro aa hS
     refine dOne (i := 10) krQ ?_
     refine dop rfl (Bstore hS hR rfl rfl (by rfl) info36 (by rfl) pkQ (by rfl) (Nat.le_of_ble_eq_true rfl) ?_); clear hR hR0; intro ww hR
     refine dnext (hR.sub exQ) ?_; intro hR0
     refine wpAnyH_done krQ ?_ _; clear hR0; refine ⟨by simp, hS.defers, ?_⟩
     refine hK395 _ _ ?_
     refine Go.wpIn_region_lit ?_
     refine xA hS hR (Yld.move hS rfl) (by decide) ?_; clear hS; intro aa hS
     refine xB hS (Bstore hS hR rfl rfl (by rfl) info3 (by rfl) pkQ (by rfl) (Nat.le_of_ble_eq_true rfl) ?_); clear hR; intro ww hR; refine ⟨hS.defers, ?_⟩
     refine Go.wpListIn_nil ?_
     repeat (first | with_reducible refine thenR ?_ | with_reducible refine blockR ?_ | with_reducible refine scopeR ?_ | with_reducible refine thenX ?_ | with_reducible refine blockX ?_ | with_reducible refine blockY (by rfl) ?_)
     refine ⟨_, (hR.pk (r := lr _ _) pkQ), ?_⟩; clear hR; intro ww hR
     try dsimp only [lay, List.set] at hR
     have hNs : N.length = (N.set a ((N[a]'hla).1, updN (N[a]'hla).2.1 (dig k i).toNat 0, (N[a]'hla).2.2)).length := by simp
     rw [hNs] at hR
     have hfx : T.frees ++ [(nx : Int)] = (T.free ++ [nx]).map (fun j : Nat => (j : Int)) := by simp [Tr.frees]
     rw [hfx] at hR
     exact Sep.boxI (nx, { nodes := N.set a ((N[a]'hla).1, updN (N[a]'hla).2.1 (dig k i).toNat 0, (N[a]'hla).2.2), free := T.free ++ [nx], most := T.most }, (r1, c1), (_, _)) (⟨⟨f, hP2⟩, by simp only [List.length_set]; omega⟩) (by dsimp only [List.cons_append, List.nil_append]; exact hR.sub exQ)
   ·
    intro hg hS
    have hP2 := hP.more hde hi (by rw [hnx2]; exact List.getElem?_eq_getElem hnl) (by rw [hN3] at hg; exact hg)
    rw [hnx2, hN] at hP2
    refine xcondF hS rfl ?_
    refine Go.wpIn_skip ?_
    refine hK395 _ _ ?_
    refine Go.wpIn_region_lit ?_
    refine xA hS hR (Yld.move hS rfl) (by decide) ?_; clear hS; intro aa hS
    refine xB hS (Bstore hS hR rfl rfl (by rfl) info3 (by rfl) pkQ (by rfl) (Nat.le_of_ble_eq_true rfl) ?_); clear hR; intro ww hR; refine ⟨hS.defers, ?_⟩
    refine Go.wpListIn_nil ?_
    repeat (first | with_reducible refine thenR ?_ | with_reducible refine blockR ?_ | with_reducible refine scopeR ?_ | with_reducible refine thenX ?_ | with_reducible refine blockX ?_ | with_reducible refine blockY (by rfl) ?_)
    refine ⟨_, (hR.pk (r := lr _ _) pkQ), ?_⟩; clear hR; intro ww hR
    try dsimp only [lay, List.set] at hR
    exact Sep.boxI (nx, { nodes := N, free := T.free, most := T.most }, (r1, c1), (r2, c2)) (⟨⟨f, hP2⟩, by dsimp only; omega⟩) (by dsimp only [List.cons_append, List.nil_append]; exact hR.sub exQ)
  replace hR := Sep.boxI (X := Nat × Tr × TrX) (C := fun x : Nat × Tr × TrX => (∃ f, OutI K k most 0 x.1 x.2.1 f) ∧ x.2.1.nodes.length ≤ 300001) (L := fun x : Nat × Tr × TrX => [lr .ready none, blk bb9 [.int .i64 (x.1 : Int)] 3, blk bb2 [.pointer (some ⟨b, 0, none⟩)] 127, blk b [.slice x.2.2.1.1 x.2.1.nodes.length x.2.2.1.2, .slice x.2.2.2.1 x.2.1.frees.length x.2.2.2.2, .int .i64 x.2.1.most] 211, sls x.2.2.1.1 x.2.1.nodes.length x.2.2.1.2 208 18 (x.2.1.nodes.flatMap eN), sls x.2.2.2.1 x.2.1.frees.length x.2.2.2.2 3 1 (x.2.1.frees.flatMap e1)]) (0, { T with nodes := T.nodes.set 0 ((T.nodes[0]'hpos).1 - 1, (T.nodes[0]'hpos).2.1, (T.nodes[0]'hpos).2.2) }, (r1, c1), (r2, c2)) (⟨OutI.start hT hhs (List.getElem?_eq_getElem hpos), by have := hT.nb; simpa using this⟩) (by dsimp only [List.cons_append, List.nil_append]; exact hR.sub exQ)
  refine CallR.mono (digits_it (J := (fun i : Nat => box (fun x : Nat × Tr × TrX => (∃ f, OutI K k most i x.1 x.2.1 f) ∧ x.2.1.nodes.length ≤ 300001) (fun x => [lr .ready none, blk bb9 [.int .i64 (x.1 : Int)] 3, blk bb2 [.pointer (some ⟨b, 0, none⟩)] 127, blk b [.slice x.2.2.1.1 x.2.1.nodes.length x.2.2.1.2, .slice x.2.2.2.1 x.2.1.frees.length x.2.2.2.2, .int .i64 x.2.1.most] 211, sls x.2.2.1.1 x.2.1.nodes.length x.2.2.1.2 208 18 (x.2.1.nodes.flatMap eN), sls x.2.2.2.1 x.2.1.frees.length x.2.2.2.2 3 1 (x.2.1.frees.flatMap e1)]))) (E := (pure' False)) ((hR.pk (r := blk bk _ _) pkQ).pk (r := box _ _) pkQ) hk hround) ?_; clear hR; rintro vv ww (hR | hR)
  ·
   obtain ⟨⟨a, T, ⟨r1, c1⟩, ⟨r2, c2⟩⟩, hI, hR⟩ := hR.boxE
   try dsimp only [List.cons_append, List.nil_append] at hI hR
   refine ⟨.ready, none, _, by simp, hR, ?_⟩; clear hR; intro ww hR
   obtain ⟨⟨f9, hP9⟩, hnb9⟩ := hI
   obtain ⟨T2, hT2⟩ : ∃ y, T = y := ⟨_, rfl⟩
   rw [hT2] at hR hP9 hnb9
   refine hK391 _ _ ?_
   refine Go.wpIn_seq_k ?_; intro K399 hK399
   refine Go.wpIn_region_lit ?_
   refine xA hS hR (Yld.move hS rfl) (by decide) ?_; clear hS; intro aa hS
   refine xA hS hR (Yld.assign hS rfl) (by decide) ?_; clear hS; intro aa hS
   refine xA hS hR (Yld.assign hS rfl) (by decide) ?_; clear hS; intro aa hS
   refine Go.wpListIn_nil ?_
   refine hK399 _ _ ?_
   refine Go.wpIn_ret ?_
   repeat first | with_reducible refine thenR ?_ | with_reducible refine blockR ?_ | with_reducible refine scopeR ?_
   replace hR := hR.pk (r := DF D393) pkQ
   refine xretN (fn := Tryz.f125) (e := .ret) [D393] rfl (.inl rfl) Tryz.results125 hS hR ?_; clear hR; intro ww hR; refine ⟨_, .cons (.tmp rfl) (.cons (.tmp rfl) (.nil)), rfl, ?_⟩
   refine ⟨by rw [hvz, hsm]; rfl, ?_⟩
   exact Sep.trieAI (TA := 211) (TN := 208) (TI := 3) (b := b) (T := T2)  (hP9.done hT.keys hT.nodup hk hhs hT.bd hnb9) (by rfl) (by rfl) (hR.sub exQ)
  ·
   exact absurd (hR.pureE).1 id
end Go.Proofs.YtkhdejjompbklaaGreat.Sx
