/-
 
-/
import Derived.Test.YtkhdejjompbklaaGreatOTrD
namespace Go.Proofs.YtkhdejjompbklaaGreat.Sx
open Go
set_option maxRecDepth 20000
set_option linter.unusedVariables false
set_option linter.unusedSimpArgs false
set_option maxHeartbeats 4000000 in
theorem Put_ok {K : List (Ky × Int)} {most vx : Int} {k : Ky} {b : Nat} {l : List HP} {w : World} (hR : Sep (trieA 211 208 3 b K most :: l) w) (hk : WfK k) : CallR Tryz.prog 127 [.pointer (some ⟨b, 0, none⟩), vK k, .int .i64 vx] w (fun v w' => v = .int .i64 (putE K k most) ∧ Sep (trieA 211 208 3 b (putK K k vx most) most :: l) w') := by
 refine enterX Tryz.func127 rfl Tryz.ntmps127 (Nat.le_of_ble_eq_true rfl) ?_; intro aa hS
 obtain ⟨T, r1, c1, r2, c2, hT, hR⟩ := hR.trieAE
 have hpos := hT.pos
 obtain ⟨f, hW, hF⟩ := hT.wf
 have hK8 : (K.length : Int) ≤ 8192 := by have := hT.bd; omega
 refine Go.wpIn_seq_k ?_; intro K359 hK359
 refine Go.wpIn_region_lit ?_
 refine xB hS (Bbox hS hR rfl (by rfl) (by decide) ?_); clear hS hR; intro aa ww bb3 hS hR; refine ⟨hS.defers, ?_⟩
 refine xB hS (Bbox hS hR rfl (by rfl) (by decide) ?_); clear hS hR; intro aa ww bb4 hS hR; refine ⟨hS.defers, ?_⟩
 refine xA hS hR (Yld.assign hS rfl) (by decide) ?_; clear hS; intro aa hS
 refine Go.wpListIn_nil ?_
 refine hK359 _ _ ?_
 refine Go.wpIn_seq_k ?_; intro K360 hK360
 refine Go.wpIn_seq_k ?_; intro K361 hK361
 refine Go.wpIn_region_lit ?_
 refine xA hS hR (Yld.load1 hS rfl Tryz.underlying127 rfl rdQ) (by decide) ?_; clear hS; intro aa hS
 refine xB hS (Bcall hS rfl Tryz.call128 (tsome_ok (hR.pk (r := blk b _ _) pkQ) (by omega)) (by decide) ?_); clear hS; intro aa ww vv hS hp; refine ⟨hS.defers, ?_⟩
 clear hR
 obtain ⟨rfl, hR⟩ := hp
 refine xA hS hR (Yld.not hS rfl) (by decide) ?_; clear hS; intro aa hS
 refine Go.wpListIn_nil ?_
 refine hK361 _ _ ?_
 refine xcondF hS rfl ?_
 refine Go.wpIn_skip ?_
 refine hK360 _ _ ?_
 refine Go.wpIn_seq_k ?_; intro K362 hK362
 refine Go.wpIn_seq_k ?_; intro K363 hK363
 refine Go.wpIn_region_lit ?_
 refine xA hS hR (Yld.load1 hS rfl Tryz.underlying127 rfl rdQ) (by decide) ?_; clear hS; intro aa hS
 refine xA hS hR (Yld.loadAgg hS rfl Tryz.underlying160 rfl info160 rdsQ5 (by rfl)) (by decide) ?_; clear hS; intro aa hS
 refine xB hS (Bcall hS rfl Tryz.call129 (find_ok hW hk (by omega) ((hR.pk (r := sls r1 _ _ _ _ _) pkQ).pk (r := blk b _ _) pkQ)) (by decide) ?_); clear hS; intro aa ww vv hS hp; refine ⟨hS.defers, ?_⟩
 clear hR
 obtain ⟨rfl, hR⟩ := hp
 have hfi := has_iff hk hT.keys
 have hfs := findV_some (K := K) (k := k)
 refine xA hS hR (Yld.move hS rfl) (by decide) ?_; clear hS; intro aa hS
 refine xA hS hR (Yld.extract hS rfl rfl) (by decide) ?_; clear hS; intro aa hS
 refine xA hS hR (Yld.extract hS rfl rfl) (by decide) ?_; clear hS; intro aa hS
 refine xA hS hR (Yld.assign hS rfl) (by decide) ?_; clear hS; intro aa hS
 refine xA hS hR (Yld.assign hS rfl) (by decide) ?_; clear hS; intro aa hS
 refine Go.wpListIn_nil ?_
 refine hK363 _ _ ?_
 refine Go.wpIn_seq_k ?_; intro K364 hK364
 refine Go.wpIn_region_lit ?_
 refine xA hS hR (Yld.move hS rfl) (by decide) ?_; clear hS; intro aa hS
 refine xA hS hR (Yld.geq hS rfl rfl) (by decide) ?_; clear hS; intro aa hS
 refine Go.wpListIn_nil ?_
 refine hK364 _ _ ?_
 refine hS.splitB (t := 23) rfl ?_ ?_ <;> clear hS
 ·
  intro hg hS
  have hde : dep (cK K) (dl k) 26 = 26 := by
   by_cases h : dep (cK K) (dl k) 26 = 26
   ·
    exact h
   ·
    rw [show (26 : Int).toNat = 26 from rfl, findAt, if_neg h] at hg; omega
  have hsm := hfs.2 (hfi.1 hde)
  refine xcondT hS rfl ?_
  refine Go.wpIn_seq_k ?_; intro K365 hK365
  refine Go.wpIn_region_lit ?_
  refine xA hS hR (Yld.assign hS rfl) (by decide) ?_; clear hS; intro aa hS
  refine Go.wpListIn_nil ?_
  refine hK365 _ _ ?_
  refine Go.wpIn_ret ?_
  repeat first | with_reducible refine thenR ?_ | with_reducible refine blockR ?_ | with_reducible refine scopeR ?_
  refine xret1 (fn := Tryz.f127) (e := .ret) [] rfl (.inl rfl) Tryz.results127 hS hR ?_; clear hR; intro ww hR; refine ⟨_, (.tmp rfl), ?_⟩
  refine ⟨by rw [putE, if_pos hsm], ?_⟩
  rw [putK, if_pos hsm]
  exact Sep.trieAI (TA := 211) (TN := 208) (TI := 3) (b := b) (T := T)  hT (by rfl) (by rfl) (hR.sub exQ)
 ·
  intro hg hS
  have hno : ¬ has K k := fun h => by rw [show (26 : Int).toNat = 26 from rfl, find_yes (hfi.2 h)] at hg; omega
  have hsm : ¬ (findV K k).isSome = true := fun h => hno (hfs.1 h)
  have hc0 : (T.nodes[0]'hpos).1 = (K.length : Int) := by
   have h9 := hW.cnt [] (T.nodes[0]'hpos) (.inl rfl) (by rw [hW.root]; exact List.getElem?_eq_getElem hpos)
   rw [cK_nil] at h9; exact h9
  have hmo := hT.mo
  refine xcondF hS rfl ?_
  refine Go.wpIn_skip ?_
  refine hK362 _ _ ?_
  refine Go.wpIn_seq_k ?_; intro K366 hK366
  refine Go.wpIn_seq_k ?_; intro K367 hK367
  refine xdrawn krQ krQ hS hR Ex.refl ?_; clear hR; intro ww hR hR0
  revert aa
  refine eA 0 rfl krQ (fun _ _ _ h => h) hR0 rfl (fun _ hS => Yld.load1 hS rfl Tryz.underlying127 rfl rdQ) ?_
  refine eA 1 rfl krQ (fun _ _ _ h => h) hR0 rfl (fun _ hS => Yld.nilCheck hS rfl) ?_
  refine eA 2 rfl krQ (fun _ _ _ h => h) hR0 rfl (fun _ hS => Yld.fieldAddr hS rfl 0 Tryz.underlying211 rfl rfl info209 (by decide)) ?_
  refine eA 3 rfl krQ (fun _ _ _ h => h) hR0 rfl (fun _ hS => Yld.load1 hS rfl Tryz.underlying209 rfl rdQ) ?_
  refine eA 4 rfl krQ (fun _ _ _ h => h) hR0 rfl (fun _ hS => ilQ 18 (0) Tryz.underlying209 info208) ?_
  refine eA 5 rfl krQ (fun _ _ _ h => h) hR0 rfl (fun _ hS => Yld.fieldAddr hS rfl 0 Tryz.underlying208 rfl rfl info3 (by decide)) ?_
  refine eA 6 rfl krQ (fun _ _ _ h => h) hR0 rfl (fun _ hS => Yld.load1 hS rfl Tryz.underlying3 rfl (Rd.rec (j := 0) (v := .int .i64 (T.nodes[0]'hpos).1) pkQ (by intro _; exact eN_len _) hpos (by rfl))) ?_
  refine eA 7 rfl krQ (fun _ _ _ h => h) hR0 rfl (fun _ hS => Yld.load1 hS rfl Tryz.underlying127 rfl rdQ) ?_
  refine eA 8 rfl krQ (fun _ _ _ h => h) hR0 rfl (fun _ hS => Yld.nilCheck hS rfl) ?_
  refine eA 9 rfl krQ (fun _ _ _ h => h) hR0 rfl (fun _ hS => Yld.fieldAddr hS rfl 2 Tryz.underlying211 rfl rfl info3 (by decide)) ?_
  refine eA 10 rfl krQ (fun _ _ _ h => h) hR0 rfl (fun _ hS => Yld.load1 hS rfl Tryz.underlying3 rfl rdQ) ?_
  refine eA 11 rfl krQ (fun _ _ _ h => h) hR0 rfl (fun _ hS => Yld.eql hS rfl rfl) ?_
  intro aa hS
  refine wpAnyH_done krQ ?_ _; clear hR0; refine ⟨by simp, hS.defers, ?_⟩
  refine hK367 _ _ ?_
  refine hS.splitB (t := 35) rfl ?_ ?_ <;> clear hS
  ·
   intro hg hS
   have hfu : (K.length : Int) = most := by omega
   refine xcondT hS rfl ?_
   refine Go.wpIn_seq_k ?_; intro K368 hK368
   refine Go.wpIn_region_lit ?_
   refine xA hS hR (Yld.assign hS rfl) (by decide) ?_; clear hS; intro aa hS
   refine Go.wpListIn_nil ?_
   refine hK368 _ _ ?_
   refine Go.wpIn_ret ?_
   repeat first | with_reducible refine thenR ?_ | with_reducible refine blockR ?_ | with_reducible refine scopeR ?_
   refine xret1 (fn := Tryz.f127) (e := .ret) [] rfl (.inl rfl) Tryz.results127 hS hR ?_; clear hR; intro ww hR; refine ⟨_, (.tmp rfl), ?_⟩
   refine ⟨by rw [putE, if_neg hsm, if_pos hfu], ?_⟩
   rw [putK, if_neg hsm, if_pos hfu]
   exact Sep.trieAI (TA := 211) (TN := 208) (TI := 3) (b := b) (T := T)  hT (by rfl) (by rfl) (hR.sub exQ)
  ·
   intro hg hS
   have hnf : ¬ (K.length : Int) = most := by omega
   refine xcondF hS rfl ?_
   refine Go.wpIn_skip ?_
   refine hK366 _ _ ?_
   refine Go.wpIn_seq_k ?_; intro K369 hK369
   refine Go.wpIn_region_lit ?_
   refine xB hS (Balloc hS hR info3 (by rfl) (by rfl) (by decide) ?_); clear hS hR; intro aa ww bb9 hS hR; refine ⟨hS.defers, ?_⟩
   refine xB hS (Bstore hS hR rfl rfl (by rfl) info3 (by rfl) pkQ (by rfl) (Nat.le_of_ble_eq_true rfl) ?_); clear hR; intro ww hR; refine ⟨hS.defers, ?_⟩
   refine Go.wpListIn_nil ?_
   refine hK369 _ _ ?_
   refine Go.wpIn_seq_k ?_; intro K370 hK370
   refine Go.wpIn_region_lit ?_
   refine xA hS hR (Yld.load1 hS rfl Tryz.underlying127 rfl rdQ) (by decide) ?_; clear hS; intro aa hS
   refine xA hS hR (Yld.nilCheck hS rfl) (by decide) ?_; clear hS; intro aa hS
   refine xA hS hR (Yld.fieldAddr hS rfl 0 Tryz.underlying211 rfl rfl info209 (by decide)) (by decide) ?_; clear hS; intro aa hS
   refine xA hS hR (Yld.load1 hS rfl Tryz.underlying209 rfl rdQ) (by decide) ?_; clear hS; intro aa hS
   refine xA hS hR ((ilQ 18 (0) Tryz.underlying209 info208)) (by decide) ?_; clear hS; intro aa hS
   refine xA hS hR (Yld.fieldAddr hS rfl 0 Tryz.underlying208 rfl rfl info3 (by decide)) (by decide) ?_; clear hS; intro aa hS
   refine xA hS hR (Yld.load1 hS rfl Tryz.underlying3 rfl (Rd.rec (j := 0) (v := .int .i64 (T.nodes[0]'hpos).1) pkQ (by intro _; exact eN_len _) hpos (by rfl))) (by decide) ?_; clear hS; intro aa hS
   refine xA hS hR adQ (by decide) ?_; clear hS; intro aa hS
   refine xA hS hR ((ilQ 18 (0) Tryz.underlying209 info208)) (by decide) ?_; clear hS; intro aa hS
   refine xA hS hR (Yld.fieldAddr hS rfl 0 Tryz.underlying208 rfl rfl info3 (by decide)) (by decide) ?_; clear hS; intro aa hS
   refine xB hS (BstoreR (((T.nodes[0]'hpos).1 + 1, (T.nodes[0]'hpos).2.1, (T.nodes[0]'hpos).2.2)) hS hR rfl rfl (by rfl) info3 (by rfl) pkQ (by rfl) (by intro _; rfl) (by omega) (by first | exact Nat.le_of_ble_eq_true rfl | (simp only [List.length_singleton]; omega)) (Nat.le_of_ble_eq_true rfl) (by rfl) ?_); clear hR; intro ww hR; refine ⟨hS.defers, ?_⟩
   refine Go.wpListIn_nil ?_
   refine hK370 _ _ ?_
   refine Go.wpIn_seq_k ?_; intro K371 hK371
   refine Go.wpIn_seq_k ?_; intro K372 hK372
   refine Go.wpIn_region_lit ?_
   refine xA hS hR (Yld.loadAgg hS rfl Tryz.underlying160 rfl info160 rdsQ5 (by rfl)) (by decide) ?_; clear hS; intro aa hS
   refine xB hS (Bcall hS rfl Tryz.call139 (digits_ok hR) (by decide) ?_); clear hS; intro aa ww vv hS hp; refine ⟨hS.defers, ?_⟩
   clear hR
   obtain ⟨bk, rfl, hR⟩ := hp
   refine Go.wpListIn_nil ?_
   refine hK372 _ _ ?_
   refine Go.wpIn_block ?_
   replace hS := hS.le (T := [(2, _), (3, _), (6, _), (9, _), (47, _)]) (Le.cons rfl (Le.cons rfl (Le.cons rfl (Le.cons rfl (Le.cons rfl (Le.nil _))))))
   try dsimp only [lay, List.set] at hR
   replace hR := hR.pk (r := blk bb9 _ _) pkQ
   change Sep (blk bb9 [.int .i64 ((0 : Nat) : Int)] 3 :: _) _ at hR
   have hL0 : T.nodes.length = (T.nodes.set 0 ((T.nodes[0]'hpos).1 + 1, (T.nodes[0]'hpos).2.1, (T.nodes[0]'hpos).2.2)).length := by simp
   rw [hL0] at hR
   refine yrange hS hR rfl Tryz.call145 ?_
   intro D373 L373 lr ww hlr hR
   have hround : ∀ (Y : List HP) (i : Nat) (w : World), i < 26 → Sep ((fun i : Nat => box (fun x : Nat × Tr × TrX => (∃ f, PutI K k most i x.1 x.2.1 f) ∧ x.2.1.nodes.length ≤ 300001) (fun x => [lr .ready none, blk bb9 [.int .i64 (x.1 : Int)] 3, blk bb3 [.pointer (some ⟨b, 0, none⟩)] 127, blk b [.slice x.2.2.1.1 x.2.1.nodes.length x.2.2.1.2, .slice x.2.2.2.1 x.2.1.frees.length x.2.2.2.2, .int .i64 x.2.1.most] 211, sls x.2.2.1.1 x.2.1.nodes.length x.2.2.1.2 208 18 (x.2.1.nodes.flatMap eN), sls x.2.2.2.1 x.2.1.frees.length x.2.2.2.2 3 1 (x.2.1.frees.flatMap e1)])) i :: Y) w → YieldR Tryz.prog L373 [.int .i64 (i : Int), .int .u8 (dig k i)] w (fun zb zw => Sep ((bif zb then (fun i : Nat => box (fun x : Nat × Tr × TrX => (∃ f, PutI K k most i x.1 x.2.1 f) ∧ x.2.1.nodes.length ≤ 300001) (fun x => [lr .ready none, blk bb9 [.int .i64 (x.1 : Int)] 3, blk bb3 [.pointer (some ⟨b, 0, none⟩)] 127, blk b [.slice x.2.2.1.1 x.2.1.nodes.length x.2.2.1.2, .slice x.2.2.2.1 x.2.1.frees.length x.2.2.2.2, .int .i64 x.2.1.most] 211, sls x.2.2.1.1 x.2.1.nodes.length x.2.2.1.2 208 18 (x.2.1.nodes.flatMap eN), sls x.2.2.2.1 x.2.1.frees.length x.2.2.2.2 3 1 (x.2.1.frees.flatMap e1)])) (i + 1) else (pure' False)) :: Y) zw) := by
    intro Y i ww hi hR
    obtain ⟨⟨a, T, ⟨r1, c1⟩, ⟨r2, c2⟩⟩, hI, hR⟩ := hR.boxE
    try dsimp only [List.cons_append, List.nil_append] at hI hR
    refine yround hlr hR rfl rfl ?_; clear hS; intro aa hS; dsimp only [rslots, List.zip, List.zipWith] at hS
    obtain ⟨⟨f, hP⟩, hnb⟩ := hI
    obtain ⟨hlt, hnx, hnp⟩ := hP.next hi
    have hdb := dig_bd k i
    refine Go.wpIn_region_lit ?_
    refine xA hS hR (Yld.assign hS rfl) (by decide) ?_; clear hS; intro aa hS
    refine Go.wpListIn_nil ?_
    refine ⟨_, _, rfl, (hR.pk (r := lr _ _) pkQ), ?_⟩; clear hR; intro ww hR
    refine Go.wpIn_block ?_
    refine Go.wpIn_seq_k ?_; intro K374 hK374
    refine xdrawn krQ krQ hS hR Ex.refl ?_; clear hR; intro ww hR hR0
    revert aa
    refine eA 0 rfl krQ (fun _ _ _ h => h) hR0 rfl (fun _ hS => Yld.load1 hS rfl Tryz.underlying127 rfl rdQ) ?_
    refine eA 1 rfl krQ (fun _ _ _ h => h) hR0 rfl (fun _ hS => Yld.nilCheck hS rfl) ?_
    refine eA 2 rfl krQ (fun _ _ _ h => h) hR0 rfl (fun _ hS => Yld.fieldAddr hS rfl 0 Tryz.underlying211 rfl rfl info209 (by decide)) ?_
    refine eA 3 rfl krQ (fun _ _ _ h => h) hR0 rfl (fun _ hS => Yld.load1 hS rfl Tryz.underlying209 rfl rdQ) ?_
    refine eA 4 rfl krQ (fun _ _ _ h => h) hR0 rfl (fun _ hS => Yld.load1 hS rfl Tryz.underlying3 rfl rdQ) ?_
    refine eA 5 rfl krQ (fun _ _ _ h => h) hR0 rfl (fun _ hS => Yld.move hS rfl) ?_
    refine eA 6 rfl krQ (fun _ _ _ h => h) hR0 rfl (fun _ hS => by first | exact Yld.indexL (sz := 18) _ hS rfl rfl Tryz.underlying209 info208 pkQ rfl rfl (by omega) | exact Yld.indexB (sz := 18) _ hS rfl rfl Tryz.underlying209 info208 rfl rfl (by omega) | exact Yld.indexSlice hS rfl rfl Tryz.underlying209 info208 (by omega) (by omega)) ?_
    refine eA 7 rfl krQ (fun _ _ _ h => h) hR0 rfl (fun _ hS => Yld.fieldAddr hS rfl 1 Tryz.underlying208 rfl rfl info206 (by decide)) ?_
    refine eA 8 rfl krQ (fun _ _ _ h => h) hR0 rfl (fun _ hS => Yld.indexArr hS rfl rfl Tryz.underlying206 info3 (by omega) (by omega)) ?_
    refine eA 9 rfl krQ (fun _ _ _ h => h) hR0 rfl (fun _ hS => Yld.load1 hS rfl Tryz.underlying3 rfl (Rd.at (Rd.rec (j := 1 + (dig k i).toNat) (v := .int .i64 ((T.nodes[a]'hlt).2.1 (dig k i).toNat)) pkQ (by intro _; exact eN_len _) hlt (eN_get (by omega))) (by have h1 : (Tryz.t3).size = 1 := rfl; rw [h1]; omega))) ?_
    intro aa hS
    replace hS := hS.say (t := 59) (.int .i64 (if 0 < cK K ((dl k).take (i + 1)) then (f ((dl k).take (i + 1)) : Int) else 0)) rfl (by rw [hnx])
    revert aa
    refine eA 10 rfl krQ (fun _ _ _ h => h) hR0 rfl (fun _ hS => Yld.assign hS rfl) ?_
    intro aa hS
    refine wpAnyH_done krQ ?_ _; clear hR0; refine ⟨by simp, hS.defers, ?_⟩
    refine hK374 _ _ ?_
    refine Go.wpIn_seq_k ?_; intro K375 hK375
    refine Go.wpIn_seq_k ?_; intro K376 hK376
    refine Go.wpIn_region_lit ?_
    refine xA hS hR (Yld.move hS rfl) (by decide) ?_; clear hS; intro aa hS
    refine xA hS hR (Yld.eql hS rfl rfl) (by decide) ?_; clear hS; intro aa hS
    refine Go.wpListIn_nil ?_
    refine hK376 _ _ ?_
    refine hS.splitB (t := 61) rfl ?_ ?_ <;> clear hS
    ·
     intro hg hS
     have hnc : ¬ 0 < cK K ((dl k).take (i + 1)) := fun hc => by rw [if_pos hc] at hg; have := (hnp hc).1; omega
     refine xcondT hS rfl ?_
     refine Go.wpIn_seq_k ?_; intro K377 hK377
     refine Go.wpIn_region_lit ?_
     refine xA hS hR (Yld.load1 hS rfl Tryz.underlying127 rfl rdQ) (by decide) ?_; clear hS; intro aa hS
     refine xB hS (Bcall hS rfl Tryz.call140 (fresh_ok (((hR.pk (r := sls r2 _ _ _ _ _) pkQ).pk (r := sls r1 _ _ _ _ _) pkQ).pk (r := blk b _ _) pkQ) (fun e => hP.bd hK8 e) hP.fr.lt (by have := nodup_len hP.fr.nodup hP.fr.lt; omega)) (by decide) ?_); clear hS; intro aa ww vv hS hp; refine ⟨hS.defers, ?_⟩
     clear hR
     obtain ⟨rfl, hR⟩ := hp
     obtain ⟨r1, c1, r2, c2, hR⟩ := hR.trieE
     obtain ⟨hlt2, hM⟩ := hP.mNew hi hnc
     have hnb2 := freshT_len hnb (fun e => hP.bd hK8 e)
     generalize freshT T = T2 at hR hlt2 hM hnb2
     generalize freshI T = nx at hS hM
     refine xA hS hR (Yld.assign hS rfl) (by decide) ?_; clear hS; intro aa hS
     refine Go.wpListIn_nil ?_
     refine hK377 _ _ ?_
     refine xdrawn krQ krQ hS hR (Ex.of_pk (r := sls r1 _ _ _ _ _) pkQ) ?_; clear hR; intro ww hR hR0
     revert aa
     refine eA 0 rfl krQ (fun _ _ _ h => h) hR0 rfl (fun _ hS => Yld.load1 hS rfl Tryz.underlying127 rfl rdQ) ?_
     refine eA 1 rfl krQ (fun _ _ _ h => h) hR0 rfl (fun _ hS => Yld.nilCheck hS rfl) ?_
     refine eA 2 rfl krQ (fun _ _ _ h => h) hR0 rfl (fun _ hS => Yld.fieldAddr hS rfl 0 Tryz.underlying211 rfl rfl info209 (by decide)) ?_
     refine eA 3 rfl krQ (fun _ _ _ h => h) hR0 rfl (fun _ hS => Yld.load1 hS rfl Tryz.underlying209 rfl rdQ) ?_
     refine eA 4 rfl krQ (fun _ _ _ h => h) hR0 rfl (fun _ hS => Yld.load1 hS rfl Tryz.underlying3 rfl rdQ) ?_
     refine eA 5 rfl krQ (fun _ _ _ h => h) hR0 rfl (fun _ hS => Yld.move hS rfl) ?_
     refine eA 6 rfl krQ (fun _ _ _ h => h) hR0 rfl (fun _ hS => Yld.move hS rfl) ?_
     intro aa hS
     refine dOne (i := 7) krQ ?_
     refine dop rfl (BA hS hR ((by first | exact Yld.indexL (sz := 18) _ hS rfl rfl Tryz.underlying209 info208 pkQ rfl rfl (by omega) | exact Yld.indexB (sz := 18) _ hS rfl rfl Tryz.underlying209 info208 rfl rfl (by omega) | exact Yld.indexSlice hS rfl rfl Tryz.underlying209 info208 (by omega) (by omega))) (by decide) ?_); clear hS; intro aa hS; refine ⟨hR0, ?_⟩
     revert aa
     refine eA 8 rfl krQ (fun _ _ _ h => h) hR0 rfl (fun _ hS => Yld.fieldAddr hS rfl 1 Tryz.underlying208 rfl rfl info206 (by decide)) ?_
     refine eA 9 rfl krQ (fun _ _ _ h => h) hR0 rfl (fun _ hS => Yld.to (u := .pointer (some ⟨blkOf r1, a * 18 + (1 + (dig k i).toNat), none⟩)) (Yld.indexArr hS rfl rfl Tryz.underlying206 info3 (by omega) (by omega)) (by have h1 : (Tryz.t3).size = 1 := rfl; rw [h1, Nat.mul_one, Nat.add_assoc])) ?_
     intro aa hS
     refine dOne (i := 10) krQ ?_
     refine dop rfl (BstoreR (((T2.nodes[a]'hlt2).1, updN (T2.nodes[a]'hlt2).2.1 (dig k i).toNat (nx : Int), (T2.nodes[a]'hlt2).2.2)) hS hR rfl rfl (by rfl) info3 (by rfl) pkQ (by rfl) (by intro _; rfl) (by omega) (by first | exact Nat.le_of_ble_eq_true rfl | (simp only [List.length_singleton]; omega)) (Nat.le_of_ble_eq_true rfl) (by exact lay_next (by omega) _) ?_); clear hR hR0; intro ww hR
     refine dnext (hR.sub exQ) ?_; intro hR0
     obtain ⟨N, hN⟩ : ∃ y, T2.nodes.set a ((T2.nodes[a]'hlt2).1, updN (T2.nodes[a]'hlt2).2.1 (dig k i).toNat (nx : Int), (T2.nodes[a]'hlt2).2.2) = y := ⟨_, rfl⟩
     have hNl : T2.nodes.length = N.length := by rw [← hN]; simp
     rw [hN] at hR hM
     rw [hNl] at hR hnb2
     obtain ⟨hnl, hnc2, f2, hP2⟩ := hM
     refine wpAnyH_done krQ ?_ _; clear hR0; refine ⟨by simp, hS.defers, ?_⟩
     refine hK375 _ _ ?_
     refine Go.wpIn_seq_k ?_; intro K378 hK378
     refine Go.wpIn_region_lit ?_
     refine xA hS hR (Yld.move hS rfl) (by decide) ?_; clear hS; intro aa hS
     refine xB hS (Bstore hS hR rfl rfl (by rfl) info3 (by rfl) pkQ (by rfl) (Nat.le_of_ble_eq_true rfl) ?_); clear hR; intro ww hR; refine ⟨hS.defers, ?_⟩
     refine Go.wpListIn_nil ?_
     refine hK378 _ _ ?_
     refine xdrawn krQ krQ hS hR (Ex.of_pk (r := sls r1 _ _ _ _ _) pkQ) ?_; clear hR; intro ww hR hR0
     refine dA 0 rfl krQ krQ krQ (fun _ _ _ h => h) hS hR0 (Yld.load1 hS rfl Tryz.underlying127 rfl rdQ) (by decide) ?_; clear hS; intro aa hS
     revert aa
     refine eA 1 rfl krQ (fun _ _ _ h => h) hR0 rfl (fun _ hS => Yld.nilCheck hS rfl) ?_
     refine eA 2 rfl krQ (fun _ _ _ h => h) hR0 rfl (fun _ hS => Yld.fieldAddr hS rfl 0 Tryz.underlying211 rfl rfl info209 (by decide)) ?_
     refine eA 3 rfl krQ (fun _ _ _ h => h) hR0 rfl (fun _ hS => Yld.load1 hS rfl Tryz.underlying209 rfl rdQ) ?_
     refine eA 4 rfl krQ (fun _ _ _ h => h) hR0 rfl (fun _ hS => Yld.load1 hS rfl Tryz.underlying3 rfl rdQ) ?_
     intro aa hS
     refine dOne (i := 5) krQ ?_
     refine dop rfl (BA hS hR ((by first | exact Yld.indexL (sz := 18) _ hS rfl rfl Tryz.underlying209 info208 pkQ rfl rfl (by omega) | exact Yld.indexB (sz := 18) _ hS rfl rfl Tryz.underlying209 info208 rfl rfl (by omega) | exact Yld.indexSlice hS rfl rfl Tryz.underlying209 info208 (by omega) (by omega))) (by decide) ?_); clear hS; intro aa hS; refine ⟨hR0, ?_⟩
     revert aa
     refine eA 6 rfl krQ (fun _ _ _ h => h) hR0 rfl (fun _ hS => Yld.fieldAddr hS rfl 0 Tryz.underlying208 rfl rfl info3 (by decide)) ?_
     intro aa hS
     refine dOne (i := 7) krQ ?_
     refine dop rfl (BA hS hR (Yld.load1 hS rfl Tryz.underlying3 rfl (Rd.rec (j := 0) (v := .int .i64 (N[nx]'hnl).1) pkQ (by intro _; exact eN_len _) hnl (by rfl))) (by decide) ?_); clear hS; intro aa hS; refine ⟨hR0, ?_⟩
     refine dA 8 rfl krQ krQ krQ (fun _ _ _ h => h) hS hR0 adQ (by decide) ?_; clear hS; intro aa hS
     refine dOne (i := 9) krQ ?_
     refine dop rfl (BA hS hR ((by first | exact Yld.indexL (sz := 18) _ hS rfl rfl Tryz.underlying209 info208 pkQ rfl rfl (by omega) | exact Yld.indexB (sz := 18) _ hS rfl rfl Tryz.underlying209 info208 rfl rfl (by omega) | exact Yld.indexSlice hS rfl rfl Tryz.underlying209 info208 (by omega) (by omega))) (by decide) ?_); clear hS; intro aa hS; refine ⟨hR0, ?_⟩
     revert aa
     refine eA 10 rfl krQ (fun _ _ _ h => h) hR0 rfl (fun _ hS => Yld.fieldAddr hS rfl 0 Tryz.underlying208 rfl rfl info3 (by decide)) ?_
     intro aa hS
     refine dOne (i := 11) krQ ?_
     refine dop rfl (BstoreR (((N[nx]'hnl).1 + 1, (N[nx]'hnl).2.1, (N[nx]'hnl).2.2)) hS hR rfl rfl (by rfl) info3 (by rfl) pkQ (by rfl) (by intro _; rfl) (by omega) (by first | exact Nat.le_of_ble_eq_true rfl | (simp only [List.length_singleton]; omega)) (Nat.le_of_ble_eq_true rfl) (by rfl) ?_); clear hR hR0; intro ww hR
     refine dnext (hR.sub exQ) ?_; intro hR0
     refine wpAnyH_done krQ ?_ _; clear hR0; refine ⟨by simp, hS.defers, ?_⟩
     repeat (first | with_reducible refine thenR ?_ | with_reducible refine blockR ?_ | with_reducible refine scopeR ?_ | with_reducible refine thenX ?_ | with_reducible refine blockX ?_ | with_reducible refine blockY (by rfl) ?_)
     refine ⟨_, (hR.pk (r := lr _ _) pkQ), ?_⟩; clear hR; intro ww hR
     try dsimp only [lay, List.set] at hR
     have hNs : N.length = (N.set nx ((N[nx]'hnl).1 + 1, (N[nx]'hnl).2.1, (N[nx]'hnl).2.2)).length := by simp
     rw [hNs] at hR
     exact Sep.boxI (nx, { nodes := N.set nx ((N[nx]'hnl).1 + 1, (N[nx]'hnl).2.1, (N[nx]'hnl).2.2), free := T2.free, most := T2.most }, (r1, c1), (r2, c2)) (⟨⟨f2, hP2⟩, by rw [List.length_set]; exact hnb2⟩) (by dsimp only [List.cons_append, List.nil_append]; exact hR.sub exQ)
    ·
     intro hg hS
     have hyc : 0 < cK K ((dl k).take (i + 1)) := by
      by_cases hc : 0 < cK K ((dl k).take (i + 1))
      ·
       exact hc
      ·
       rw [if_neg hc] at hg; exact absurd rfl hg
     have hM := hP.mOld hi hK8 hyc
     obtain ⟨nx, hnx2⟩ : ∃ y, f ((dl k).take (i + 1)) = y := ⟨_, rfl⟩
     replace hS := hS.say (t := 12) (.int .i64 (nx : Int)) rfl (by rw [if_pos hyc, hnx2])
     rw [hnx2] at hM
     have hnb2 := hnb
     obtain ⟨T2, hT2⟩ : ∃ y, T = y := ⟨_, rfl⟩
     rw [hT2] at hR hM hnb2
     obtain ⟨N, hN⟩ : ∃ y, T2.nodes = y := ⟨_, rfl⟩
     rw [hN] at hR hM hnb2
     obtain ⟨hnl, hnc2, f2, hP2⟩ := hM
     refine xcondF hS rfl ?_
     refine Go.wpIn_skip ?_
     refine hK375 _ _ ?_
     refine Go.wpIn_seq_k ?_; intro K379 hK379
     refine Go.wpIn_region_lit ?_
     refine xA hS hR (Yld.move hS rfl) (by decide) ?_; clear hS; intro aa hS
     refine xB hS (Bstore hS hR rfl rfl (by rfl) info3 (by rfl) pkQ (by rfl) (Nat.le_of_ble_eq_true rfl) ?_); clear hR; intro ww hR; refine ⟨hS.defers, ?_⟩
     refine Go.wpListIn_nil ?_
     refine hK379 _ _ ?_
     refine xdrawn krQ krQ hS hR (Ex.of_pk (r := sls r1 _ _ _ _ _) pkQ) ?_; clear hR; intro ww hR hR0
     refine dA 0 rfl krQ krQ krQ (fun _ _ _ h => h) hS hR0 (Yld.load1 hS rfl Tryz.underlying127 rfl rdQ) (by decide) ?_; clear hS; intro aa hS
     revert aa
     refine eA 1 rfl krQ (fun _ _ _ h => h) hR0 rfl (fun _ hS => Yld.nilCheck hS rfl) ?_
     refine eA 2 rfl krQ (fun _ _ _ h => h) hR0 rfl (fun _ hS => Yld.fieldAddr hS rfl 0 Tryz.underlying211 rfl rfl info209 (by decide)) ?_
     refine eA 3 rfl krQ (fun _ _ _ h => h) hR0 rfl (fun _ hS => Yld.load1 hS rfl Tryz.underlying209 rfl rdQ) ?_
     refine eA 4 rfl krQ (fun _ _ _ h => h) hR0 rfl (fun _ hS => Yld.load1 hS rfl Tryz.underlying3 rfl rdQ) ?_
     intro aa hS
     refine dOne (i := 5) krQ ?_
     refine dop rfl (BA hS hR ((by first | exact Yld.indexL (sz := 18) _ hS rfl rfl Tryz.underlying209 info208 pkQ rfl rfl (by omega) | exact Yld.indexB (sz := 18) _ hS rfl rfl Tryz.underlying209 info208 rfl rfl (by omega) | exact Yld.indexSlice hS rfl rfl Tryz.underlying209 info208 (by omega) (by omega))) (by decide) ?_); clear hS; intro aa hS; refine ⟨hR0, ?_⟩
     revert aa
     refine eA 6 rfl krQ (fun _ _ _ h => h) hR0 rfl (fun _ hS => Yld.fieldAddr hS rfl 0 Tryz.underlying208 rfl rfl info3 (by decide)) ?_
     intro aa hS
     refine dOne (i := 7) krQ ?_
     refine dop rfl (BA hS hR (Yld.load1 hS rfl Tryz.underlying3 rfl (Rd.rec (j := 0) (v := .int .i64 (N[nx]'hnl).1) pkQ (by intro _; exact eN_len _) hnl (by rfl))) (by decide) ?_); clear hS; intro aa hS; refine ⟨hR0, ?_⟩
     refine dA 8 rfl krQ krQ krQ (fun _ _ _ h => h) hS hR0 adQ (by decide) ?_; clear hS; intro aa hS
     refine dOne (i := 9) krQ ?_
     refine dop rfl (BA hS hR ((by first | exact Yld.indexL (sz := 18) _ hS rfl rfl Tryz.underlying209 info208 pkQ rfl rfl (by omega) | exact Yld.indexB (sz := 18) _ hS rfl rfl Tryz.underlying209 info208 rfl rfl (by omega) | exact Yld.indexSlice hS rfl rfl Tryz.underlying209 info208 (by omega) (by omega))) (by decide) ?_); clear hS; intro aa hS; refine ⟨hR0, ?_⟩
     revert aa
     refine eA 10 rfl krQ (fun _ _ _ h => h) hR0 rfl (fun _ hS => Yld.fieldAddr hS rfl 0 Tryz.underlying208 rfl rfl info3 (by decide)) ?_
     intro aa hS
     refine dOne (i := 11) krQ ?_
     refine dop rfl (BstoreR (((N[nx]'hnl).1 + 1, (N[nx]'hnl).2.1, (N[nx]'hnl).2.2)) hS hR rfl rfl (by rfl) info3 (by rfl) pkQ (by rfl) (by intro _; rfl) (by omega) (by first | exact Nat.le_of_ble_eq_true rfl | (simp only [List.length_singleton]; omega)) (Nat.le_of_ble_eq_true rfl) (by rfl) ?_); clear hR hR0; intro ww hR
     refine dnext (hR.sub exQ) ?_; intro hR0
     refine wpAnyH_done krQ ?_ _; clear hR0; refine ⟨by simp, hS.defers, ?_⟩
     repeat (first | with_reducible refine thenR ?_ | with_reducible refine blockR ?_ | with_reducible refine scopeR ?_ | with_reducible refine thenX ?_ | with_reducible refine blockX ?_ | with_reducible refine blockY (by rfl) ?_)
     refine ⟨_, (hR.pk (r := lr _ _) pkQ), ?_⟩; clear hR; intro ww hR
     try dsimp only [lay, List.set] at hR
     have hNs : N.length = (N.set nx ((N[nx]'hnl).1 + 1, (N[nx]'hnl).2.1, (N[nx]'hnl).2.2)).length := by simp
     rw [hNs] at hR
     exact Sep.boxI (nx, { nodes := N.set nx ((N[nx]'hnl).1 + 1, (N[nx]'hnl).2.1, (N[nx]'hnl).2.2), free := T2.free, most := T2.most }, (r1, c1), (r2, c2)) (⟨⟨f2, hP2⟩, by rw [List.length_set]; exact hnb2⟩) (by dsimp only [List.cons_append, List.nil_append]; exact hR.sub exQ)
   replace hR := Sep.boxI (X := Nat × Tr × TrX) (C := fun x : Nat × Tr × TrX => (∃ f, PutI K k most 0 x.1 x.2.1 f) ∧ x.2.1.nodes.length ≤ 300001) (L := fun x : Nat × Tr × TrX => [lr .ready none, blk bb9 [.int .i64 (x.1 : Int)] 3, blk bb3 [.pointer (some ⟨b, 0, none⟩)] 127, blk b [.slice x.2.2.1.1 x.2.1.nodes.length x.2.2.1.2, .slice x.2.2.2.1 x.2.1.frees.length x.2.2.2.2, .int .i64 x.2.1.most] 211, sls x.2.2.1.1 x.2.1.nodes.length x.2.2.1.2 208 18 (x.2.1.nodes.flatMap eN), sls x.2.2.2.1 x.2.1.frees.length x.2.2.2.2 3 1 (x.2.1.frees.flatMap e1)]) (0, { T with nodes := T.nodes.set 0 ((T.nodes[0]'hpos).1 + 1, (T.nodes[0]'hpos).2.1, (T.nodes[0]'hpos).2.2) }, (r1, c1), (r2, c2)) (⟨PutI.start hT hk hno (List.getElem?_eq_getElem hpos), by have := hT.nb; simpa using this⟩) (by dsimp only [List.cons_append, List.nil_append]; exact hR.sub exQ)
   refine CallR.mono (digits_it (J := (fun i : Nat => box (fun x : Nat × Tr × TrX => (∃ f, PutI K k most i x.1 x.2.1 f) ∧ x.2.1.nodes.length ≤ 300001) (fun x => [lr .ready none, blk bb9 [.int .i64 (x.1 : Int)] 3, blk bb3 [.pointer (some ⟨b, 0, none⟩)] 127, blk b [.slice x.2.2.1.1 x.2.1.nodes.length x.2.2.1.2, .slice x.2.2.2.1 x.2.1.frees.length x.2.2.2.2, .int .i64 x.2.1.most] 211, sls x.2.2.1.1 x.2.1.nodes.length x.2.2.1.2 208 18 (x.2.1.nodes.flatMap eN), sls x.2.2.2.1 x.2.1.frees.length x.2.2.2.2 3 1 (x.2.1.frees.flatMap e1)]))) (E := (pure' False)) ((hR.pk (r := blk bk _ _) pkQ).pk (r := box _ _) pkQ) hk hround) ?_; clear hR; rintro vv ww (hR | hR)
   ·
    obtain ⟨⟨a, T, ⟨r1, c1⟩, ⟨r2, c2⟩⟩, hI, hR⟩ := hR.boxE
    try dsimp only [List.cons_append, List.nil_append] at hI hR
    refine ⟨.ready, none, _, by simp, hR, ?_⟩; clear hR; intro ww hR
    obtain ⟨⟨f9, hP9⟩, hnb9⟩ := hI
    obtain ⟨T2, hT2⟩ : ∃ y, T = y := ⟨_, rfl⟩
    rw [hT2] at hR hP9 hnb9
    have hlt9 : a < T2.nodes.length := by rw [hP9.at']; exact hP9.wf.lt _ (.inr (by unfold cP; rw [if_pos (show bg (dl k) 26 _ from ⟨by rw [List.length_take]; omega, by rw [List.length_take, dl_len]; rfl⟩)]; omega))
    refine hK371 _ _ ?_
    refine Go.wpIn_seq_k ?_; intro K380 hK380
    refine xdrawn krQ krQ hS hR (Ex.of_pk (r := sls r1 _ _ _ _ _) pkQ) ?_; clear hR; intro ww hR hR0
    refine dA 0 rfl krQ krQ krQ (fun _ _ _ h => h) hS hR0 (Yld.load1 hS rfl Tryz.underlying127 rfl rdQ) (by decide) ?_; clear hS; intro aa hS
    revert aa
    refine eA 1 rfl krQ (fun _ _ _ h => h) hR0 rfl (fun _ hS => Yld.nilCheck hS rfl) ?_
    refine eA 2 rfl krQ (fun _ _ _ h => h) hR0 rfl (fun _ hS => Yld.fieldAddr hS rfl 0 Tryz.underlying211 rfl rfl info209 (by decide)) ?_
    refine eA 3 rfl krQ (fun _ _ _ h => h) hR0 rfl (fun _ hS => Yld.load1 hS rfl Tryz.underlying209 rfl rdQ) ?_
    refine eA 4 rfl krQ (fun _ _ _ h => h) hR0 rfl (fun _ hS => Yld.load1 hS rfl Tryz.underlying3 rfl rdQ) ?_
    refine eA 5 rfl krQ (fun _ _ _ h => h) hR0 rfl (fun _ hS => Yld.move hS rfl) ?_
    intro aa hS
    refine dOne (i := 6) krQ ?_
    refine dop rfl (BA hS hR ((by first | exact Yld.indexL (sz := 18) _ hS rfl rfl Tryz.underlying209 info208 pkQ rfl rfl (by omega) | exact Yld.indexB (sz := 18) _ hS rfl rfl Tryz.underlying209 info208 rfl rfl (by omega) | exact Yld.indexSlice hS rfl rfl Tryz.underlying209 info208 (by omega) (by omega))) (by decide) ?_); clear hS; intro aa hS; refine ⟨hR0, ?_⟩
    revert aa
    refine eA 7 rfl krQ (fun _ _ _ h => h) hR0 rfl (fun _ hS => Yld.fieldAddr hS rfl 17 Tryz.underlying208 rfl rfl info3 (by decide)) ?_
    intro aa hS
    refine dOne (i := 8) krQ ?_
    refine dop rfl (BstoreR (((T2.nodes[a]'hlt9).1, (T2.nodes[a]'hlt9).2.1, vx)) hS hR rfl rfl (by rfl) info3 (by rfl) pkQ (by rfl) (by intro _; rfl) (by omega) (by first | exact Nat.le_of_ble_eq_true rfl | (simp only [List.length_singleton]; omega)) (Nat.le_of_ble_eq_true rfl) (by exact lay_val _) ?_); clear hR hR0; intro ww hR
    refine dnext (hR.sub exQ) ?_; intro hR0
    refine wpAnyH_done krQ ?_ _; clear hR0; refine ⟨by simp, hS.defers, ?_⟩
    refine hK380 _ _ ?_
    refine Go.wpIn_seq_k ?_; intro K381 hK381
    refine Go.wpIn_region_lit ?_
    refine xA hS hR (Yld.assign hS rfl) (by decide) ?_; clear hS; intro aa hS
    refine Go.wpListIn_nil ?_
    refine hK381 _ _ ?_
    refine Go.wpIn_ret ?_
    repeat first | with_reducible refine thenR ?_ | with_reducible refine blockR ?_ | with_reducible refine scopeR ?_
    replace hR := hR.pk (r := DF D373) pkQ
    refine xret1 (fn := Tryz.f127) (e := .ret) [D373] rfl (.inl rfl) Tryz.results127 hS hR ?_; clear hR; intro ww hR; refine ⟨_, (.tmp rfl), ?_⟩
    refine ⟨by rw [putE, if_neg hsm, if_neg hnf], ?_⟩
    rw [putK, if_neg hsm, if_neg hnf]
    try dsimp only [lay, List.set] at hR
    exact Sep.trieAI (TA := 211) (TN := 208) (TI := 3) (b := b) (T := { T2 with nodes := T2.nodes.set a ((T2.nodes[a]'hlt9).1, (T2.nodes[a]'hlt9).2.1, vx) }) (n1 := T2.nodes.length) (hP9.done hT.keys hT.nodup hk hno (by have := hT.bd; omega) (by have := hT.bd; omega) hnb9 vx (List.getElem?_eq_getElem hlt9)) (by simp) (by rfl) (hR.sub exQ)
   ·
    exact absurd (hR.pureE).1 id
end Go.Proofs.YtkhdejjompbklaaGreat.Sx
