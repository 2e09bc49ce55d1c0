/-
 
-/
import Derived.Test.YtkhdejjompbklaaGreatOLkE
namespace Go.Proofs.YtkhdejjompbklaaGreat.Sx
open Go
set_option maxRecDepth 20000
set_option linter.unusedVariables false
set_option linter.unusedSimpArgs false
set_option maxHeartbeats 2000000 in
theorem LAll_ok {S n b : Nat} {L : Nat → List Nat} {q : Int} {l : List HP} {w : World} (hR : Sep (linksA 183 180 3 b S n L :: l) w) : CallR Tryz.prog 105 [.pointer (some ⟨b, 0, none⟩), .int .i64 q] w (fun v w' => ∃ r c, v = .slice r (cst (allS n L q)).length c ∧ Sep (sls r (cst (allS n L q)).length c 3 1 ((cst (allS n L q)).flatMap e1) :: linksA 183 180 3 b S n L :: l) w') := by
 refine enterX Tryz.func105 rfl Tryz.ntmps105 (Nat.le_of_ble_eq_true rfl) ?_; intro aa hS
 obtain ⟨P, R, rg, nm, sz, r1, c1, r2, c2, r3, c3, r4, c4, hW, hR⟩ := hR.linksAE
 have hs1 := hW.s1
 have hs2 := hW.s2
 have hn1 := hW.n1
 have hn2 := hW.n2
 obtain ⟨hb1, hb2, hb3, hb4⟩ := hR.linksBk hn1
 refine Go.wpIn_seq_k ?_; intro K292 hK292
 refine Go.wpIn_region_lit ?_
 refine xA hS hR (Yld.assign hS rfl) (by decide) ?_; clear hS; intro aa hS
 refine Go.wpListIn_nil ?_
 refine hK292 _ _ ?_
 refine Go.wpIn_seq_k ?_; intro K293 hK293
 refine Go.wpIn_seq_k ?_; intro K294 hK294
 refine Go.wpIn_region_lit ?_
 refine xA hS hR (Yld.move hS rfl) (by decide) ?_; clear hS; intro aa hS
 refine xA hS hR (Yld.move hS rfl) (by decide) ?_; clear hS; intro aa hS
 refine xB hS (Bcall hS rfl Tryz.call122 (llist_ok (hR.pk (r := blk b _ _) pkQ) (by omega)) (by decide) ?_); clear hS; intro aa ww vv hS hp; refine ⟨hS.defers, ?_⟩
 clear hR
 obtain ⟨rfl, hR⟩ := hp
 refine xA hS hR (Yld.not hS rfl) (by decide) ?_; clear hS; intro aa hS
 refine Go.wpListIn_nil ?_
 refine hK294 _ _ ?_
 refine hS.splitB (t := 10) rfl ?_ ?_ <;> clear hS
 ·
  intro hg hS
  refine xcondT hS rfl ?_
  refine Go.wpIn_seq_k ?_; intro K295 hK295
  refine Go.wpIn_region_lit ?_
  refine xA hS hR (Yld.assign hS rfl) (by decide) ?_; clear hS; intro aa hS
  refine Go.wpListIn_nil ?_
  refine hK295 _ _ ?_
  refine Go.wpIn_ret ?_
  repeat first | with_reducible refine thenR ?_ | with_reducible refine blockR ?_ | with_reducible refine scopeR ?_
  refine xret1 (fn := Tryz.f105) (e := .ret) [] rfl (.inl rfl) Tryz.results105 hS hR ?_; clear hR; intro ww hR; refine ⟨_, (.tmp rfl), ?_⟩
  have hz : allS n L q = [] := by rw [allS, if_neg (by omega)]
  replace hR := hR.slsNil (T := 3) (sz := 1)
  have h9 : Sep (linksA 183 180 3 b S n L :: sls none 0 0 3 1 [] :: l) _ := Sep.linksAI (TL := 183) (TN := 180) (TI := 3) (b := b) hW rfl (hR.sub exQ)
  rw [hz]
  exact ⟨none, 0, rfl, h9.swap⟩
 ·
  intro hg hS
  obtain ⟨q, rfl⟩ : ∃ z9 : Nat, q = z9 := ⟨(q).toNat, by omega⟩
  have hqn : q < n := by omega
  have hri := hW.hrg q hqn
  obtain ⟨M, hM⟩ : ∃ M, dirL 0 (L q) = M := ⟨_, rfl⟩
  have hm0 := (hW.ring q hqn).step0 (w := 0) (by omega)
  have hms := fun i (h : i < (dirL 0 (L q)).length) => (hW.ring q hqn).step (w := 0) (by omega) h
  have hmb : ∀ i : Nat, (dirL 0 (L q))[i]?.getD (S + rg q) < S + n := fun i => by
   rcases List.mem_cons.1 (hW.seqB (w := 0) (k := i) hqn) with h | h
   ·
    omega
   ·
    have := hW.lt q hqn _ h; omega
  have hme : ∀ i : Nat, i < (dirL 0 (L q)).length → (dirL 0 (L q))[i]?.getD (S + rg q) ≠ S + rg q := fun i h => by have := hW.seqE (w := 0) hqn h; omega
  have hMl : M.length ≤ S := by rw [← hM, dirL_len]; exact hW.len hqn
  rw [hM] at hm0 hms hmb hme
  refine xcondF hS rfl ?_
  refine Go.wpIn_skip ?_
  refine hK293 _ _ ?_
  refine Go.wpIn_seq_k ?_; intro K296 hK296
  refine Go.wpIn_region_lit ?_
  refine xB hS (Balloc hS hR info36 (by rfl) (by rfl) (by decide) ?_); clear hS hR; intro aa ww bb5 hS hR; refine ⟨hS.defers, ?_⟩
  refine Go.wpListIn_nil ?_
  refine hK296 _ _ ?_
  refine Go.wpIn_seq_k ?_; intro K297 hK297
  refine Go.wpIn_seq_k ?_; intro K298 hK298
  refine Go.wpIn_region_lit ?_
  refine xA hS hR (Yld.move hS rfl) (by decide) ?_; clear hS; intro aa hS
  refine xA hS hR (Yld.move hS rfl) (by decide) ?_; clear hS; intro aa hS
  refine xA hS hR (Yld.nilCheck hS rfl) (by decide) ?_; clear hS; intro aa hS
  refine xA hS hR (Yld.fieldAddr hS rfl 2 Tryz.underlying183 rfl rfl info36 (by decide)) (by decide) ?_; clear hS; intro aa hS
  refine xA hS hR (Yld.load1 hS rfl Tryz.underlying36 rfl rdQ) (by decide) ?_; clear hS; intro aa hS
  refine xA hS hR (Yld.move hS rfl) (by decide) ?_; clear hS; intro aa hS
  refine xA hS hR ((ihQ 1 (q) Tryz.underlying36 info3)) (by decide) ?_; clear hS; intro aa hS
  refine xA hS hR (Yld.load1 hS rfl Tryz.underlying3 rfl (Rd.rec0 (k := q) (v := .int .i64 ((rg q : Nat) : Int)) (xs := tabN n rg) pkQ (by intro _; rfl) (by rw [tabN_len]; omega) (by rw [tabN_get]; rfl))) (by decide) ?_; clear hS; intro aa hS
  refine xB hS (Bcall hS rfl Tryz.call132 (lwalk_ok hR) (by decide) ?_); clear hS; intro aa ww vv hS hp; refine ⟨hS.defers, ?_⟩
  clear hR
  obtain ⟨p1, p2, p3, rfl, hR⟩ := hp
  refine Go.wpListIn_nil ?_
  refine hK298 _ _ ?_
  refine Go.wpIn_block ?_
  replace hS := hS.le (T := [(4, _), (5, _), (19, _)]) (Le.cons rfl (Le.cons rfl (Le.cons rfl (Le.nil _))))
  replace hR := hR.pk (r := blk p3 _ _) pkQ
  change Sep (blk p3 [.int .i64 ((0 : Nat) : Int)] 3 :: _) _ at hR
  replace hR := hR.slsNil (T := 3) (sz := 1)
  replace hR := hR.pk (r := blk bb5 _ _) pkQ
  change Sep (blk bb5 [.slice none ([] : List Int).length 0] 36 :: sls none ([] : List Int).length 0 3 1 (([] : List Int).flatMap e1) :: _) _ at hR
  refine yrange hS hR rfl Tryz.call142 ?_
  intro D299 L299 lr ww hlr hR
  have hround : ∀ (Y : List HP) (i : Nat) (w : World), i < M.length → Sep ((fun i : Nat => box (fun x : List Int × Option Addr × Nat => x.1 = cst (M.take i)) (fun x => [lr .ready none, blk b [.slice r1 (S + n) c1, .int .i64 (S : Int), .slice r2 n c2, .slice r3 n c3, .slice r4 n c4] 183, sls r1 (S + n) c1 180 3 ((nods (S + n) P R).flatMap eL), blk bb5 [.slice x.2.1 x.1.length x.2.2] 36, sls x.2.1 x.1.length x.2.2 3 1 (x.1.flatMap e1)])) i :: Y) w → YieldR Tryz.prog L299 [.int .i64 (((M[i]?.getD (S + rg q)) : Nat) : Int)] w (fun zb zw => Sep ((bif zb then (fun i : Nat => box (fun x : List Int × Option Addr × Nat => x.1 = cst (M.take i)) (fun x => [lr .ready none, blk b [.slice r1 (S + n) c1, .int .i64 (S : Int), .slice r2 n c2, .slice r3 n c3, .slice r4 n c4] 183, sls r1 (S + n) c1 180 3 ((nods (S + n) P R).flatMap eL), blk bb5 [.slice x.2.1 x.1.length x.2.2] 36, sls x.2.1 x.1.length x.2.2 3 1 (x.1.flatMap e1)])) (i + 1) else (pure' False)) :: Y) zw) := by
   intro Y i ww hi hR
   obtain ⟨⟨xs, r0, c0⟩, hI, hR⟩ := hR.boxE
   try dsimp only [List.cons_append, List.nil_append] at hI hR
   refine yround hlr hR rfl rfl ?_; clear hS; intro aa hS; dsimp only [rslots, List.zip, List.zipWith] at hS
   have hxl : xs.length = i := by rw [hI, cst_len, List.length_take]; omega
   refine Go.wpIn_region_lit ?_
   refine xA hS hR (Yld.assign hS rfl) (by decide) ?_; clear hS; intro aa hS
   refine Go.wpListIn_nil ?_
   refine ⟨_, _, rfl, (hR.pk (r := lr _ _) pkQ), ?_⟩; clear hR; intro ww hR
   refine Go.wpIn_block ?_
   refine Go.wpIn_region_lit ?_
   refine xA hS hR (Yld.load1 hS rfl Tryz.underlying36 rfl rdQ) (by decide) ?_; clear hS; intro aa hS
   refine xA hS hR (Yld.move hS rfl) (by decide) ?_; clear hS; intro aa hS
   refine xB hS (BbuildSlice hS hR rfl (bls36_1_0 _) (by decide) ?_); clear hS hR; intro aa ww bb23 hS hR; refine ⟨hS.defers, ?_⟩
   refine xB hS (BappendR (sz := 1) hS hR rfl rfl Tryz.underlying36 info3 rfl rfl (by rfl) pkQ (XC.one ((((M[i]?.getD (S + rg q)) : Nat) : Int)) pkQ (by rfl) rfl) (by intro _; rfl) (by show (_ + _) * 8 ≤ _; first | omega | (rw [nods_len]; omega) | (rw [tabN_len]; omega)) (by first | omega | (rw [nods_len]; omega) | (rw [tabN_len]; omega)) (by first | rfl | (simp; done) | (simp; omega)) (by decide) ?_); clear hS hR; intro aa ww r24 c24 hS hR; refine ⟨hS.defers, ?_⟩
   refine xB hS (Bstore hS hR rfl rfl (by rfl) info36 (by rfl) pkQ (by rfl) (Nat.le_of_ble_eq_true rfl) ?_); clear hR; intro ww hR; refine ⟨hS.defers, ?_⟩
   refine Go.wpListIn_nil ?_
   repeat (first | with_reducible refine thenR ?_ | with_reducible refine blockR ?_ | with_reducible refine scopeR ?_ | with_reducible refine thenX ?_ | with_reducible refine blockX ?_ | with_reducible refine blockY (by rfl) ?_)
   refine ⟨_, (hR.pk (r := lr _ _) pkQ), ?_⟩; clear hR; intro ww hR
   try dsimp only [lay, List.set] at hR
   exact Sep.boxI (xs ++ [(((M[i]?.getD (S + rg q)) : Nat) : Int)], _, _) (by dsimp only; rw [hI]; exact cst_next hi) (by dsimp only [List.cons_append, List.nil_append]; exact hR.sub exQ)
  replace hR := Sep.boxI (X := List Int × Option Addr × Nat) (C := fun x : List Int × Option Addr × Nat => x.1 = cst (M.take 0)) (L := fun x : List Int × Option Addr × Nat => [lr .ready none, blk b [.slice r1 (S + n) c1, .int .i64 (S : Int), .slice r2 n c2, .slice r3 n c3, .slice r4 n c4] 183, sls r1 (S + n) c1 180 3 ((nods (S + n) P R).flatMap eL), blk bb5 [.slice x.2.1 x.1.length x.2.2] 36, sls x.2.1 x.1.length x.2.2 3 1 (x.1.flatMap e1)]) ([], none, 0) (rfl) (by dsimp only [List.cons_append, List.nil_append]; exact hR.sub exQ)
  refine CallR.mono (walk_it (J := (fun i : Nat => box (fun x : List Int × Option Addr × Nat => x.1 = cst (M.take i)) (fun x => [lr .ready none, blk b [.slice r1 (S + n) c1, .int .i64 (S : Int), .slice r2 n c2, .slice r3 n c3, .slice r4 n c4] 183, sls r1 (S + n) c1 180 3 ((nods (S + n) P R).flatMap eL), blk bb5 [.slice x.2.1 x.1.length x.2.2] 36, sls x.2.1 x.1.length x.2.2 3 1 (x.1.flatMap e1)]))) (E := (pure' False)) (w9 := 0) (n := n) ((((hR.pk (r := blk p3 _ _) pkQ).pk (r := blk p2 _ _) pkQ).pk (r := blk p1 _ _) pkQ).pk (r := box _ _) pkQ) hb1 (by omega) (by omega) hm0 hms hmb hme (fun i Y w h => lens h) hround) ?_; clear hR; rintro vv ww (hR | hR)
  ·
   obtain ⟨⟨xs, r0, c0⟩, hI, hR⟩ := hR.boxE
   try dsimp only [List.cons_append, List.nil_append] at hI hR
   refine ⟨.ready, none, _, by simp, hR, ?_⟩; clear hR; intro ww hR
   refine hK297 _ _ ?_
   refine Go.wpIn_seq_k ?_; intro K300 hK300
   refine Go.wpIn_region_lit ?_
   refine xA hS hR (Yld.load1 hS rfl Tryz.underlying36 rfl rdQ) (by decide) ?_; clear hS; intro aa hS
   refine xA hS hR (Yld.assign hS rfl) (by decide) ?_; clear hS; intro aa hS
   refine Go.wpListIn_nil ?_
   refine hK300 _ _ ?_
   refine Go.wpIn_ret ?_
   repeat first | with_reducible refine thenR ?_ | with_reducible refine blockR ?_ | with_reducible refine scopeR ?_
   replace hR := hR.pk (r := DF D299) pkQ
   refine xret1 (fn := Tryz.f105) (e := .ret) [D299] rfl (.inl rfl) Tryz.results105 hS hR ?_; clear hR; intro ww hR; refine ⟨_, (.tmp rfl), ?_⟩
   have hz : allS n L q = M := by rw [allS, if_pos (by omega), Int.toNat_natCast, ← hM]; rfl
   rw [List.take_of_length_le (Nat.le_refl _)] at hI
   rw [hI] at hR
   have h9 : Sep (linksA 183 180 3 b S n L :: sls r0 (cst M).length c0 3 1 ((cst M).flatMap e1) :: l) _ := Sep.linksAI (TL := 183) (TN := 180) (TI := 3) (b := b) hW rfl (hR.sub exQ)
   rw [hz]
   exact ⟨r0, c0, by rw [hI], h9.swap⟩
  ·
   exact absurd (hR.pureE).1 id
end Go.Proofs.YtkhdejjompbklaaGreat.Sx
