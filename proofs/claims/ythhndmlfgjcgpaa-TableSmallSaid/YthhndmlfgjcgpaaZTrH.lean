/-
 
-/
import Derived.Test.YthhndmlfgjcgpaaZTrG
import Derived.Test.YthhndmlfgjcgpaaZPd
import Derived.Test.YthhndmlfgjcgpaaZPb
namespace Go.Proofs.Ythhndmlfgjcgpaa.Sx
open Go
set_option maxRecDepth 20000
set_option linter.unusedVariables false
set_option linter.unusedSimpArgs false
theorem info24 : Try.prog.info? 24 = some Try.t24 := by kernel_rfl
theorem info174 : Try.prog.info? 174 = some Try.t174 := by kernel_rfl
theorem bls24_1_0 (x0_0 : Int) (x0_1 : Int) (x0_2 : Int) (x0_3 : Int) (x0_4 : Int) (w : World) : (Instr.buildSlice 24 1 [(0, .agg [.int .u8 x0_0, .int .u32 x0_1, .int .u32 x0_2, .int .u16 x0_3, .int .u16 x0_4].toArray)].toArray).run Try.prog w = .ok (.slice (some ⟨w.heap.size, 0, none⟩) 1 1) (w.alloc (.cells ([.int .u8 x0_0, .int .u32 x0_1, .int .u32 x0_2, .int .u16 x0_3, .int .u16 x0_4] : List Value).toArray 35)) := by kernel_rfl
set_option maxHeartbeats 2000000 in
theorem gather_step {T : Tr} {D : List Int → Prop} {cn : List Int → Nat} {v : List Int → Int} {f : List Int → Nat} {b c7 c8 c3 c10 : Nat} {r1 r2 : Option Addr} {c1 c2 : Nat} (hW : WFD T.nodes D cn v f) (hb1 : Bk r1) {d : Nat} (IH : ∀ d2, d = d2 + 1 → ∀ {p own : List Int} {ks : List Ky} {r : Option Addr} {cc : Nat} {l : List HP} {w : World}, p.length + d2 = 26 → D p → own.length = 26 → own.take p.length = p → DigS own → ks.length + (undL cn d2 p).length ≤ 8192 → Sep (blk c7 [.slice r (ks).length cc] 24 :: sls r (ks).length cc 35 5 ((ks).flatMap eK) :: blk c8 (own.flatMap eB) 174 :: blk c3 [.pointer (some ⟨b, 0, none⟩)] 75 :: blk c10 [.func (.func 90) #[] #[.pointer (some ⟨c7, 0, none⟩), .pointer (some ⟨c8, 0, none⟩), .pointer (some ⟨c3, 0, none⟩), .pointer (some ⟨c10, 0, none⟩)]] 176 :: blk b [.slice r1 T.nodes.length c1, .slice r2 T.frees.length c2, .int .i64 T.most] 147 :: sls r1 T.nodes.length c1 144 18 (T.nodes.flatMap eN) :: l) w → CallR Try.prog 90 [.int .i64 ((f p : Nat) : Int), .int .i64 ((p.length : Nat) : Int), .pointer (some ⟨c7, 0, none⟩), .pointer (some ⟨c8, 0, none⟩), .pointer (some ⟨c3, 0, none⟩), .pointer (some ⟨c10, 0, none⟩)] w (fun v w' => v = .tuple [].toArray ∧ ∃ own' r' cc', own'.length = 26 ∧ own'.take p.length = p ∧ DigS own' ∧ Sep (blk c7 [.slice r' (ks ++ (undL cn d2 p).map keyD).length cc'] 24 :: sls r' (ks ++ (undL cn d2 p).map keyD).length cc' 35 5 ((ks ++ (undL cn d2 p).map keyD).flatMap eK) :: blk c8 (own'.flatMap eB) 174 :: blk c3 [.pointer (some ⟨b, 0, none⟩)] 75 :: blk c10 [.func (.func 90) #[] #[.pointer (some ⟨c7, 0, none⟩), .pointer (some ⟨c8, 0, none⟩), .pointer (some ⟨c3, 0, none⟩), .pointer (some ⟨c10, 0, none⟩)]] 176 :: blk b [.slice r1 T.nodes.length c1, .slice r2 T.frees.length c2, .int .i64 T.most] 147 :: sls r1 T.nodes.length c1 144 18 (T.nodes.flatMap eN) :: l) w')) {p own : List Int} {ks : List Ky} {r : Option Addr} {cc : Nat} {l : List HP} {w : World} (hpd : p.length + d = 26) (hDp : D p) (hol : own.length = 26) (hop : own.take p.length = p) (hod : DigS own) (hkl : ks.length + (undL cn d p).length ≤ 8192) (hR : Sep (blk c7 [.slice r (ks).length cc] 24 :: sls r (ks).length cc 35 5 ((ks).flatMap eK) :: blk c8 (own.flatMap eB) 174 :: blk c3 [.pointer (some ⟨b, 0, none⟩)] 75 :: blk c10 [.func (.func 90) #[] #[.pointer (some ⟨c7, 0, none⟩), .pointer (some ⟨c8, 0, none⟩), .pointer (some ⟨c3, 0, none⟩), .pointer (some ⟨c10, 0, none⟩)]] 176 :: blk b [.slice r1 T.nodes.length c1, .slice r2 T.frees.length c2, .int .i64 T.most] 147 :: sls r1 T.nodes.length c1 144 18 (T.nodes.flatMap eN) :: l) w) : CallR Try.prog 90 [.int .i64 ((f p : Nat) : Int), .int .i64 ((p.length : Nat) : Int), .pointer (some ⟨c7, 0, none⟩), .pointer (some ⟨c8, 0, none⟩), .pointer (some ⟨c3, 0, none⟩), .pointer (some ⟨c10, 0, none⟩)] w (fun v w' => v = .tuple [].toArray ∧ ∃ own' r' cc', own'.length = 26 ∧ own'.take p.length = p ∧ DigS own' ∧ Sep (blk c7 [.slice r' (ks ++ (undL cn d p).map keyD).length cc'] 24 :: sls r' (ks ++ (undL cn d p).map keyD).length cc' 35 5 ((ks ++ (undL cn d p).map keyD).flatMap eK) :: blk c8 (own'.flatMap eB) 174 :: blk c3 [.pointer (some ⟨b, 0, none⟩)] 75 :: blk c10 [.func (.func 90) #[] #[.pointer (some ⟨c7, 0, none⟩), .pointer (some ⟨c8, 0, none⟩), .pointer (some ⟨c3, 0, none⟩), .pointer (some ⟨c10, 0, none⟩)]] 176 :: blk b [.slice r1 T.nodes.length c1, .slice r2 T.frees.length c2, .int .i64 T.most] 147 :: sls r1 T.nodes.length c1 144 18 (T.nodes.flatMap eN) :: l) w') := by
 refine enter Try.func90 rfl Try.ntmps90 (Nat.le_of_ble_eq_true rfl) ?_; intro aa hS
 have hlt := hW.lt p hDp
 refine wp_seq_k ?_; intro K312 hK312
 refine wp_seq_k ?_; intro K313 hK313
 refine wp_region_lit ?_
 revert aa
 refine qM hR ?_
 refine qA hR rfl (fun _ hS => Yld.eql hS rfl rfl) ?_
 intro aa hS
 refine wpList_nil ?_
 refine hK313 _ _ ?_
 refine hS.splitB (t := 11) rfl ?_ ?_ <;> clear hS
 ·
  intro hg hS
  have hd0 : d = 0 := by omega
  subst hd0
  have hpo : own = p := by rw [List.take_of_length_le (by omega)] at hop; exact hop
  subst hpo
  have hu : undL cn 0 own = [own] := rfl
  rw [hu] at hkl
  have hk1 : ks.length ≤ 8191 := by simpa using hkl
  refine condT hS rfl ?_
  refine wp_seq_k ?_; intro K314 hK314
  refine drawn krQ hR (Ex.of_pk2 (r := blk c7 _ _) (s := sls r _ _ _ _ _) pkQ pkQ) ?_; clear hR; intro ww hR hR0
  revert aa
  refine eA 1 rfl krQ (fun _ _ _ h => h) hR0 rfl (fun _ hS => Yld.loadAgg (vs := own.flatMap eB) hS rfl Try.underlying174 rfl info174 (Rds.blk0 pkQ) (by rw [flat_len (m := 1) (fun _ => rfl), hol]; rfl)) ?_
  intro aa hS
  refine dTwo (i := 0) (j := 2) krQ ?_ ?_
  ·
   refine dop rfl (BA hS hR (Yld.load1 hS rfl Try.underlying24 rfl rdQ) (by decide) ?_); clear hS; intro aa hS; refine ⟨hR0, ?_⟩
   refine dOne (i := 2) krQ ?_
   refine dop rfl (Bcall hS rfl Try.call91 (key_ok hR (by assumption) (by assumption)) (by decide) ?_); clear hS; intro aa ww vv hS hp
   clear hR hR0
   obtain ⟨rfl, hR⟩ := hp
   refine dnext (hR.sub exQ) ?_; intro hR0
   refine dOne (i := 3) krQ ?_
   refine dop rfl (BbuildSlice hS hR rfl (bls24_1_0 _ _ _ _ _) (by decide) ?_); clear hS hR hR0; intro aa ww bb15 hS hR
   refine dnext (hR.sub exQ) ?_; intro hR0
   refine dOne (i := 4) krQ ?_
   refine dop rfl (BappendR (sz := 5) hS hR rfl rfl Try.underlying24 info35 rfl rfl (by rfl) pkQ (XC.one (keyD own) pkQ (by rfl) rfl) (by intro _; rfl) (by show (_ + _) * 16 ≤ _; exact lenQ) lenQ (by first | rfl | (simp; done) | (simp; omega)) (by decide) ?_); clear hS hR hR0; intro aa ww r16 c16 hS hR
   refine dnext (hR.sub exQ) ?_; intro hR0
   refine dOne (i := 5) krQ ?_
   refine dop rfl (Bstore hS hR rfl rfl (by rfl) info24 (by rfl) pkQ (by rfl) (Nat.le_of_ble_eq_true rfl) ?_); clear hR hR0; intro ww hR
   refine dnext (hR.sub exQ) ?_; intro hR0
   refine wpAnyH_done krQ ?_ _; clear hR0
   refine hK314 _ _ ?_
   refine wp_ret ?_
   repeat first | with_reducible refine thenR ?_ | with_reducible refine blockR ?_ | with_reducible refine scopeR ?_
   refine retN (fn := Try.f90) (e := .ret) (.inl rfl) Try.results90 hS hR ⟨_, .nil, rfl, ?_⟩
   try dsimp only [lay, List.set] at hR
   refine ⟨rfl, own, r16, c16, hol, hop, hod, ?_⟩
   have hu2 : (undL cn 0 own).map keyD = [keyD own] := rfl
   rw [hu2]
   exact (hR.sub exQ)
  ·
   refine dop rfl (Bcall hS rfl Try.call91 (key_ok hR (by assumption) (by assumption)) (by decide) ?_); clear hS; intro aa ww vv hS hp
   clear hR hR0
   obtain ⟨rfl, hR⟩ := hp
   refine dnext (hR.sub exQ) ?_; intro hR0
   refine dTwo (i := 0) (j := 3) krQ ?_ ?_
   ·
    refine dop rfl (BA hS hR (Yld.load1 hS rfl Try.underlying24 rfl rdQ) (by decide) ?_); clear hS; intro aa hS; refine ⟨hR0, ?_⟩
    refine dOne (i := 3) krQ ?_
    refine dop rfl (BbuildSlice hS hR rfl (bls24_1_0 _ _ _ _ _) (by decide) ?_); clear hS hR hR0; intro aa ww bb15 hS hR
    refine dnext (hR.sub exQ) ?_; intro hR0
    refine dOne (i := 4) krQ ?_
    refine dop rfl (BappendR (sz := 5) hS hR rfl rfl Try.underlying24 info35 rfl rfl (by rfl) pkQ (XC.one (keyD own) pkQ (by rfl) rfl) (by intro _; rfl) (by show (_ + _) * 16 ≤ _; exact lenQ) lenQ (by first | rfl | (simp; done) | (simp; omega)) (by decide) ?_); clear hS hR hR0; intro aa ww r16 c16 hS hR
    refine dnext (hR.sub exQ) ?_; intro hR0
    refine dOne (i := 5) krQ ?_
    refine dop rfl (Bstore hS hR rfl rfl (by rfl) info24 (by rfl) pkQ (by rfl) (Nat.le_of_ble_eq_true rfl) ?_); clear hR hR0; intro ww hR
    refine dnext (hR.sub exQ) ?_; intro hR0
    refine wpAnyH_done krQ ?_ _; clear hR0
    refine hK314 _ _ ?_
    refine wp_ret ?_
    repeat first | with_reducible refine thenR ?_ | with_reducible refine blockR ?_ | with_reducible refine scopeR ?_
    refine retN (fn := Try.f90) (e := .ret) (.inl rfl) Try.results90 hS hR ⟨_, .nil, rfl, ?_⟩
    try dsimp only [lay, List.set] at hR
    refine ⟨rfl, own, r16, c16, hol, hop, hod, ?_⟩
    have hu2 : (undL cn 0 own).map keyD = [keyD own] := rfl
    rw [hu2]
    exact (hR.sub exQ)
   ·
    refine dop rfl (BbuildSlice hS hR rfl (bls24_1_0 _ _ _ _ _) (by decide) ?_); clear hS hR hR0; intro aa ww bb15 hS hR
    refine dnext (hR.sub exQ) ?_; intro hR0
    refine dOne (i := 0) krQ ?_
    refine dop rfl (BA hS hR (Yld.load1 hS rfl Try.underlying24 rfl rdQ) (by decide) ?_); clear hS; intro aa hS; refine ⟨hR0, ?_⟩
    refine dOne (i := 4) krQ ?_
    refine dop rfl (BappendR (sz := 5) hS hR rfl rfl Try.underlying24 info35 rfl rfl (by rfl) pkQ (XC.one (keyD own) pkQ (by rfl) rfl) (by intro _; rfl) (by show (_ + _) * 16 ≤ _; exact lenQ) lenQ (by first | rfl | (simp; done) | (simp; omega)) (by decide) ?_); clear hS hR hR0; intro aa ww r16 c16 hS hR
    refine dnext (hR.sub exQ) ?_; intro hR0
    refine dOne (i := 5) krQ ?_
    refine dop rfl (Bstore hS hR rfl rfl (by rfl) info24 (by rfl) pkQ (by rfl) (Nat.le_of_ble_eq_true rfl) ?_); clear hR hR0; intro ww hR
    refine dnext (hR.sub exQ) ?_; intro hR0
    refine wpAnyH_done krQ ?_ _; clear hR0
    refine hK314 _ _ ?_
    refine wp_ret ?_
    repeat first | with_reducible refine thenR ?_ | with_reducible refine blockR ?_ | with_reducible refine scopeR ?_
    refine retN (fn := Try.f90) (e := .ret) (.inl rfl) Try.results90 hS hR ⟨_, .nil, rfl, ?_⟩
    try dsimp only [lay, List.set] at hR
    refine ⟨rfl, own, r16, c16, hol, hop, hod, ?_⟩
    have hu2 : (undL cn 0 own).map keyD = [keyD own] := rfl
    rw [hu2]
    exact (hR.sub exQ)
 ·
  intro hg hS
  obtain ⟨d2, hd2⟩ : ∃ d2, d = d2 + 1 := ⟨d - 1, by omega⟩
  have hIH := @IH d2 hd2
  subst hd2
  have hnx := fun (x : Nat) (hx : x < 16) => hW.nxt p (T.nodes[f p]'hlt) (x : Int) hDp (List.getElem?_eq_getElem hlt) (by omega) (by omega) (by omega)
  refine condF hS rfl ?_
  refine wp_skip ?_
  refine hK312 _ _ ?_
  refine wp_seq_k ?_; intro K315 hK315
  refine wp_region_lit ?_
  revert aa
  refine qA hR rfl (fun _ hS => Yld.load1 hS rfl Try.underlying75 rfl rdQ) ?_
  refine qA hR rfl (fun _ hS => Yld.nilCheck hS rfl) ?_
  refine qA hR rfl (fun _ hS => Yld.fieldAddr hS rfl 0 Try.underlying147 rfl rfl info145 (by decide)) ?_
  refine qA hR rfl (fun _ hS => Yld.load1 hS rfl Try.underlying145 rfl rdQ) ?_
  refine qM hR ?_
  refine qA hR rfl (fun _ hS => ilQ 18 (f p) Try.underlying145 info144) ?_
  refine qA hR rfl (fun _ hS => Yld.fieldAddr hS rfl 1 Try.underlying144 rfl rfl info142 (by decide)) ?_
  refine qA hR rfl (fun _ hS => Yld.loadAgg (vs := kids (T.nodes[f p]'hlt)) hS rfl Try.underlying142 rfl info142 (Rds.recPart (j := 1) (k := f p) (xs := T.nodes) (enc := eN) pkQ (by intro _; exact eN_len _) hlt kids_part) (by rw [kids_len]; rfl)) ?_
  refine qM hR ?_
  intro aa hS
  refine wpList_nil ?_
  refine hK315 _ _ ?_
  refine wp_block ?_
  have hz0 : ks = ks ++ (undX cn d2 p (0)).map keyD := by simp [undX]
  rw [hz0] at hR
  replace hR := hR.pk (r := blk c8 (own.flatMap eB) 174) pkQ
  replace hR := hR.pk (r := sls r (ks ++ (undX cn d2 p (0)).map keyD).length cc 35 5 ((ks ++ (undX cn d2 p (0)).map keyD).flatMap eK)) pkQ
  replace hR := hR.pk (r := blk c7 [.slice r (ks ++ (undX cn d2 p (0)).map keyD).length cc] 24) pkQ
  refine loopI (X := Nat × List Int × Option Addr × Nat) [(1, _), (3, _), (5, _), (24, _)] (fun x => [(25, .int .i64 (x.1 : Int))]) (fun x => [blk c7 [.slice x.2.2.1 (ks ++ (undX cn d2 p (x.1)).map keyD).length x.2.2.2] 24, sls x.2.2.1 (ks ++ (undX cn d2 p (x.1)).map keyD).length x.2.2.2 35 5 ((ks ++ (undX cn d2 p (x.1)).map keyD).flatMap eK), blk c8 (x.2.1.flatMap eB) 174]) _ (fun x => x.1 ≤ 16 ∧ x.2.1.length = 26 ∧ x.2.1.take p.length = p ∧ DigS x.2.1) (fun x => 16 - x.1) (0, own, r, cc) ⟨Nat.zero_le _, hol, hop, hod⟩ (hS.le (Le.cons rfl (Le.nilapp (Le.cons rfl (Le.cons rfl (Le.cons rfl (Le.cons rfl (Le.nil _)))))))) hR ?_
  clear hS hR; rintro ⟨x, own2, r0, cc0⟩ aa ww hI hS hR; dsimp only [List.cons_append, List.nil_append] at hI hS hR
  refine wp_seq_k ?_; intro K317 hK317
  refine wp_region_lit ?_
  refine sA hS hR (Yld.lss hS rfl rfl) (by decide) ?_; clear hS; intro aa hS
  refine wpList_nil ?_
  refine hK317 _ _ ?_
  refine wp_seq_k ?_; intro K318 hK318
  refine hS.splitB (t := 26) rfl ?_ ?_ <;> clear hS
  ·
   intro hg hS
   have hx16 : x < 16 := by omega
   have hnxx := hnx x hx16
   rw [Int.toNat_natCast] at hnxx
   refine condT hS rfl ?_
   refine wp_skip ?_
   refine hK318 _ _ ?_
   refine wp_seq_k ?_; intro K319 hK319
   refine wp_block ?_
   refine wp_seq_k ?_; intro K320 hK320
   refine wp_region_lit ?_
   revert aa
   refine qM hR ?_
   refine qA hR rfl (fun _ hS => Yld.indexW (m := x) hS rfl rfl Try.underlying142 info3 rfl (fun w => by kernel_rfl) hx16 (kids_get hx16)) ?_
   refine qN hR ?_
   refine qN hR ?_
   intro aa hS
   refine wpList_nil ?_
   refine hK320 _ _ ?_
   refine wp_seq_k ?_; intro K321 hK321
   refine wp_region_lit ?_
   revert aa
   refine qM hR ?_
   refine qA hR rfl (fun _ hS => Yld.gtr hS rfl rfl) ?_
   intro aa hS
   refine wpList_nil ?_
   refine hK321 _ _ ?_
   refine hS.splitB (t := 30) rfl ?_ ?_ <;> clear hS
   ·
    intro hg hS
    have hpos : 0 < cn (p ++ [(x : Int)]) := by
     by_cases h : 0 < cn (p ++ [(x : Int)])
     ·
      exact h
     ·
      rw [hnxx, if_neg h] at hg; omega
    rw [hnxx, if_pos hpos] at hS
    have hDx := hW.up _ hpos
    have hux := undX_succ (c := cn) (d := d2) (p := p) (x := x)
    rw [if_pos hpos] at hux
    have hul := undX_le (c := cn) (d := d2) (p := p) (x := x + 1) (y := 16) (by omega)
    rw [undX_all, hux, List.length_append] at hul
    refine condT hS rfl ?_
    refine wp_seq_k ?_; intro K322 hK322
    refine wp_region_lit ?_
    revert aa
    refine qM hR ?_
    refine qM hR ?_
    refine qA hR rfl (fun _ hS => by first | exact Yld.to (Yld.convInt hS rfl rfl Try.underlying5) (congrArg (Value.int .u8) (IntWalk.u8_in _ (by omega))) | exact Yld.convInt hS rfl rfl Try.underlying5) ?_
    refine qA hR rfl (fun _ hS => Yld.to (u := .pointer (some ⟨c8, p.length, none⟩)) (Yld.indexArr hS rfl rfl Try.underlying174 info5 (by omega) (by omega)) (by have h1 : (Try.t5).size = 1 := rfl; rw [h1]; congr 3; omega)) ?_
    intro aa hS
    refine sB (BstoreB (enc := eB) (fun _ => rfl) hS hR rfl rfl info5 rfl pkQ (by omega) ?_); clear hR; intro ww hR
    refine wpList_nil ?_
    refine hK322 _ _ ?_
    refine wp_region_lit ?_
    refine sA hS hR (Yld.load1 hS rfl Try.underlying176 rfl rdQ) (by decide) ?_; clear hS; intro aa hS
    revert aa
    refine qM hR ?_
    refine qM hR ?_
    intro aa hS
    refine sA hS hR adQ (by decide) ?_; clear hS; intro aa hS
    replace hS := hS.say (t := 38) (.int .i64 (((p ++ [(x : Int)]).length : Nat) : Int)) rfl (by rw [List.length_append]; rfl)
    refine sB (BcallV (first := []) (caps := [.pointer (some ⟨c7, 0, none⟩), .pointer (some ⟨c8, 0, none⟩), .pointer (some ⟨c3, 0, none⟩), .pointer (some ⟨c10, 0, none⟩)]) hS rfl rfl Try.call90 (hIH (p := p ++ [(x : Int)]) (own := own2.set p.length (x : Int)) (ks := ks ++ (undX cn d2 p x).map keyD) (r := r0) (cc := cc0) (by rw [List.length_append]; simp; omega) hDx (by rw [List.length_set]; exact hI.2.1) (by rw [List.length_append]; exact (take_set (by omega)).trans (by rw [hI.2.2.1])) (hI.2.2.2.set (by omega)) (by rw [List.length_append, List.length_map]; omega) (((((((hR.pk (r := sls r1 _ _ _ _ _) pkQ).pk (r := blk b _ _) pkQ).pk (r := blk c10 _ _) pkQ).pk (r := blk c3 _ _) pkQ).pk (r := blk c8 _ _) pkQ).pk (r := sls r0 _ _ _ _ _) pkQ).pk (r := blk c7 _ _) pkQ)) (by decide) ?_); clear hS; intro aa ww vv hS hp
    clear hR
    obtain ⟨rfl, own3, r3, cc3, ho1, ho2, ho3, hR⟩ := hp
    rw [List.append_assoc, ← List.map_append, ← hux] at hR
    have ho4 : own3.take p.length = p := by
     have h9 := congrArg (fun u => u.take p.length) ho2
     rw [List.length_append] at h9
     simpa [List.take_take] using h9
    refine wpList_nil ?_
    refine hK319 _ _ ?_
    refine wp_region_lit ?_
    refine sA hS hR adQ (by decide) ?_; clear hS; intro aa hS
    revert aa
    refine qM hR ?_
    intro aa hS
    refine wpList_nil ?_
    refine ⟨(x + 1, own3, r3, cc3), ?_, ?_, hS.le (Le.cons rfl (Le.nilapp (Le.cons rfl (Le.cons rfl (Le.cons rfl (Le.cons rfl (Le.nil _))))))), hR.sub (Ex.take pkQ (Ex.take pkQ (Ex.take pkQ (Ex.nilapp exQ))))⟩
    ·
     dsimp only; first | exact ⟨by omega, hI.2.1, hI.2.2.1, hI.2.2.2⟩ | exact ⟨by omega, ho1, ho4, ho3⟩
    ·
     dsimp only; omega
   ·
    intro hg hS
    have hneg : ¬ 0 < cn (p ++ [(x : Int)]) := by
     intro h
     rw [hnxx, if_pos h] at hg
     have hlt2 := hW.lt _ (hW.up _ h)
     have hne : f (p ++ [(x : Int)]) ≠ 0 := fun e => by
      have h9 := hW.inj _ _ (hW.up _ h) hW.droot (by rw [e, hW.root])
      simp at h9
     omega
    have hux := undX_succ (c := cn) (d := d2) (p := p) (x := x)
    rw [if_neg hneg, List.append_nil] at hux
    rw [← hux] at hR
    refine condF hS rfl ?_
    refine wp_skip ?_
    refine hK319 _ _ ?_
    refine wp_region_lit ?_
    refine sA hS hR adQ (by decide) ?_; clear hS; intro aa hS
    revert aa
    refine qM hR ?_
    intro aa hS
    refine wpList_nil ?_
    refine ⟨(x + 1, own2, r0, cc0), ?_, ?_, hS.le (Le.cons rfl (Le.nilapp (Le.cons rfl (Le.cons rfl (Le.cons rfl (Le.cons rfl (Le.nil _))))))), hR.sub (Ex.take pkQ (Ex.take pkQ (Ex.take pkQ (Ex.nilapp exQ))))⟩
    ·
     dsimp only; first | exact ⟨by omega, hI.2.1, hI.2.2.1, hI.2.2.2⟩ | exact ⟨by omega, ho1, ho4, ho3⟩
    ·
     dsimp only; omega
  ·
   intro hg hS
   have hx16 : x = 16 := by omega
   subst hx16
   rw [undX_all] at hR
   refine condF hS rfl ?_
   refine wp_exit ?_
   repeat (first | with_reducible refine thenX ?_ | with_reducible refine blockX ?_ | with_reducible refine blockY (by rfl) ?_)
   refine retN (fn := Try.f90) (e := .normal) (.inr rfl) Try.results90 hS hR ⟨_, .nil, rfl, ?_⟩
   exact ⟨rfl, own2, r0, cc0, hI.2.1, hI.2.2.1, hI.2.2.2, (hR.sub exQ)⟩
theorem gather_ok {T : Tr} {D : List Int → Prop} {cn : List Int → Nat} {v : List Int → Int} {f : List Int → Nat} {b c7 c8 c3 c10 : Nat} {r1 r2 : Option Addr} {c1 c2 : Nat} (hW : WFD T.nodes D cn v f) (hb1 : Bk r1) : ∀ (d : Nat), ∀ {p own : List Int} {ks : List Ky} {r : Option Addr} {cc : Nat} {l : List HP} {w : World}, p.length + d = 26 → D p → own.length = 26 → own.take p.length = p → DigS own → ks.length + (undL cn d p).length ≤ 8192 → Sep (blk c7 [.slice r (ks).length cc] 24 :: sls r (ks).length cc 35 5 ((ks).flatMap eK) :: blk c8 (own.flatMap eB) 174 :: blk c3 [.pointer (some ⟨b, 0, none⟩)] 75 :: blk c10 [.func (.func 90) #[] #[.pointer (some ⟨c7, 0, none⟩), .pointer (some ⟨c8, 0, none⟩), .pointer (some ⟨c3, 0, none⟩), .pointer (some ⟨c10, 0, none⟩)]] 176 :: blk b [.slice r1 T.nodes.length c1, .slice r2 T.frees.length c2, .int .i64 T.most] 147 :: sls r1 T.nodes.length c1 144 18 (T.nodes.flatMap eN) :: l) w → CallR Try.prog 90 [.int .i64 ((f p : Nat) : Int), .int .i64 ((p.length : Nat) : Int), .pointer (some ⟨c7, 0, none⟩), .pointer (some ⟨c8, 0, none⟩), .pointer (some ⟨c3, 0, none⟩), .pointer (some ⟨c10, 0, none⟩)] w (fun v w' => v = .tuple [].toArray ∧ ∃ own' r' cc', own'.length = 26 ∧ own'.take p.length = p ∧ DigS own' ∧ Sep (blk c7 [.slice r' (ks ++ (undL cn d p).map keyD).length cc'] 24 :: sls r' (ks ++ (undL cn d p).map keyD).length cc' 35 5 ((ks ++ (undL cn d p).map keyD).flatMap eK) :: blk c8 (own'.flatMap eB) 174 :: blk c3 [.pointer (some ⟨b, 0, none⟩)] 75 :: blk c10 [.func (.func 90) #[] #[.pointer (some ⟨c7, 0, none⟩), .pointer (some ⟨c8, 0, none⟩), .pointer (some ⟨c3, 0, none⟩), .pointer (some ⟨c10, 0, none⟩)]] 176 :: blk b [.slice r1 T.nodes.length c1, .slice r2 T.frees.length c2, .int .i64 T.most] 147 :: sls r1 T.nodes.length c1 144 18 (T.nodes.flatMap eN) :: l) w') := by
 intro d
 induction d with
 | zero =>
  intro p own ks r cc l w h1 h2 h3 h4 h5 h6 hR
  exact gather_step hW hb1 (d := 0) (fun d2 e => by omega) h1 h2 h3 h4 h5 h6 hR
 | succ d ih =>
  intro p own ks r cc l w h1 h2 h3 h4 h5 h6 hR
  refine gather_step hW hb1 (d := d + 1) (fun d2 e => ?_) h1 h2 h3 h4 h5 h6 hR
  obtain rfl : d = d2 := by omega
  exact ih
end Go.Proofs.Ythhndmlfgjcgpaa.Sx
