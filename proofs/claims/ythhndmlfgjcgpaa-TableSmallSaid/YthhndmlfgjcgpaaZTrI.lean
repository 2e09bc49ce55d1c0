/-
 
-/
import Derived.Test.YthhndmlfgjcgpaaZTrH
import Derived.Test.YthhndmlfgjcgpaaZPd
namespace Go.Proofs.Ythhndmlfgjcgpaa.Sx
open Go
set_option maxRecDepth 20000
set_option linter.unusedVariables false
set_option linter.unusedSimpArgs false
theorem info176 : Try.prog.info? 176 = some Try.t176 := by kernel_rfl
theorem bld35_  (w : World) : (Instr.build 35 [].toArray).run Try.prog w = .ok (.agg [.int .u8 0, .int .u32 0, .int .u32 0, .int .u16 0, .int .u16 0].toArray) w := by kernel_rfl
def undK (K : List (Ky × Int)) (k : Ky) (n : Int) : List Ky := if 0 ≤ n ∧ n ≤ 26 ∧ 0 < cK K ((dl k).take n.toNat) then (undL (cK K) (26 - n.toNat) ((dl k).take n.toNat)).map keyD else []
set_option maxHeartbeats 4000000 in
theorem TUnder_ok {K : List (Ky × Int)} {most n : Int} {k : Ky} {b : Nat} {l : List HP} {w : World} (hR : Sep (trieA 147 144 3 b K most :: l) w) (hk : WfK k) : CallR Try.prog 70 [.pointer (some ⟨b, 0, none⟩), vK k, .int .i64 n] w (fun v w' => ∃ r c, v = .slice r (undK K k n).length c ∧ Sep (sls r (undK K k n).length c 35 5 ((undK K k n).flatMap eK) :: trieA 147 144 3 b K most :: l) w') := by
 refine enter Try.func70 rfl Try.ntmps70 (Nat.le_of_ble_eq_true rfl) ?_; intro aa hS
 refine wp_seq_k ?_; intro K323 hK323
 refine wp_region_lit ?_
 refine sB (Bbox hS hR rfl (by rfl) (by decide) ?_); clear hS hR; intro aa ww bb3 hS hR
 refine sB (Bbox hS hR rfl (by rfl) (by decide) ?_); clear hS hR; intro aa ww bb4 hS hR
 revert aa
 refine qN hR ?_
 intro aa hS
 refine wpList_nil ?_
 refine hK323 _ _ ?_
 refine wp_seq_k ?_; intro K324 hK324
 refine wp_seq_k ?_; intro K325 hK325
 refine wp_region_lit ?_
 refine sA hS hR (Yld.load1 hS rfl Try.underlying75 rfl rdQ) (by decide) ?_; clear hS; intro aa hS
 refine sA hS hR (Yld.loadAgg hS rfl Try.underlying35 rfl info35 rdsQ5 (by rfl)) (by decide) ?_; clear hS; intro aa hS
 revert aa
 refine qM hR ?_
 intro aa hS
 refine sB (Bcall hS rfl Try.call71 (TCount_ok (k := k) (n := n) (hR.pk (r := trieA _ _ _ b _ _) pkQ) hk) (by decide) ?_); clear hS; intro aa ww vv hS hp
 clear hR
 obtain ⟨rfl, hR⟩ := hp
 refine sA hS hR (Yld.eql hS rfl rfl) (by decide) ?_; clear hS; intro aa hS
 refine wpList_nil ?_
 refine hK325 _ _ ?_
 refine hS.splitB (t := 17) rfl ?_ ?_ <;> clear hS
 ·
  intro hg hS
  have hz : undK K k n = [] := by
   unfold undK
   rw [if_neg]
   rintro ⟨h1, h2, h3⟩
   rw [if_pos ⟨h1, h2⟩] at hg; omega
  refine condT hS rfl ?_
  refine wp_seq_k ?_; intro K326 hK326
  refine wp_region_lit ?_
  revert aa
  refine qN hR ?_
  intro aa hS
  refine wpList_nil ?_
  refine hK326 _ _ ?_
  refine wp_ret ?_
  repeat first | with_reducible refine thenR ?_ | with_reducible refine blockR ?_ | with_reducible refine scopeR ?_
  refine ret1 (fn := Try.f70) (e := .ret) (.inl rfl) Try.results70 hS hR ⟨_, (.tmp rfl), ?_⟩
  replace hR := hR.slsNil (T := 35) (sz := 5)
  have h9 : Sep (sls none 0 0 35 5 [] :: trieA 147 144 3 b K most :: l) _ := (hR.sub exQ)
  rw [hz]
  exact ⟨none, 0, rfl, h9⟩
 ·
  intro hg hS
  have hn26 : 0 ≤ n ∧ n ≤ 26 := by
   by_cases h : 0 ≤ n ∧ n ≤ 26
   ·
    exact h
   ·
    rw [if_neg h] at hg; exact absurd rfl hg
  obtain ⟨nd, rfl⟩ : ∃ y : Nat, n = y := ⟨n.toNat, by omega⟩
  rw [if_pos hn26, Int.toNat_natCast] at hg
  have hcp : 0 < cK K ((dl k).take nd) := by omega
  have hz : undK K k (nd : Int) = ((undL (cK K) (26 - nd) ((dl k).take nd)).map keyD) := by unfold undK; rw [Int.toNat_natCast, if_pos ⟨hn26.1, hn26.2, hcp⟩]
  refine condF hS rfl ?_
  refine wp_skip ?_
  refine hK324 _ _ ?_
  refine wp_seq_k ?_; intro K327 hK327
  refine wp_region_lit ?_
  refine sB (Balloc hS hR info24 (by rfl) (by rfl) (by decide) ?_); clear hS hR; intro aa ww bb7 hS hR
  refine wpList_nil ?_
  refine hK327 _ _ ?_
  refine wp_seq_k ?_; intro K328 hK328
  refine wp_region_lit ?_
  refine sB (Balloc hS hR info174 (by rfl) (by rfl) (by decide) ?_); clear hS hR; intro aa ww bb8 hS hR
  replace hR := hR.pk (r := blk bb8 _ _) pkQ
  change Sep (blk bb8 ((List.replicate 26 (0 : Int)).flatMap eB) 174 :: _) _ at hR
  refine wpList_nil ?_
  refine hK328 _ _ ?_
  refine wp_seq_k ?_; intro K329 hK329
  refine wp_seq_k ?_; intro K330 hK330
  refine wp_region_lit ?_
  revert aa
  refine qM hR ?_
  refine qM hR ?_
  intro aa hS
  refine wpList_nil ?_
  refine hK330 _ _ ?_
  refine wp_block ?_
  replace hR := hR.pk (r := blk bb8 ((List.replicate 26 (0 : Int)).flatMap eB) 174) pkQ
  refine loopI (X := Nat × List Int) [(2, _), (3, _), (4, _), (6, _), (7, _), (8, _), (18, _)] (fun x => [(19, .int .i64 (x.1 : Int))]) (fun x => [blk bb8 (x.2.flatMap eB) 174]) _ (fun x => x.1 ≤ nd ∧ x.2.length = 26 ∧ x.2.take x.1 = (dl k).take x.1 ∧ DigS x.2) (fun x => nd - x.1) (0, List.replicate 26 0) ⟨Nat.zero_le _, by simp, rfl, fun d h => by have := List.eq_of_mem_replicate h; omega⟩ (hS.le (Le.cons rfl (Le.nilapp (Le.cons rfl (Le.cons rfl (Le.cons rfl (Le.cons rfl (Le.cons rfl (Le.cons rfl (Le.cons rfl (Le.nil _))))))))))) hR ?_
  clear hS hR; rintro ⟨i, own⟩ aa ww hI hS hR; dsimp only [List.cons_append, List.nil_append] at hI hS hR
  have hown := hI.2.1
  refine wp_seq_k ?_; intro K332 hK332
  refine wp_region_lit ?_
  refine sA hS hR (Yld.lss hS rfl rfl) (by decide) ?_; clear hS; intro aa hS
  refine wpList_nil ?_
  refine hK332 _ _ ?_
  refine wp_seq_k ?_; intro K333 hK333
  refine hS.splitB (t := 20) rfl ?_ ?_ <;> clear hS
  ·
   intro hg hS
   refine condT hS rfl ?_
   refine wp_skip ?_
   refine hK333 _ _ ?_
   refine wp_seq_k ?_; intro K334 hK334
   refine wp_block ?_
   refine wp_seq_k ?_; intro K335 hK335
   refine wp_region_lit ?_
   revert aa
   refine qM hR ?_
   refine qN hR ?_
   intro aa hS
   refine wpList_nil ?_
   refine hK335 _ _ ?_
   refine wp_region_lit ?_
   revert aa
   refine qM hR ?_
   intro aa hS
   refine sA hS hR (Yld.loadAgg hS rfl Try.underlying35 rfl info35 rdsQ5 (by rfl)) (by decide) ?_; clear hS; intro aa hS
   revert aa
   refine qM hR ?_
   intro aa hS
   refine sB (Bcall hS rfl Try.call89 (Digit_ok (k := k) hR hk) (by decide) ?_); clear hS; intro aa ww vv hS hp
   clear hR
   obtain ⟨rfl, hR⟩ := hp
   rw [show digI k (i : Int) = dig k i from by rw [digI, if_pos (by omega), Int.toNat_natCast]] at hS
   refine sA hS hR (Yld.to (u := .pointer (some ⟨bb8, i, none⟩)) (Yld.indexArr hS rfl rfl Try.underlying174 info5 (by omega) (by omega)) (by have h1 : (Try.t5).size = 1 := rfl; rw [h1]; congr 3; omega)) (by decide) ?_; clear hS; intro aa hS
   refine sB (BstoreB (enc := eB) (fun _ => rfl) hS hR rfl rfl info5 rfl pkQ (by omega) ?_); clear hR; intro ww hR
   refine wpList_nil ?_
   refine hK334 _ _ ?_
   refine wp_region_lit ?_
   refine sA hS hR adQ (by decide) ?_; clear hS; intro aa hS
   revert aa
   refine qM hR ?_
   intro aa hS
   refine wpList_nil ?_
   refine ⟨(i + 1, own.set i (dig k i)), ?_, ?_, hS.le (Le.cons rfl (Le.nilapp (Le.cons rfl (Le.cons rfl (Le.cons rfl (Le.cons rfl (Le.cons rfl (Le.cons rfl (Le.cons rfl (Le.nil _)))))))))), hR.sub (Ex.take pkQ (Ex.nilapp exQ))⟩
   ·
    dsimp only; exact ⟨by omega, by rw [List.length_set]; exact hI.2.1, by rw [take_set (by omega), hI.2.2.1, dl_take (by omega)], hI.2.2.2.set (dig_bd k i)⟩
   ·
    dsimp only; omega
  ·
   intro hg hS
   obtain rfl : nd = i := by omega
   obtain ⟨T, r1, c1, r2, c2, hT, hR⟩ := (hR.pk (r := trieA _ _ _ _ _ _) pkQ).trieAE
   have hpos := hT.pos
   obtain ⟨f, hW, hF⟩ := hT.wf
   have hb1 : Bk r1 := (hR.pk (r := sls r1 _ _ _ _ _) pkQ).bk hpos
   have hK8 : (K.length : Int) ≤ 8192 := by have := hT.bd; omega
   have htl : ((dl k).take nd).length = nd := by rw [List.length_take, dl_len]; omega
   have hde : dep (cK K) (dl k) nd = nd := by
    rcases Nat.eq_zero_or_pos nd with h | h
    ·
     subst h; rfl
    ·
     exact (dep_full h).2 hcp
   have hDp := hW.up _ hcp
   have hul := undL_le (K := K) (d := 26 - nd) (p := (dl k).take nd) (by rw [htl]; omega) hcp
   refine condF hS rfl ?_
   refine wp_exit ?_
   refine hK329 _ _ ?_
   refine wp_seq_k ?_; intro K336 hK336
   refine wp_region_lit ?_
   refine sB (Balloc hS hR info176 (by rfl) (by rfl) (by decide) ?_); clear hS hR; intro aa ww bb10 hS hR
   refine wpList_nil ?_
   refine hK336 _ _ ?_
   refine wp_seq_k ?_; intro K337 hK337
   refine wp_region_lit ?_
   refine sA hS hR (Yld.makeFunc hS rfl rfl) (by decide) ?_; clear hS; intro aa hS
   refine sB (Bstore hS hR rfl rfl (by rfl) info176 (by rfl) pkQ (by rfl) (Nat.le_of_ble_eq_true rfl) ?_); clear hR; intro ww hR
   refine wpList_nil ?_
   refine hK337 _ _ ?_
   refine wp_seq_k ?_; intro K338 hK338
   refine wp_region_lit ?_
   refine sA hS hR (Yld.load1 hS rfl Try.underlying75 rfl rdQ) (by decide) ?_; clear hS; intro aa hS
   refine sA hS hR (Yld.loadAgg hS rfl Try.underlying35 rfl info35 rdsQ5 (by rfl)) (by decide) ?_; clear hS; intro aa hS
   revert aa
   refine qM hR ?_
   intro aa hS
   refine sB (Bcall hS rfl Try.call73 (find_ok (n := (nd : Int)) hW hk (by omega) ((hR.pk (r := sls r1 _ _ _ _ _) pkQ).pk (r := blk b _ _) pkQ)) (by decide) ?_); clear hS; intro aa ww vv hS hp
   clear hR
   obtain ⟨rfl, hR⟩ := hp
   rw [Int.toNat_natCast, find_yes hde] at hS
   revert aa
   refine qM hR ?_
   refine qX hR ?_
   refine qX hR ?_
   refine qN hR ?_
   refine qN hR ?_
   intro aa hS
   refine wpList_nil ?_
   refine hK338 _ _ ?_
   refine wp_seq_k ?_; intro K339 hK339
   refine wp_region_lit ?_
   refine sA hS hR (Yld.load1 hS rfl Try.underlying176 rfl rdQ) (by decide) ?_; clear hS; intro aa hS
   try dsimp only [lay, List.set] at hR
   replace hR := hR.slsNil (T := 35) (sz := 5)
   replace hR := hR.pk (r := blk bb7 _ _) pkQ
   change Sep (blk bb7 [.slice none ([] : List Ky).length 0] 24 :: sls none ([] : List Ky).length 0 35 5 (([] : List Ky).flatMap eK) :: _) _ at hR
   revert aa
   refine qM hR ?_
   refine qM hR ?_
   intro aa hS
   replace hS := hS.say (t := 38) (.int .i64 ((((dl k).take nd).length : Nat) : Int)) rfl (by rw [htl])
   refine sB (BcallV (first := []) (caps := [.pointer (some ⟨bb7, 0, none⟩), .pointer (some ⟨bb8, 0, none⟩), .pointer (some ⟨bb3, 0, none⟩), .pointer (some ⟨bb10, 0, none⟩)]) hS rfl rfl Try.call90 ((gather_ok (v := vK2 K) hW hb1 (26 - nd) (p := (dl k).take nd) (own := own) (ks := []) (r := none) (cc := 0) (by rw [htl]; omega) hDp hI.2.1 (by rw [htl]; exact hI.2.2.1) hI.2.2.2 (by simp; omega) (((((((hR.pk (r := sls r1 _ _ _ _ _) pkQ).pk (r := blk b _ _) pkQ).pk (r := blk bb10 _ _) pkQ).pk (r := blk bb3 _ _) pkQ).pk (r := blk bb8 _ _) pkQ).pk (r := sls none _ _ _ _ _) pkQ).pk (r := blk bb7 _ _) pkQ))) (by decide) ?_); clear hS; intro aa ww vv hS hp
   clear hR
   obtain ⟨rfl, own3, r3, cc3, ho1, ho2, ho3, hR⟩ := hp
   rw [List.nil_append] at hR
   refine wpList_nil ?_
   refine hK339 _ _ ?_
   refine wp_seq_k ?_; intro K340 hK340
   refine wp_region_lit ?_
   revert aa
   refine qA hR rfl (fun _ hS => Yld.load1 hS rfl Try.underlying24 rfl rdQ) ?_
   refine qN hR ?_
   intro aa hS
   refine wpList_nil ?_
   refine hK340 _ _ ?_
   refine wp_ret ?_
   repeat first | with_reducible refine thenR ?_ | with_reducible refine blockR ?_ | with_reducible refine scopeR ?_
   refine ret1 (fn := Try.f70) (e := .ret) (.inl rfl) Try.results70 hS hR ⟨_, (.tmp rfl), ?_⟩
   have h9 : Sep (trieA 147 144 3 b K most :: sls r3 ((undL (cK K) (26 - nd) ((dl k).take nd)).map keyD).length cc3 35 5 (((undL (cK K) (26 - nd) ((dl k).take nd)).map keyD).flatMap eK) :: l) _ := Sep.trieAI (TA := 147) (TN := 144) (TI := 3) (b := b) (T := T) hT rfl rfl (hR.sub exQ)
   rw [hz]
   exact ⟨r3, cc3, rfl, h9.swap⟩
theorem TKeys_ok {K : List (Ky × Int)} {most : Int} {b : Nat} {l : List HP} {w : World} (hR : Sep (trieA 147 144 3 b K most :: l) w) : CallR Try.prog 68 [.pointer (some ⟨b, 0, none⟩)] w (fun v w' => ∃ r c, v = .slice r (undK K (0, 0, 0, 0, 0) 0).length c ∧ Sep (sls r (undK K (0, 0, 0, 0, 0) 0).length c 35 5 ((undK K (0, 0, 0, 0, 0) 0).flatMap eK) :: trieA 147 144 3 b K most :: l) w') := by
 refine enter Try.func68 rfl Try.ntmps68 (Nat.le_of_ble_eq_true rfl) ?_; intro aa hS
 refine wp_seq_k ?_; intro K341 hK341
 refine wp_region_lit ?_
 revert aa
 refine qN hR ?_
 intro aa hS
 refine wpList_nil ?_
 refine hK341 _ _ ?_
 refine wp_seq_k ?_; intro K342 hK342
 refine wp_region_lit ?_
 revert aa
 refine qM hR ?_
 refine qA hR rfl (fun _ hS => Yld.build hS rfl (bld35_)) ?_
 intro aa hS
 refine sB (Bcall hS rfl Try.call70 (TUnder_ok (k := (0, 0, 0, 0, 0)) (n := 0) (hR.pk (r := trieA _ _ _ b _ _) pkQ) wfk0) (by decide) ?_); clear hS; intro aa ww vv hS hp
 clear hR
 obtain ⟨ra, ca, rfl, hR⟩ := hp
 revert aa
 refine qN hR ?_
 intro aa hS
 refine wpList_nil ?_
 refine hK342 _ _ ?_
 refine wp_ret ?_
 repeat first | with_reducible refine thenR ?_ | with_reducible refine blockR ?_ | with_reducible refine scopeR ?_
 refine ret1 (fn := Try.f68) (e := .ret) (.inl rfl) Try.results68 hS hR ⟨_, (.tmp rfl), ?_⟩
 exact ⟨_, _, rfl, (hR.sub exQ)⟩
end Go.Proofs.Ythhndmlfgjcgpaa.Sx
