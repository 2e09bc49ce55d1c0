/-
  
-/
import Derived.Test.YtmcfmhiadlkglaaLwD
namespace Go.Proofs.Ytmcfmhiadlkglaa.Sx
open Go
set_option linter.unusedVariables false
set_option linter.unusedSimpArgs false

theorem bls24_2_0_1 (x0_0 : Int) (x0_1 : Int) (x0_2 : Int) (x0_3 : Int) (x0_4 : Int) (x1_0 : Int) (x1_1 : Int) (x1_2 : Int) (x1_3 : Int) (x1_4 : Int) (w : World) : (Instr.buildSlice 24 2 [(0, .agg [.int .u8 x0_0, .int .u32 x0_1, .int .u32 x0_2, .int .u16 x0_3, .int .u16 x0_4].toArray), (1, .agg [.int .u8 x1_0, .int .u32 x1_1, .int .u32 x1_2, .int .u16 x1_3, .int .u16 x1_4].toArray)].toArray).run Try.prog w = .ok (.slice (some ⟨w.heap.size, 0, none⟩) 2 2) (w.alloc (.cells ([.int .u8 x0_0, .int .u32 x0_1, .int .u32 x0_2, .int .u16 x0_3, .int .u16 x0_4, .int .u8 x1_0, .int .u32 x1_1, .int .u32 x1_2, .int .u16 x1_3, .int .u16 x1_4] : List Value).toArray 34)) := by kernel_rfl
theorem zero3 (w : World) : (zeroValue 3).run Try.prog w = .ok (.int .i64 0) w := by kernel_rfl

theorem nodup_snoc {K : List (Ky × Int)} {k : Ky} {x : Int} (h : (K.map Prod.fst).Nodup) (hn : ¬ has K k) : ((K ++ [(k, x)]).map Prod.fst).Nodup := by
  rw [List.map_append, List.nodup_append]
  refine ⟨h, by simp, fun a ha b hb e => ?_⟩
  simp only [List.map_cons, List.map_nil, List.mem_singleton] at hb
  obtain ⟨e', he, h9⟩ := List.mem_map.1 ha
  exact hn ⟨e', he, by rw [h9, e, hb]⟩
theorem nodup_out {K : List (Ky × Int)} {k : Ky} (h : (K.map Prod.fst).Nodup) : ((outK K k).map Prod.fst).Nodup := h.sublist (List.filter_sublist.map _)
theorem outK_le {K : List (Ky × Int)} {k : Ky} : (outK K k).length ≤ K.length := List.length_filter_le _ _
set_option maxHeartbeats 8000000 in
set_option maxRecDepth 20000 in
theorem TrieMap_ok {W : World} {q : Option Addr} {n c : Nat} {s : Int} {xs : List (List Int)} (A1 : ArgS W [.u32] q n c xs) {l : List HP} {w : World} (hR : Sep (old W :: l) w) : CallR Try.prog 3 [.slice q n c, .int .u64 s] w (fun v w' => v = .bool true ∧ Sep (old W :: l) w') := by
  refine enter Try.func3 rfl Try.ntmps3 (Nat.le_of_ble_eq_true rfl) ?_; intro aa hS
  have hcap := A1.cap
  refine wp_seq_k ?_; intro K178 hK178
  refine wp_region_lit ?_
  refine sA hS hR (Yld.assign hS rfl) (by decide) ?_; clear hS; intro aa hS
  refine wpList_nil ?_
  refine hK178 _ _ ?_
  refine wp_seq_k ?_; intro K179 hK179
  refine wp_region_lit ?_
  refine sA hS hR (Yld.move hS rfl) (by decide) ?_; clear hS; intro aa hS
  refine sA hS hR (Yld.move hS rfl) (by decide) ?_; clear hS; intro aa hS
  refine sA hS hR (Yld.len hS rfl Try.underlying22) (by decide) ?_; clear hS; intro aa hS
  refine sA hS hR (Yld.min hS rfl rfl) (by decide) ?_; clear hS; intro aa hS
  refine sA hS hR (Yld.sliceHi hS rfl rfl Try.underlying22 info31 (by omega) (by omega)) (by decide) ?_; clear hS; intro aa hS
  obtain ⟨mm, hmm0, hmm1⟩ : ∃ y : Nat, (Min.min (n : Int) 60).toNat = y ∧ y ≤ n ∧ y ≤ 60 := ⟨_, rfl, by omega, by omega⟩
  replace hS := hS.say (t := 26) (.slice q mm c) rfl (by rw [hmm0])
  refine sB (Bcall hS rfl Try.call10 (Named_ok A1 hR (m := mm) (by omega) (by omega)) (by decide) ?_); clear hS; intro aa ww vv hS hp
  clear hR
  obtain ⟨ks, rk, rkc, rfl, hkl, hkw, hR⟩ := hp
  refine sA hS hR (Yld.assign hS rfl) (by decide) ?_; clear hS; intro aa hS
  refine wpList_nil ?_
  refine hK179 _ _ ?_
  refine wp_seq_k ?_; intro K180 hK180
  refine wp_region_lit ?_
  refine sB (Bcall hS rfl Try.call11 (TNew_ok hR (by omega)) (by decide) ?_); clear hS; intro aa ww vv hS hp
  clear hR
  obtain ⟨b, rfl, hR⟩ := hp
  refine sA hS hR (Yld.move hS rfl) (by decide) ?_; clear hS; intro aa hS
  refine sA hS hR (Yld.extract hS rfl rfl) (by decide) ?_; clear hS; intro aa hS
  refine sA hS hR (Yld.extract hS rfl rfl) (by decide) ?_; clear hS; intro aa hS
  refine sA hS hR (Yld.assign hS rfl) (by decide) ?_; clear hS; intro aa hS
  refine sA hS hR (Yld.assign hS rfl) (by decide) ?_; clear hS; intro aa hS
  refine wpList_nil ?_
  refine hK180 _ _ ?_
  refine wp_seq_k ?_; intro K181 hK181
  refine wp_seq_k ?_; intro K182 hK182
  refine wp_region_lit ?_
  refine sA hS hR (Yld.move hS rfl) (by decide) ?_; clear hS; intro aa hS
  refine sA hS hR (Yld.neq hS rfl rfl) (by decide) ?_; clear hS; intro aa hS
  replace hS := hS.sayB (t := 33) false rfl (by simp)
  refine sA hS hR (Yld.move hS rfl) (by decide) ?_; clear hS; intro aa hS
  refine sAg hS hR rfl rfl (Yld.move hS rfl) (by decide) ?_; clear hS; intro aa hS
  refine sAg hS hR rfl rfl (Yld.eqlNil hS rfl rfl Try.underlying26) (by decide) ?_; clear hS; intro aa hS
  replace hS := hS.sayB (t := 36) false rfl (by rfl)
  refine sA hS hR (Yld.pickF hS rfl rfl) (by decide) ?_; clear hS; intro aa hS
  refine wpList_nil ?_
  refine hK182 _ _ ?_
  refine condF hS rfl ?_
  refine wp_skip ?_
  refine hK181 _ _ ?_
  refine wp_seq_k ?_; intro K183 hK183
  refine wp_region_lit ?_
  refine sB (BmakeMap hS hR (by decide) ?_); clear hS hR; intro aa ww bb38 hS hR
  refine sA hS hR (Yld.assign hS rfl) (by decide) ?_; clear hS; intro aa hS
  refine wpList_nil ?_
  refine hK183 _ _ ?_
  refine wp_seq_k ?_; intro K184 hK184
  refine wp_seq_k ?_; intro K185 hK185
  refine wp_region_lit ?_
  refine sA hS hR (Yld.move hS rfl) (by decide) ?_; clear hS; intro aa hS
  refine sA hS hR (Yld.len hS rfl Try.underlying24) (by decide) ?_; clear hS; intro aa hS
  refine sA hS hR (Yld.move hS rfl) (by decide) ?_; clear hS; intro aa hS
  refine wpList_nil ?_
  refine hK185 _ _ ?_
  refine wp_block ?_
  replace hR := hR.pk (r := mapA bb38 []) (by repeat (first | with_reducible exact Pk.here | with_reducible apply Pk.there))
  replace hR := hR.pk (r := trieA 69 79 3 b [] 60) (by repeat (first | with_reducible exact Pk.here | with_reducible apply Pk.there))
  refine loopI (X := Nat × List (Ky × Int)) [(1, _), (5, _), (6, _), (8, _), (39, _), (40, _)] (fun x => [(41, .int .i64 (x.1 : Int))]) (fun x => [trieA 69 79 3 b x.2 60, mapA bb38 x.2]) _ (fun x => x.1 ≤ ks.length ∧ (x.2.map Prod.fst).Nodup ∧ x.2.length ≤ x.1) (fun x => ks.length - x.1) (0, []) ⟨Nat.zero_le _, by simp, Nat.le_refl _⟩ (hS.le (Le.cons rfl (Le.nilapp (Le.cons rfl (Le.cons rfl (Le.cons rfl (Le.cons rfl (Le.cons rfl (Le.cons rfl (Le.nil _)))))))))) hR ?_
  clear hS hR; rintro ⟨i, K⟩ aa ww hI hS hR; dsimp only [List.cons_append, List.nil_append] at hI hS hR
  refine wp_seq_k ?_; intro K187 hK187
  refine wp_region_lit ?_
  refine sA hS hR (Yld.lss hS rfl rfl) (by decide) ?_; clear hS; intro aa hS
  refine wpList_nil ?_
  refine hK187 _ _ ?_
  refine wp_seq_k ?_; intro K188 hK188
  refine hS.splitB (t := 42) rfl ?_ ?_ <;> clear hS
  · intro hg hS
    refine condT hS rfl ?_
    refine wp_skip ?_
    refine hK188 _ _ ?_
    refine wp_seq_k ?_; intro K189 hK189
    refine wp_block ?_
    refine wp_seq_k ?_; intro K190 hK190
    refine wp_region_lit ?_
    refine sA hS hR (Yld.move hS rfl) (by decide) ?_; clear hS; intro aa hS
    refine sA hS hR ((by first | exact Yld.indexL (sz := 5) _ hS rfl rfl Try.underlying24 info34 (by repeat (first | with_reducible exact Pk.here | with_reducible apply Pk.there)) rfl rfl (by omega) | exact Yld.indexB (sz := 5) _ hS rfl rfl Try.underlying24 info34 rfl rfl (by omega) | exact Yld.indexSlice hS rfl rfl Try.underlying24 info34 (by omega) (by omega))) (by decide) ?_; clear hS; intro aa hS
    refine sA hS hR (Yld.loadAgg hS rfl Try.underlying34 rfl info34 (by first | exact Rds.cons (Rd.blk (by repeat (first | with_reducible exact Pk.here | with_reducible apply Pk.there)) (by rfl)) (Rds.cons (Rd.blk (by repeat (first | with_reducible exact Pk.here | with_reducible apply Pk.there)) (by rfl)) (Rds.cons (Rd.blk (by repeat (first | with_reducible exact Pk.here | with_reducible apply Pk.there)) (by rfl)) (Rds.cons (Rd.blk (by repeat (first | with_reducible exact Pk.here | with_reducible apply Pk.there)) (by rfl)) (Rds.cons (Rd.blk (by repeat (first | with_reducible exact Pk.here | with_reducible apply Pk.there)) (by rfl)) (Rds.nil))))) | exact Rds.rec (by repeat (first | with_reducible exact Pk.here | with_reducible apply Pk.there)) (by intro _; rfl) (by omega) | exact Rds.flat1 (by repeat (first | with_reducible exact Pk.here | with_reducible apply Pk.there)) (by intro _; rfl) (by omega)) (by rfl)) (by decide) ?_; clear hS; intro aa hS
    obtain ⟨kj, hkje⟩ : ∃ y : Ky, ks[i] = y := ⟨_, rfl⟩
    have hkj : WfK kj := by rw [← hkje]; exact hkw _ (List.getElem_mem _)
    replace hS := hS.say (t := 45) (vK kj) rfl (by rw [hkje])
    refine sB (Balloc hS hR info34 (by rfl) (by rfl) (by decide) ?_); clear hS hR; intro aa ww bb10 hS hR
    refine sA hS hR (Yld.assign hS rfl) (by decide) ?_; clear hS; intro aa hS
    refine sB (Bstore hS hR rfl rfl (by rfl) info34 (by rfl) (by repeat (first | with_reducible exact Pk.here | with_reducible apply Pk.there)) (by rfl) (Nat.le_of_ble_eq_true rfl) ?_); clear hR; intro ww hR
    refine wpList_nil ?_
    refine hK190 _ _ ?_
    refine wp_seq_k ?_; intro K191 hK191
    refine wp_region_lit ?_
    refine sA hS hR (Yld.move hS rfl) (by decide) ?_; clear hS; intro aa hS
    refine sA hS hR (Yld.loadAgg hS rfl Try.underlying34 rfl info34 (by first | exact Rds.cons (Rd.blk (by repeat (first | with_reducible exact Pk.here | with_reducible apply Pk.there)) (by rfl)) (Rds.cons (Rd.blk (by repeat (first | with_reducible exact Pk.here | with_reducible apply Pk.there)) (by rfl)) (Rds.cons (Rd.blk (by repeat (first | with_reducible exact Pk.here | with_reducible apply Pk.there)) (by rfl)) (Rds.cons (Rd.blk (by repeat (first | with_reducible exact Pk.here | with_reducible apply Pk.there)) (by rfl)) (Rds.cons (Rd.blk (by repeat (first | with_reducible exact Pk.here | with_reducible apply Pk.there)) (by rfl)) (Rds.nil))))) | exact Rds.rec (by repeat (first | with_reducible exact Pk.here | with_reducible apply Pk.there)) (by intro _; rfl) (by omega) | exact Rds.flat1 (by repeat (first | with_reducible exact Pk.here | with_reducible apply Pk.there)) (by intro _; rfl) (by omega)) (by rfl)) (by decide) ?_; clear hS; intro aa hS
    refine sA hS hR (Yld.lookup (k := kj) hS keyT rfl rfl Try.underlying30 zero3 (by repeat (first | with_reducible exact Pk.here | with_reducible apply Pk.there))) (by decide) ?_; clear hS; intro aa hS
    refine sA hS hR (Yld.move hS rfl) (by decide) ?_; clear hS; intro aa hS
    refine sA hS hR (Yld.extract hS rfl rfl) (by decide) ?_; clear hS; intro aa hS
    refine sA hS hR (Yld.extract hS rfl rfl) (by decide) ?_; clear hS; intro aa hS
    refine sA hS hR (Yld.assign hS rfl) (by decide) ?_; clear hS; intro aa hS
    refine sA hS hR (Yld.assign hS rfl) (by decide) ?_; clear hS; intro aa hS
    refine wpList_nil ?_
    refine hK191 _ _ ?_
    refine wp_seq_k ?_; intro K192 hK192
    refine wp_seq_k ?_; intro K193 hK193
    refine wp_region_lit ?_
    by_cases hn : has K kj
    ·
      refine sA hS hR (Yld.move hS rfl) (by decide) ?_; clear hS; intro aa hS
      first
        | (replace hn := id (α := ¬ has K kj) hn; rw [findV_no hn] at hS; dsimp only [Option.getD, Option.isSome] at hS)
        | (obtain ⟨v0, hv0⟩ := Option.isSome_iff_exists.1 (findV_some.2 hn); rw [hv0] at hS; dsimp only [Option.getD, Option.isSome] at hS)
      refine sA hS hR (Yld.move hS rfl) (by decide) ?_; clear hS; intro aa hS
      refine sA hS hR ((by first | exact Yld.rem64 hS rfl rfl (by omega) | exact Yld.rem hS rfl rfl (by omega))) (by decide) ?_; clear hS; intro aa hS
      refine sA hS hR (Yld.shrN hS rfl rfl (by omega)) (by decide) ?_; clear hS; intro aa hS
      refine sA hS hR (Yld.and hS rfl rfl) (by decide) ?_; clear hS; intro aa hS
      refine sA hS hR (Yld.eql hS rfl rfl) (by decide) ?_; clear hS; intro aa hS
      refine wpList_nil ?_
      refine hK193 _ _ ?_
      refine hS.splitB (t := 57) rfl ?_ ?_ <;> clear hS
      · intro hg hS
        refine condT hS rfl ?_
        refine wp_seq_k ?_; intro K194 hK194
        refine wp_region_lit ?_
        refine sA hS hR (Yld.move hS rfl) (by decide) ?_; clear hS; intro aa hS
        refine sA hS hR (Yld.loadAgg hS rfl Try.underlying34 rfl info34 (by first | exact Rds.cons (Rd.blk (by repeat (first | with_reducible exact Pk.here | with_reducible apply Pk.there)) (by rfl)) (Rds.cons (Rd.blk (by repeat (first | with_reducible exact Pk.here | with_reducible apply Pk.there)) (by rfl)) (Rds.cons (Rd.blk (by repeat (first | with_reducible exact Pk.here | with_reducible apply Pk.there)) (by rfl)) (Rds.cons (Rd.blk (by repeat (first | with_reducible exact Pk.here | with_reducible apply Pk.there)) (by rfl)) (Rds.cons (Rd.blk (by repeat (first | with_reducible exact Pk.here | with_reducible apply Pk.there)) (by rfl)) (Rds.nil))))) | exact Rds.rec (by repeat (first | with_reducible exact Pk.here | with_reducible apply Pk.there)) (by intro _; rfl) (by omega) | exact Rds.flat1 (by repeat (first | with_reducible exact Pk.here | with_reducible apply Pk.there)) (by intro _; rfl) (by omega)) (by rfl)) (by decide) ?_; clear hS; intro aa hS
        refine sA hS hR (Yld.move hS rfl) (by decide) ?_; clear hS; intro aa hS
        refine sB (Bcall hS rfl Try.call12 (Put_ok (k := kj) (vx := (i : Int)) (hR.pk (r := trieA 69 79 3 _ _ _) (by repeat (first | with_reducible exact Pk.here | with_reducible apply Pk.there))) hkj) (by decide) ?_); clear hS; intro aa ww vv hS hp
        clear hR
        obtain ⟨rfl, hR⟩ := hp
        rw [putE_has hn] at hS; rw [putK_has hn] at hR
        refine sA hS hR (Yld.assign hS rfl) (by decide) ?_; clear hS; intro aa hS
        refine wpList_nil ?_
        refine hK194 _ _ ?_
        refine wp_seq_k ?_; intro K195 hK195
        refine wp_seq_k ?_; intro K196 hK196
        refine wp_region_lit ?_
        refine sA hS hR (Yld.move hS rfl) (by decide) ?_; clear hS; intro aa hS
        replace hS := hS.sayB (t := 62) true rfl (by rfl)
        refine sA hS hR (Yld.move hS rfl) (by decide) ?_; clear hS; intro aa hS
        refine sA hS hR (Yld.eql hS rfl rfl) (by decide) ?_; clear hS; intro aa hS
        replace hS := hS.sayB (t := 64) true rfl (by rfl)
        refine sA hS hR (Yld.neqB hS rfl rfl Try.underlying4) (by decide) ?_; clear hS; intro aa hS
        replace hS := hS.sayB (t := 65) false rfl (by rfl)
        refine sA hS hR (Yld.move hS rfl) (by decide) ?_; clear hS; intro aa hS
        refine sAg hS hR rfl rfl (Yld.move hS rfl) (by decide) ?_; clear hS; intro aa hS
        replace hS := hS.sayB (t := 67) true rfl (by rfl)
        refine sAg hS hR rfl rfl (Yld.not hS rfl) (by decide) ?_; clear hS; intro aa hS
        refine sAg hS hR rfl rfl (Yld.move hS rfl) (by decide) ?_; clear hS; intro aa hS
        refine sSkip hS rfl rfl rfl (by decide) ?_; clear hS; intro aa hS
        refine sSkip hS rfl rfl rfl (by decide) ?_; clear hS; intro aa hS
        refine sAg hS hR rfl rfl (Yld.pickF hS rfl rfl) (by decide) ?_; clear hS; intro aa hS
        refine sA hS hR (Yld.pickF hS rfl rfl) (by decide) ?_; clear hS; intro aa hS
        refine wpList_nil ?_
        refine hK196 _ _ ?_
        refine condF hS rfl ?_
        refine wp_skip ?_
        refine hK195 _ _ ?_
        refine wp_seq_k ?_; intro K197 hK197
        refine wp_region_lit ?_
        refine sA hS hR (Yld.move hS rfl) (by decide) ?_; clear hS; intro aa hS
        replace hS := hS.sayB (t := 74) true rfl (by rfl)
        refine sA hS hR (Yld.not hS rfl) (by decide) ?_; clear hS; intro aa hS
        refine wpList_nil ?_
        refine hK197 _ _ ?_
        refine condF hS rfl ?_
        refine wp_skip ?_
        refine hK192 _ _ ?_
        refine wp_seq_k ?_; intro K198 hK198
        refine wp_region_lit ?_
        refine sA hS hR (Yld.move hS rfl) (by decide) ?_; clear hS; intro aa hS
        refine sB (Bcall hS rfl Try.call14 (TLen_ok (hR.pk (r := trieA 69 79 3 _ _ _) (by repeat (first | with_reducible exact Pk.here | with_reducible apply Pk.there)))) (by decide) ?_); clear hS; intro aa ww vv hS hp
        clear hR
        obtain ⟨rfl, hR⟩ := hp
        refine sA hS hR (Yld.move hS rfl) (by decide) ?_; clear hS; intro aa hS
        refine sA hS hR (Yld.lenMap hS rfl Try.underlying30 (by repeat (first | with_reducible exact Pk.here | with_reducible apply Pk.there))) (by decide) ?_; clear hS; intro aa hS
        refine sA hS hR (Yld.neq hS rfl rfl) (by decide) ?_; clear hS; intro aa hS
        replace hS := hS.sayB (t := 108) false rfl (by simp)
        refine wpList_nil ?_
        refine hK198 _ _ ?_
        refine condF hS rfl ?_
        refine wp_skip ?_
        refine hK189 _ _ ?_
        refine wp_region_lit ?_
        refine sA hS hR ((by first | exact Yld.add64 hS rfl rfl (by omega) | exact Yld.add hS rfl rfl)) (by decide) ?_; clear hS; intro aa hS
        refine sA hS hR (Yld.move hS rfl) (by decide) ?_; clear hS; intro aa hS
        refine wpList_nil ?_
        
        refine ⟨(i + 1, _), ?_, ?_, hS.le (Le.cons rfl (Le.nilapp (Le.cons rfl (Le.cons rfl (Le.cons rfl (Le.cons rfl (Le.cons rfl (Le.cons rfl (Le.nil _))))))))), hR.sub (Ex.take (by repeat (first | with_reducible exact Pk.here | with_reducible apply Pk.there)) (Ex.take (by repeat (first | with_reducible exact Pk.here | with_reducible apply Pk.there)) (Ex.nilapp (by repeat (first | with_reducible exact Ex.refl | (with_reducible apply Ex.take; · repeat (first | with_reducible exact Pk.here | with_reducible apply Pk.there)) | with_reducible apply Ex.drop)))))⟩
        · dsimp only; first | exact ⟨by omega, hI.2.1, by omega⟩ | exact ⟨by omega, nodup_snoc hI.2.1 hn, by rw [List.length_append]; simp; omega⟩ | exact ⟨by omega, nodup_out hI.2.1, by have := outK_le (K := K) (k := kj); omega⟩
        · dsimp only; omega
      · intro hg hS
        refine condF hS rfl ?_
        refine wp_seq_k ?_; intro K199 hK199
        refine wp_region_lit ?_
        refine sA hS hR (Yld.move hS rfl) (by decide) ?_; clear hS; intro aa hS
        refine sA hS hR (Yld.loadAgg hS rfl Try.underlying34 rfl info34 (by first | exact Rds.cons (Rd.blk (by repeat (first | with_reducible exact Pk.here | with_reducible apply Pk.there)) (by rfl)) (Rds.cons (Rd.blk (by repeat (first | with_reducible exact Pk.here | with_reducible apply Pk.there)) (by rfl)) (Rds.cons (Rd.blk (by repeat (first | with_reducible exact Pk.here | with_reducible apply Pk.there)) (by rfl)) (Rds.cons (Rd.blk (by repeat (first | with_reducible exact Pk.here | with_reducible apply Pk.there)) (by rfl)) (Rds.cons (Rd.blk (by repeat (first | with_reducible exact Pk.here | with_reducible apply Pk.there)) (by rfl)) (Rds.nil))))) | exact Rds.rec (by repeat (first | with_reducible exact Pk.here | with_reducible apply Pk.there)) (by intro _; rfl) (by omega) | exact Rds.flat1 (by repeat (first | with_reducible exact Pk.here | with_reducible apply Pk.there)) (by intro _; rfl) (by omega)) (by rfl)) (by decide) ?_; clear hS; intro aa hS
        refine sB (Bcall hS rfl Try.call13 (Out_ok (k := kj) (hR.pk (r := trieA 69 79 3 _ _ _) (by repeat (first | with_reducible exact Pk.here | with_reducible apply Pk.there))) hkj) (by decide) ?_); clear hS; intro aa ww vv hS hp
        clear hR
        obtain ⟨rfl, hR⟩ := hp
        rw [hv0] at hS; dsimp only [Option.getD, Option.isSome] at hS
        rw [if_pos rfl] at hS
        refine sA hS hR (Yld.move hS rfl) (by decide) ?_; clear hS; intro aa hS
        refine sA hS hR (Yld.extract hS rfl rfl) (by decide) ?_; clear hS; intro aa hS
        refine sA hS hR (Yld.extract hS rfl rfl) (by decide) ?_; clear hS; intro aa hS
        refine sA hS hR (Yld.assign hS rfl) (by decide) ?_; clear hS; intro aa hS
        refine sA hS hR (Yld.assign hS rfl) (by decide) ?_; clear hS; intro aa hS
        refine wpList_nil ?_
        refine hK199 _ _ ?_
        refine wp_seq_k ?_; intro K200 hK200
        refine wp_seq_k ?_; intro K201 hK201
        refine wp_region_lit ?_
        refine sA hS hR (Yld.move hS rfl) (by decide) ?_; clear hS; intro aa hS
        replace hS := hS.sayB (t := 85) true rfl (by rfl)
        refine sA hS hR (Yld.move hS rfl) (by decide) ?_; clear hS; intro aa hS
        refine sA hS hR (Yld.eql hS rfl rfl) (by decide) ?_; clear hS; intro aa hS
        replace hS := hS.sayB (t := 87) true rfl (by rfl)
        refine sA hS hR (Yld.neqB hS rfl rfl Try.underlying4) (by decide) ?_; clear hS; intro aa hS
        replace hS := hS.sayB (t := 88) false rfl (by rfl)
        refine sA hS hR (Yld.move hS rfl) (by decide) ?_; clear hS; intro aa hS
        refine sAg hS hR rfl rfl (Yld.move hS rfl) (by decide) ?_; clear hS; intro aa hS
        refine sAg hS hR rfl rfl (Yld.move hS rfl) (by decide) ?_; clear hS; intro aa hS
        refine sAg hS hR rfl rfl (Yld.neq hS rfl rfl) (by decide) ?_; clear hS; intro aa hS
        replace hS := hS.sayB (t := 92) false rfl (by simp)
        refine sA hS hR (Yld.pickF hS rfl rfl) (by decide) ?_; clear hS; intro aa hS
        refine sA hS hR (Yld.move hS rfl) (by decide) ?_; clear hS; intro aa hS
        refine sAg hS hR rfl rfl (Yld.move hS rfl) (by decide) ?_; clear hS; intro aa hS
        replace hS := hS.sayB (t := 95) true rfl (by rfl)
        refine sAg hS hR rfl rfl (Yld.not hS rfl) (by decide) ?_; clear hS; intro aa hS
        refine sAg hS hR rfl rfl (Yld.move hS rfl) (by decide) ?_; clear hS; intro aa hS
        refine sSkip hS rfl rfl rfl (by decide) ?_; clear hS; intro aa hS
        refine sSkip hS rfl rfl rfl (by decide) ?_; clear hS; intro aa hS
        refine sAg hS hR rfl rfl (Yld.pickF hS rfl rfl) (by decide) ?_; clear hS; intro aa hS
        refine sA hS hR (Yld.pickF hS rfl rfl) (by decide) ?_; clear hS; intro aa hS
        refine wpList_nil ?_
        refine hK201 _ _ ?_
        refine condF hS rfl ?_
        refine wp_skip ?_
        refine hK200 _ _ ?_
        refine wp_region_lit ?_
        refine sA hS hR (Yld.move hS rfl) (by decide) ?_; clear hS; intro aa hS
        refine sA hS hR (Yld.loadAgg hS rfl Try.underlying34 rfl info34 (by first | exact Rds.cons (Rd.blk (by repeat (first | with_reducible exact Pk.here | with_reducible apply Pk.there)) (by rfl)) (Rds.cons (Rd.blk (by repeat (first | with_reducible exact Pk.here | with_reducible apply Pk.there)) (by rfl)) (Rds.cons (Rd.blk (by repeat (first | with_reducible exact Pk.here | with_reducible apply Pk.there)) (by rfl)) (Rds.cons (Rd.blk (by repeat (first | with_reducible exact Pk.here | with_reducible apply Pk.there)) (by rfl)) (Rds.cons (Rd.blk (by repeat (first | with_reducible exact Pk.here | with_reducible apply Pk.there)) (by rfl)) (Rds.nil))))) | exact Rds.rec (by repeat (first | with_reducible exact Pk.here | with_reducible apply Pk.there)) (by intro _; rfl) (by omega) | exact Rds.flat1 (by repeat (first | with_reducible exact Pk.here | with_reducible apply Pk.there)) (by intro _; rfl) (by omega)) (by rfl)) (by decide) ?_; clear hS; intro aa hS
        refine sB (Bdelete (k := kj) hS hR keyT rfl rfl Try.underlying30 (by repeat (first | with_reducible exact Pk.here | with_reducible apply Pk.there)) (hI.2.1) ?_); clear hR; intro ww hR
        refine wpList_nil ?_
        refine hK192 _ _ ?_
        refine wp_seq_k ?_; intro K202 hK202
        refine wp_region_lit ?_
        refine sA hS hR (Yld.move hS rfl) (by decide) ?_; clear hS; intro aa hS
        refine sB (Bcall hS rfl Try.call14 (TLen_ok (hR.pk (r := trieA 69 79 3 _ _ _) (by repeat (first | with_reducible exact Pk.here | with_reducible apply Pk.there)))) (by decide) ?_); clear hS; intro aa ww vv hS hp
        clear hR
        obtain ⟨rfl, hR⟩ := hp
        refine sA hS hR (Yld.move hS rfl) (by decide) ?_; clear hS; intro aa hS
        refine sA hS hR (Yld.lenMap hS rfl Try.underlying30 (by repeat (first | with_reducible exact Pk.here | with_reducible apply Pk.there))) (by decide) ?_; clear hS; intro aa hS
        refine sA hS hR (Yld.neq hS rfl rfl) (by decide) ?_; clear hS; intro aa hS
        replace hS := hS.sayB (t := 108) false rfl (by simp)
        refine wpList_nil ?_
        refine hK202 _ _ ?_
        refine condF hS rfl ?_
        refine wp_skip ?_
        refine hK189 _ _ ?_
        refine wp_region_lit ?_
        refine sA hS hR ((by first | exact Yld.add64 hS rfl rfl (by omega) | exact Yld.add hS rfl rfl)) (by decide) ?_; clear hS; intro aa hS
        refine sA hS hR (Yld.move hS rfl) (by decide) ?_; clear hS; intro aa hS
        refine wpList_nil ?_
        
        refine ⟨(i + 1, _), ?_, ?_, hS.le (Le.cons rfl (Le.nilapp (Le.cons rfl (Le.cons rfl (Le.cons rfl (Le.cons rfl (Le.cons rfl (Le.cons rfl (Le.nil _))))))))), hR.sub (Ex.take (by repeat (first | with_reducible exact Pk.here | with_reducible apply Pk.there)) (Ex.take (by repeat (first | with_reducible exact Pk.here | with_reducible apply Pk.there)) (Ex.nilapp (by repeat (first | with_reducible exact Ex.refl | (with_reducible apply Ex.take; · repeat (first | with_reducible exact Pk.here | with_reducible apply Pk.there)) | with_reducible apply Ex.drop)))))⟩
        · dsimp only; first | exact ⟨by omega, hI.2.1, by omega⟩ | exact ⟨by omega, nodup_snoc hI.2.1 hn, by rw [List.length_append]; simp; omega⟩ | exact ⟨by omega, nodup_out hI.2.1, by have := outK_le (K := K) (k := kj); omega⟩
        · dsimp only; omega
    ·
      refine sA hS hR (Yld.move hS rfl) (by decide) ?_; clear hS; intro aa hS
      first
        | (replace hn := id (α := ¬ has K kj) hn; rw [findV_no hn] at hS; dsimp only [Option.getD, Option.isSome] at hS)
        | (obtain ⟨v0, hv0⟩ := Option.isSome_iff_exists.1 (findV_some.2 hn); rw [hv0] at hS; dsimp only [Option.getD, Option.isSome] at hS)
      refine sA hS hR (Yld.move hS rfl) (by decide) ?_; clear hS; intro aa hS
      refine sA hS hR ((by first | exact Yld.rem64 hS rfl rfl (by omega) | exact Yld.rem hS rfl rfl (by omega))) (by decide) ?_; clear hS; intro aa hS
      refine sA hS hR (Yld.shrN hS rfl rfl (by omega)) (by decide) ?_; clear hS; intro aa hS
      refine sA hS hR (Yld.and hS rfl rfl) (by decide) ?_; clear hS; intro aa hS
      refine sA hS hR (Yld.eql hS rfl rfl) (by decide) ?_; clear hS; intro aa hS
      refine wpList_nil ?_
      refine hK193 _ _ ?_
      refine hS.splitB (t := 57) rfl ?_ ?_ <;> clear hS
      · intro hg hS
        refine condT hS rfl ?_
        refine wp_seq_k ?_; intro K203 hK203
        refine wp_region_lit ?_
        refine sA hS hR (Yld.move hS rfl) (by decide) ?_; clear hS; intro aa hS
        refine sA hS hR (Yld.loadAgg hS rfl Try.underlying34 rfl info34 (by first | exact Rds.cons (Rd.blk (by repeat (first | with_reducible exact Pk.here | with_reducible apply Pk.there)) (by rfl)) (Rds.cons (Rd.blk (by repeat (first | with_reducible exact Pk.here | with_reducible apply Pk.there)) (by rfl)) (Rds.cons (Rd.blk (by repeat (first | with_reducible exact Pk.here | with_reducible apply Pk.there)) (by rfl)) (Rds.cons (Rd.blk (by repeat (first | with_reducible exact Pk.here | with_reducible apply Pk.there)) (by rfl)) (Rds.cons (Rd.blk (by repeat (first | with_reducible exact Pk.here | with_reducible apply Pk.there)) (by rfl)) (Rds.nil))))) | exact Rds.rec (by repeat (first | with_reducible exact Pk.here | with_reducible apply Pk.there)) (by intro _; rfl) (by omega) | exact Rds.flat1 (by repeat (first | with_reducible exact Pk.here | with_reducible apply Pk.there)) (by intro _; rfl) (by omega)) (by rfl)) (by decide) ?_; clear hS; intro aa hS
        refine sA hS hR (Yld.move hS rfl) (by decide) ?_; clear hS; intro aa hS
        refine sB (Bcall hS rfl Try.call12 (Put_ok (k := kj) (vx := (i : Int)) (hR.pk (r := trieA 69 79 3 _ _ _) (by repeat (first | with_reducible exact Pk.here | with_reducible apply Pk.there))) hkj) (by decide) ?_); clear hS; intro aa ww vv hS hp
        clear hR
        obtain ⟨rfl, hR⟩ := hp
        rw [putE_new hn (by omega)] at hS; rw [putK_new hn (by omega)] at hR
        refine sA hS hR (Yld.assign hS rfl) (by decide) ?_; clear hS; intro aa hS
        refine wpList_nil ?_
        refine hK203 _ _ ?_
        refine wp_seq_k ?_; intro K204 hK204
        refine wp_seq_k ?_; intro K205 hK205
        refine wp_region_lit ?_
        refine sA hS hR (Yld.move hS rfl) (by decide) ?_; clear hS; intro aa hS
        replace hS := hS.sayB (t := 62) false rfl (by rfl)
        refine sA hS hR (Yld.move hS rfl) (by decide) ?_; clear hS; intro aa hS
        refine sA hS hR (Yld.eql hS rfl rfl) (by decide) ?_; clear hS; intro aa hS
        replace hS := hS.sayB (t := 64) false rfl (by rfl)
        refine sA hS hR (Yld.neqB hS rfl rfl Try.underlying4) (by decide) ?_; clear hS; intro aa hS
        replace hS := hS.sayB (t := 65) false rfl (by rfl)
        refine sA hS hR (Yld.move hS rfl) (by decide) ?_; clear hS; intro aa hS
        refine sAg hS hR rfl rfl (Yld.move hS rfl) (by decide) ?_; clear hS; intro aa hS
        replace hS := hS.sayB (t := 67) false rfl (by rfl)
        refine sAg hS hR rfl rfl (Yld.not hS rfl) (by decide) ?_; clear hS; intro aa hS
        refine sAg hS hR rfl rfl (Yld.move hS rfl) (by decide) ?_; clear hS; intro aa hS
        refine sAg hS hR rfl rfl (Yld.move hS rfl) (by decide) ?_; clear hS; intro aa hS
        refine sAg hS hR rfl rfl (Yld.neq hS rfl rfl) (by decide) ?_; clear hS; intro aa hS
        replace hS := hS.sayB (t := 71) false rfl (by rfl)
        refine sAg hS hR rfl rfl (Yld.pickT hS rfl rfl) (by decide) ?_; clear hS; intro aa hS
        refine sA hS hR (Yld.pickF hS rfl rfl) (by decide) ?_; clear hS; intro aa hS
        refine wpList_nil ?_
        refine hK205 _ _ ?_
        refine condF hS rfl ?_
        refine wp_skip ?_
        refine hK204 _ _ ?_
        refine wp_seq_k ?_; intro K206 hK206
        refine wp_region_lit ?_
        refine sA hS hR (Yld.move hS rfl) (by decide) ?_; clear hS; intro aa hS
        replace hS := hS.sayB (t := 74) false rfl (by rfl)
        refine sA hS hR (Yld.not hS rfl) (by decide) ?_; clear hS; intro aa hS
        refine wpList_nil ?_
        refine hK206 _ _ ?_
        refine condT hS rfl ?_
        refine wp_region_lit ?_
        refine sA hS hR (Yld.move hS rfl) (by decide) ?_; clear hS; intro aa hS
        refine sA hS hR (Yld.loadAgg hS rfl Try.underlying34 rfl info34 (by first | exact Rds.cons (Rd.blk (by repeat (first | with_reducible exact Pk.here | with_reducible apply Pk.there)) (by rfl)) (Rds.cons (Rd.blk (by repeat (first | with_reducible exact Pk.here | with_reducible apply Pk.there)) (by rfl)) (Rds.cons (Rd.blk (by repeat (first | with_reducible exact Pk.here | with_reducible apply Pk.there)) (by rfl)) (Rds.cons (Rd.blk (by repeat (first | with_reducible exact Pk.here | with_reducible apply Pk.there)) (by rfl)) (Rds.cons (Rd.blk (by repeat (first | with_reducible exact Pk.here | with_reducible apply Pk.there)) (by rfl)) (Rds.nil))))) | exact Rds.rec (by repeat (first | with_reducible exact Pk.here | with_reducible apply Pk.there)) (by intro _; rfl) (by omega) | exact Rds.flat1 (by repeat (first | with_reducible exact Pk.here | with_reducible apply Pk.there)) (by intro _; rfl) (by omega)) (by rfl)) (by decide) ?_; clear hS; intro aa hS
        refine sA hS hR (Yld.move hS rfl) (by decide) ?_; clear hS; intro aa hS
        refine sB (BmapUpdate (k := kj) hS hR keyT rfl rfl rfl Try.underlying30 (by repeat (first | with_reducible exact Pk.here | with_reducible apply Pk.there)) (findV_no hn) ?_); clear hR; intro ww hR
        refine wpList_nil ?_
        refine hK192 _ _ ?_
        refine wp_seq_k ?_; intro K207 hK207
        refine wp_region_lit ?_
        refine sA hS hR (Yld.move hS rfl) (by decide) ?_; clear hS; intro aa hS
        refine sB (Bcall hS rfl Try.call14 (TLen_ok (hR.pk (r := trieA 69 79 3 _ _ _) (by repeat (first | with_reducible exact Pk.here | with_reducible apply Pk.there)))) (by decide) ?_); clear hS; intro aa ww vv hS hp
        clear hR
        obtain ⟨rfl, hR⟩ := hp
        refine sA hS hR (Yld.move hS rfl) (by decide) ?_; clear hS; intro aa hS
        refine sA hS hR (Yld.lenMap hS rfl Try.underlying30 (by repeat (first | with_reducible exact Pk.here | with_reducible apply Pk.there))) (by decide) ?_; clear hS; intro aa hS
        refine sA hS hR (Yld.neq hS rfl rfl) (by decide) ?_; clear hS; intro aa hS
        replace hS := hS.sayB (t := 108) false rfl (by simp)
        refine wpList_nil ?_
        refine hK207 _ _ ?_
        refine condF hS rfl ?_
        refine wp_skip ?_
        refine hK189 _ _ ?_
        refine wp_region_lit ?_
        refine sA hS hR ((by first | exact Yld.add64 hS rfl rfl (by omega) | exact Yld.add hS rfl rfl)) (by decide) ?_; clear hS; intro aa hS
        refine sA hS hR (Yld.move hS rfl) (by decide) ?_; clear hS; intro aa hS
        refine wpList_nil ?_
        
        refine ⟨(i + 1, _), ?_, ?_, hS.le (Le.cons rfl (Le.nilapp (Le.cons rfl (Le.cons rfl (Le.cons rfl (Le.cons rfl (Le.cons rfl (Le.cons rfl (Le.nil _))))))))), hR.sub (Ex.take (by repeat (first | with_reducible exact Pk.here | with_reducible apply Pk.there)) (Ex.take (by repeat (first | with_reducible exact Pk.here | with_reducible apply Pk.there)) (Ex.nilapp (by repeat (first | with_reducible exact Ex.refl | (with_reducible apply Ex.take; · repeat (first | with_reducible exact Pk.here | with_reducible apply Pk.there)) | with_reducible apply Ex.drop)))))⟩
        · dsimp only; first | exact ⟨by omega, hI.2.1, by omega⟩ | exact ⟨by omega, nodup_snoc hI.2.1 hn, by rw [List.length_append]; simp; omega⟩ | exact ⟨by omega, nodup_out hI.2.1, by have := outK_le (K := K) (k := kj); omega⟩
        · dsimp only; omega
      · intro hg hS
        refine condF hS rfl ?_
        refine wp_seq_k ?_; intro K208 hK208
        refine wp_region_lit ?_
        refine sA hS hR (Yld.move hS rfl) (by decide) ?_; clear hS; intro aa hS
        refine sA hS hR (Yld.loadAgg hS rfl Try.underlying34 rfl info34 (by first | exact Rds.cons (Rd.blk (by repeat (first | with_reducible exact Pk.here | with_reducible apply Pk.there)) (by rfl)) (Rds.cons (Rd.blk (by repeat (first | with_reducible exact Pk.here | with_reducible apply Pk.there)) (by rfl)) (Rds.cons (Rd.blk (by repeat (first | with_reducible exact Pk.here | with_reducible apply Pk.there)) (by rfl)) (Rds.cons (Rd.blk (by repeat (first | with_reducible exact Pk.here | with_reducible apply Pk.there)) (by rfl)) (Rds.cons (Rd.blk (by repeat (first | with_reducible exact Pk.here | with_reducible apply Pk.there)) (by rfl)) (Rds.nil))))) | exact Rds.rec (by repeat (first | with_reducible exact Pk.here | with_reducible apply Pk.there)) (by intro _; rfl) (by omega) | exact Rds.flat1 (by repeat (first | with_reducible exact Pk.here | with_reducible apply Pk.there)) (by intro _; rfl) (by omega)) (by rfl)) (by decide) ?_; clear hS; intro aa hS
        refine sB (Bcall hS rfl Try.call13 (Out_ok (k := kj) (hR.pk (r := trieA 69 79 3 _ _ _) (by repeat (first | with_reducible exact Pk.here | with_reducible apply Pk.there))) hkj) (by decide) ?_); clear hS; intro aa ww vv hS hp
        clear hR
        obtain ⟨rfl, hR⟩ := hp
        rw [findV_no hn] at hS; dsimp only [Option.getD, Option.isSome] at hS
        rw [if_neg (by decide)] at hS
        refine sA hS hR (Yld.move hS rfl) (by decide) ?_; clear hS; intro aa hS
        refine sA hS hR (Yld.extract hS rfl rfl) (by decide) ?_; clear hS; intro aa hS
        refine sA hS hR (Yld.extract hS rfl rfl) (by decide) ?_; clear hS; intro aa hS
        refine sA hS hR (Yld.assign hS rfl) (by decide) ?_; clear hS; intro aa hS
        refine sA hS hR (Yld.assign hS rfl) (by decide) ?_; clear hS; intro aa hS
        refine wpList_nil ?_
        refine hK208 _ _ ?_
        refine wp_seq_k ?_; intro K209 hK209
        refine wp_seq_k ?_; intro K210 hK210
        refine wp_region_lit ?_
        refine sA hS hR (Yld.move hS rfl) (by decide) ?_; clear hS; intro aa hS
        replace hS := hS.sayB (t := 85) false rfl (by rfl)
        refine sA hS hR (Yld.move hS rfl) (by decide) ?_; clear hS; intro aa hS
        refine sA hS hR (Yld.eql hS rfl rfl) (by decide) ?_; clear hS; intro aa hS
        replace hS := hS.sayB (t := 87) false rfl (by rfl)
        refine sA hS hR (Yld.neqB hS rfl rfl Try.underlying4) (by decide) ?_; clear hS; intro aa hS
        replace hS := hS.sayB (t := 88) false rfl (by rfl)
        refine sA hS hR (Yld.move hS rfl) (by decide) ?_; clear hS; intro aa hS
        refine sAg hS hR rfl rfl (Yld.move hS rfl) (by decide) ?_; clear hS; intro aa hS
        refine sAg hS hR rfl rfl (Yld.move hS rfl) (by decide) ?_; clear hS; intro aa hS
        refine sAg hS hR rfl rfl (Yld.neq hS rfl rfl) (by decide) ?_; clear hS; intro aa hS
        replace hS := hS.sayB (t := 92) false rfl (by simp)
        refine sA hS hR (Yld.pickF hS rfl rfl) (by decide) ?_; clear hS; intro aa hS
        refine sA hS hR (Yld.move hS rfl) (by decide) ?_; clear hS; intro aa hS
        refine sAg hS hR rfl rfl (Yld.move hS rfl) (by decide) ?_; clear hS; intro aa hS
        replace hS := hS.sayB (t := 95) false rfl (by rfl)
        refine sAg hS hR rfl rfl (Yld.not hS rfl) (by decide) ?_; clear hS; intro aa hS
        refine sAg hS hR rfl rfl (Yld.move hS rfl) (by decide) ?_; clear hS; intro aa hS
        refine sAg hS hR rfl rfl (Yld.move hS rfl) (by decide) ?_; clear hS; intro aa hS
        refine sAg hS hR rfl rfl (Yld.neq hS rfl rfl) (by decide) ?_; clear hS; intro aa hS
        replace hS := hS.sayB (t := 99) false rfl (by rfl)
        refine sAg hS hR rfl rfl (Yld.pickT hS rfl rfl) (by decide) ?_; clear hS; intro aa hS
        refine sA hS hR (Yld.pickF hS rfl rfl) (by decide) ?_; clear hS; intro aa hS
        refine wpList_nil ?_
        refine hK210 _ _ ?_
        refine condF hS rfl ?_
        refine wp_skip ?_
        refine hK209 _ _ ?_
        refine wp_region_lit ?_
        refine sA hS hR (Yld.move hS rfl) (by decide) ?_; clear hS; intro aa hS
        refine sA hS hR (Yld.loadAgg hS rfl Try.underlying34 rfl info34 (by first | exact Rds.cons (Rd.blk (by repeat (first | with_reducible exact Pk.here | with_reducible apply Pk.there)) (by rfl)) (Rds.cons (Rd.blk (by repeat (first | with_reducible exact Pk.here | with_reducible apply Pk.there)) (by rfl)) (Rds.cons (Rd.blk (by repeat (first | with_reducible exact Pk.here | with_reducible apply Pk.there)) (by rfl)) (Rds.cons (Rd.blk (by repeat (first | with_reducible exact Pk.here | with_reducible apply Pk.there)) (by rfl)) (Rds.cons (Rd.blk (by repeat (first | with_reducible exact Pk.here | with_reducible apply Pk.there)) (by rfl)) (Rds.nil))))) | exact Rds.rec (by repeat (first | with_reducible exact Pk.here | with_reducible apply Pk.there)) (by intro _; rfl) (by omega) | exact Rds.flat1 (by repeat (first | with_reducible exact Pk.here | with_reducible apply Pk.there)) (by intro _; rfl) (by omega)) (by rfl)) (by decide) ?_; clear hS; intro aa hS
        refine sB (Bdelete (k := kj) hS hR keyT rfl rfl Try.underlying30 (by repeat (first | with_reducible exact Pk.here | with_reducible apply Pk.there)) (hI.2.1) ?_); clear hR; intro ww hR
        refine wpList_nil ?_
        refine hK192 _ _ ?_
        refine wp_seq_k ?_; intro K211 hK211
        refine wp_region_lit ?_
        refine sA hS hR (Yld.move hS rfl) (by decide) ?_; clear hS; intro aa hS
        refine sB (Bcall hS rfl Try.call14 (TLen_ok (hR.pk (r := trieA 69 79 3 _ _ _) (by repeat (first | with_reducible exact Pk.here | with_reducible apply Pk.there)))) (by decide) ?_); clear hS; intro aa ww vv hS hp
        clear hR
        obtain ⟨rfl, hR⟩ := hp
        refine sA hS hR (Yld.move hS rfl) (by decide) ?_; clear hS; intro aa hS
        refine sA hS hR (Yld.lenMap hS rfl Try.underlying30 (by repeat (first | with_reducible exact Pk.here | with_reducible apply Pk.there))) (by decide) ?_; clear hS; intro aa hS
        refine sA hS hR (Yld.neq hS rfl rfl) (by decide) ?_; clear hS; intro aa hS
        replace hS := hS.sayB (t := 108) false rfl (by simp)
        refine wpList_nil ?_
        refine hK211 _ _ ?_
        refine condF hS rfl ?_
        refine wp_skip ?_
        refine hK189 _ _ ?_
        refine wp_region_lit ?_
        refine sA hS hR ((by first | exact Yld.add64 hS rfl rfl (by omega) | exact Yld.add hS rfl rfl)) (by decide) ?_; clear hS; intro aa hS
        refine sA hS hR (Yld.move hS rfl) (by decide) ?_; clear hS; intro aa hS
        refine wpList_nil ?_
        
        refine ⟨(i + 1, _), ?_, ?_, hS.le (Le.cons rfl (Le.nilapp (Le.cons rfl (Le.cons rfl (Le.cons rfl (Le.cons rfl (Le.cons rfl (Le.cons rfl (Le.nil _))))))))), hR.sub (Ex.take (by repeat (first | with_reducible exact Pk.here | with_reducible apply Pk.there)) (Ex.take (by repeat (first | with_reducible exact Pk.here | with_reducible apply Pk.there)) (Ex.nilapp (by repeat (first | with_reducible exact Ex.refl | (with_reducible apply Ex.take; · repeat (first | with_reducible exact Pk.here | with_reducible apply Pk.there)) | with_reducible apply Ex.drop)))))⟩
        · dsimp only; first | exact ⟨by omega, hI.2.1, by omega⟩ | exact ⟨by omega, nodup_snoc hI.2.1 hn, by rw [List.length_append]; simp; omega⟩ | exact ⟨by omega, nodup_out hI.2.1, by have := outK_le (K := K) (k := kj); omega⟩
        · dsimp only; omega
  · intro hg hS
    refine condF hS rfl ?_
    refine wp_exit ?_
    refine hK184 _ _ ?_
    refine wp_seq_k ?_; intro K212 hK212
    refine wp_seq_k ?_; intro K213 hK213
    refine wp_region_lit ?_
    refine sA hS hR (Yld.move hS rfl) (by decide) ?_; clear hS; intro aa hS
    refine sA hS hR (Yld.build hS rfl (bld34_)) (by decide) ?_; clear hS; intro aa hS
    refine sB (Bcall hS rfl Try.call15 (Example_ok hR) (by decide) ?_); clear hS; intro aa ww vv hS hp
    clear hR
    obtain ⟨rfl, hR⟩ := hp
    refine sB (BbuildSlice hS hR rfl (bls24_2_0_1 _ _ _ _ _ _ _ _ _ _) (by decide) ?_); clear hS hR; intro aa ww bb113 hS hR
    replace hR := hR.pk (r := blk bb113 _ _) (by repeat (first | with_reducible exact Pk.here | with_reducible apply Pk.there))
    replace hR := Sep.toRecs (m := 2) (sz := 5) (enc := eK) ([((0, 0, 0, 0, 0) : Ky), exK]) hR rfl (by intro _; rfl) rfl
    refine sB (BappendR (sz := 5) hS hR rfl rfl Try.underlying24 info34 rfl rfl (by rfl) (by repeat (first | with_reducible exact Pk.here | with_reducible apply Pk.there)) (XC.all (by repeat (first | with_reducible exact Pk.here | with_reducible apply Pk.there))) (by intro _; rfl) (by show (_ + _) * 16 ≤ _; first | omega | (simp only [List.length_take, List.length_append, List.length_drop, List.length_cons, List.length_nil, List.length_map]; omega)) (by first | omega | (simp only [List.length_take, List.length_append, List.length_drop, List.length_cons, List.length_nil, List.length_map]; omega)) (by first | rfl | (simp; done) | (simp; omega)) (by decide) ?_); clear hS hR; intro aa ww r114 c114 hS hR
    obtain ⟨ks2, hks2⟩ : ∃ y, ks ++ [((0, 0, 0, 0, 0) : Ky), exK] = y := ⟨_, rfl⟩
    have hks2l : ks2.length = ks.length + 2 := by rw [← hks2]; simp
    rw [hks2] at hS hR
    have hall2 : ∀ k ∈ ks2, WfK k := by
      rw [← hks2]
      intro k hk
      rcases List.mem_append.1 hk with h | h
      · exact hkw _ h
      · simp only [List.mem_cons, List.not_mem_nil, or_false] at h
        rcases h with rfl | rfl
        · exact wfk0
        · exact wfEx
    refine sA hS hR (Yld.len hS rfl Try.underlying24) (by decide) ?_; clear hS; intro aa hS
    refine sA hS hR (Yld.move hS rfl) (by decide) ?_; clear hS; intro aa hS
    refine wpList_nil ?_
    refine hK213 _ _ ?_
    refine wp_block ?_
    refine loopI (X := Nat) [(6, _), (8, _), (114, _), (115, _)] (fun x => [(116, .int .i64 (x : Int))]) (fun x => []) _ (fun x => x ≤ ks2.length) (fun x => ks2.length - x) 0 (Nat.zero_le _) (hS.le (Le.cons rfl (Le.nilapp (Le.cons rfl (Le.cons rfl (Le.cons rfl (Le.cons rfl (Le.nil _)))))))) hR ?_
    clear hS hR; rintro i aa ww hI hS hR; dsimp only [List.cons_append, List.nil_append] at hI hS hR
    refine wp_seq_k ?_; intro K215 hK215
    refine wp_region_lit ?_
    refine sA hS hR (Yld.lss hS rfl rfl) (by decide) ?_; clear hS; intro aa hS
    refine wpList_nil ?_
    refine hK215 _ _ ?_
    refine wp_seq_k ?_; intro K216 hK216
    refine hS.splitB (t := 117) rfl ?_ ?_ <;> clear hS
    · intro hg hS
      refine condT hS rfl ?_
      refine wp_skip ?_
      refine hK216 _ _ ?_
      refine wp_seq_k ?_; intro K217 hK217
      refine wp_block ?_
      refine wp_seq_k ?_; intro K218 hK218
      refine wp_region_lit ?_
      refine sA hS hR ((by first | exact Yld.indexL (sz := 5) _ hS rfl rfl Try.underlying24 info34 (by repeat (first | with_reducible exact Pk.here | with_reducible apply Pk.there)) rfl rfl (by omega) | exact Yld.indexB (sz := 5) _ hS rfl rfl Try.underlying24 info34 rfl rfl (by omega) | exact Yld.indexSlice hS rfl rfl Try.underlying24 info34 (by omega) (by omega))) (by decide) ?_; clear hS; intro aa hS
      refine sA hS hR (Yld.loadAgg hS rfl Try.underlying34 rfl info34 (by first | exact Rds.cons (Rd.blk (by repeat (first | with_reducible exact Pk.here | with_reducible apply Pk.there)) (by rfl)) (Rds.cons (Rd.blk (by repeat (first | with_reducible exact Pk.here | with_reducible apply Pk.there)) (by rfl)) (Rds.cons (Rd.blk (by repeat (first | with_reducible exact Pk.here | with_reducible apply Pk.there)) (by rfl)) (Rds.cons (Rd.blk (by repeat (first | with_reducible exact Pk.here | with_reducible apply Pk.there)) (by rfl)) (Rds.cons (Rd.blk (by repeat (first | with_reducible exact Pk.here | with_reducible apply Pk.there)) (by rfl)) (Rds.nil))))) | exact Rds.rec (by repeat (first | with_reducible exact Pk.here | with_reducible apply Pk.there)) (by intro _; rfl) (by omega) | exact Rds.flat1 (by repeat (first | with_reducible exact Pk.here | with_reducible apply Pk.there)) (by intro _; rfl) (by omega)) (by rfl)) (by decide) ?_; clear hS; intro aa hS
      obtain ⟨kj, hkje⟩ : ∃ y : Ky, ks2[i] = y := ⟨_, rfl⟩
      have hkj : WfK kj := by rw [← hkje]; exact hall2 _ (List.getElem_mem _)
      replace hS := hS.say (t := 119) (vK kj) rfl (by rw [hkje])
      refine sB (Balloc hS hR info34 (by rfl) (by rfl) (by decide) ?_); clear hS hR; intro aa ww bb17 hS hR
      refine sB (Bstore hS hR rfl rfl (by rfl) info34 (by rfl) (by repeat (first | with_reducible exact Pk.here | with_reducible apply Pk.there)) (by rfl) (Nat.le_of_ble_eq_true rfl) ?_); clear hR; intro ww hR
      refine wpList_nil ?_
      refine hK218 _ _ ?_
      refine wp_seq_k ?_; intro K219 hK219
      refine wp_region_lit ?_
      refine sA hS hR (Yld.move hS rfl) (by decide) ?_; clear hS; intro aa hS
      refine sA hS hR (Yld.loadAgg hS rfl Try.underlying34 rfl info34 (by first | exact Rds.cons (Rd.blk (by repeat (first | with_reducible exact Pk.here | with_reducible apply Pk.there)) (by rfl)) (Rds.cons (Rd.blk (by repeat (first | with_reducible exact Pk.here | with_reducible apply Pk.there)) (by rfl)) (Rds.cons (Rd.blk (by repeat (first | with_reducible exact Pk.here | with_reducible apply Pk.there)) (by rfl)) (Rds.cons (Rd.blk (by repeat (first | with_reducible exact Pk.here | with_reducible apply Pk.there)) (by rfl)) (Rds.cons (Rd.blk (by repeat (first | with_reducible exact Pk.here | with_reducible apply Pk.there)) (by rfl)) (Rds.nil))))) | exact Rds.rec (by repeat (first | with_reducible exact Pk.here | with_reducible apply Pk.there)) (by intro _; rfl) (by omega) | exact Rds.flat1 (by repeat (first | with_reducible exact Pk.here | with_reducible apply Pk.there)) (by intro _; rfl) (by omega)) (by rfl)) (by decide) ?_; clear hS; intro aa hS
      refine sB (Bcall hS rfl Try.call16 (Get_ok (k := kj) (hR.pk (r := trieA 69 79 3 _ _ _) (by repeat (first | with_reducible exact Pk.here | with_reducible apply Pk.there))) hkj) (by decide) ?_); clear hS; intro aa ww vv hS hp
      clear hR
      obtain ⟨rfl, hR⟩ := hp
      refine sA hS hR (Yld.move hS rfl) (by decide) ?_; clear hS; intro aa hS
      refine sA hS hR (Yld.extract hS rfl rfl) (by decide) ?_; clear hS; intro aa hS
      refine sA hS hR (Yld.extract hS rfl rfl) (by decide) ?_; clear hS; intro aa hS
      refine sA hS hR (Yld.assign hS rfl) (by decide) ?_; clear hS; intro aa hS
      refine sA hS hR (Yld.assign hS rfl) (by decide) ?_; clear hS; intro aa hS
      refine wpList_nil ?_
      refine hK219 _ _ ?_
      refine wp_seq_k ?_; intro K220 hK220
      refine wp_region_lit ?_
      refine sA hS hR (Yld.move hS rfl) (by decide) ?_; clear hS; intro aa hS
      refine sA hS hR (Yld.loadAgg hS rfl Try.underlying34 rfl info34 (by first | exact Rds.cons (Rd.blk (by repeat (first | with_reducible exact Pk.here | with_reducible apply Pk.there)) (by rfl)) (Rds.cons (Rd.blk (by repeat (first | with_reducible exact Pk.here | with_reducible apply Pk.there)) (by rfl)) (Rds.cons (Rd.blk (by repeat (first | with_reducible exact Pk.here | with_reducible apply Pk.there)) (by rfl)) (Rds.cons (Rd.blk (by repeat (first | with_reducible exact Pk.here | with_reducible apply Pk.there)) (by rfl)) (Rds.cons (Rd.blk (by repeat (first | with_reducible exact Pk.here | with_reducible apply Pk.there)) (by rfl)) (Rds.nil))))) | exact Rds.rec (by repeat (first | with_reducible exact Pk.here | with_reducible apply Pk.there)) (by intro _; rfl) (by omega) | exact Rds.flat1 (by repeat (first | with_reducible exact Pk.here | with_reducible apply Pk.there)) (by intro _; rfl) (by omega)) (by rfl)) (by decide) ?_; clear hS; intro aa hS
      refine sA hS hR (Yld.lookup (k := kj) hS keyT rfl rfl Try.underlying30 zero3 (by repeat (first | with_reducible exact Pk.here | with_reducible apply Pk.there))) (by decide) ?_; clear hS; intro aa hS
      refine sA hS hR (Yld.move hS rfl) (by decide) ?_; clear hS; intro aa hS
      refine sA hS hR (Yld.extract hS rfl rfl) (by decide) ?_; clear hS; intro aa hS
      refine sA hS hR (Yld.extract hS rfl rfl) (by decide) ?_; clear hS; intro aa hS
      refine sA hS hR (Yld.assign hS rfl) (by decide) ?_; clear hS; intro aa hS
      refine sA hS hR (Yld.assign hS rfl) (by decide) ?_; clear hS; intro aa hS
      refine wpList_nil ?_
      refine hK220 _ _ ?_
      refine wp_seq_k ?_; intro K221 hK221
      refine wp_region_lit ?_
      refine sA hS hR (Yld.move hS rfl) (by decide) ?_; clear hS; intro aa hS
      refine sA hS hR (Yld.move hS rfl) (by decide) ?_; clear hS; intro aa hS
      refine sA hS hR (Yld.neqB hS rfl rfl Try.underlying4) (by decide) ?_; clear hS; intro aa hS
      replace hS := hS.sayB (t := 134) false rfl (by simp)
      refine sA hS hR (Yld.move hS rfl) (by decide) ?_; clear hS; intro aa hS
      refine sAg hS hR rfl rfl (Yld.move hS rfl) (by decide) ?_; clear hS; intro aa hS
      refine sAg hS hR rfl rfl (Yld.move hS rfl) (by decide) ?_; clear hS; intro aa hS
      refine sAg hS hR rfl rfl (Yld.neq hS rfl rfl) (by decide) ?_; clear hS; intro aa hS
      replace hS := hS.sayB (t := 138) false rfl (by simp)
      refine sA hS hR (Yld.pickF hS rfl rfl) (by decide) ?_; clear hS; intro aa hS
      refine wpList_nil ?_
      refine hK221 _ _ ?_
      refine condF hS rfl ?_
      refine wp_skip ?_
      refine hK217 _ _ ?_
      refine wp_region_lit ?_
      refine sA hS hR ((by first | exact Yld.add64 hS rfl rfl (by omega) | exact Yld.add hS rfl rfl)) (by decide) ?_; clear hS; intro aa hS
      refine sA hS hR (Yld.move hS rfl) (by decide) ?_; clear hS; intro aa hS
      refine wpList_nil ?_
      
      refine ⟨i + 1, ?_, ?_, hS.le (Le.cons rfl (Le.nilapp (Le.cons rfl (Le.cons rfl (Le.cons rfl (Le.cons rfl (Le.nil _))))))), hR.sub (Ex.nilapp (by repeat (first | with_reducible exact Ex.refl | (with_reducible apply Ex.take; · repeat (first | with_reducible exact Pk.here | with_reducible apply Pk.there)) | with_reducible apply Ex.drop)))⟩
      · omega
      · omega
    · intro hg hS
      refine condF hS rfl ?_
      refine wp_exit ?_
      refine hK212 _ _ ?_
      refine wp_seq_k ?_; intro K222 hK222
      refine wp_region_lit ?_
      refine sB (Bcall hS rfl Try.call17 (awake_ok hR) (by decide) ?_); clear hS; intro aa ww vv hS hp
      clear hR
      obtain ⟨rfl, hR⟩ := hp
      refine sA hS hR (Yld.assign hS rfl) (by decide) ?_; clear hS; intro aa hS
      refine wpList_nil ?_
      refine hK222 _ _ ?_
      refine wp_ret ?_
      repeat (first | with_reducible refine thenR ?_ | with_reducible refine blockR ?_ | with_reducible refine scopeR ?_)
      refine ret1 (fn := Try.f3) (e := .ret) (.inl rfl) Try.results3 hS hR ⟨_, (.tmp rfl), ?_⟩
      exact ⟨rfl, (hR.sub (by repeat (first | with_reducible exact Ex.refl | (with_reducible apply Ex.take; · repeat (first | with_reducible exact Pk.here | with_reducible apply Pk.there)) | with_reducible apply Ex.drop)))⟩
end Go.Proofs.Ytmcfmhiadlkglaa.Sx
