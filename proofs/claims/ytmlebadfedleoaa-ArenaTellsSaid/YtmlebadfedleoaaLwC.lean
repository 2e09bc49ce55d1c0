/-
  
-/
import Derived.Test.YtmlebadfedleoaaLwB
import Derived.Test.YtmlebadfedleoaaArLaw2
import Derived.Test.YtmlebadfedleoaaArgs
namespace Go.Proofs.Ytmlebadfedleoaa.Sx
open Go
set_option linter.unusedVariables false
set_option linter.unusedSimpArgs false

theorem bls27_0_  (w : World) : (Instr.buildSlice 27 0 [].toArray).run Try.prog w = .ok (.slice (some ⟨w.heap.size, 0, none⟩) 0 0) (w.alloc (.cells ([] : List Value).toArray 29)) := by kernel_rfl
theorem neq29 (o1 o2 : Operand) (x_0 : Int) (x_1 : Int) (y_0 : Int) (y_1 : Int) (w : World) : (do eqGuard .neq 29 o1 o2 (.agg [.int .i64 x_0, .int .i64 x_1].toArray) (.agg [.int .i64 y_0, .int .i64 y_1].toArray); binOp .neq 29 (.agg [.int .i64 x_0, .int .i64 x_1].toArray) (.agg [.int .i64 y_0, .int .i64 y_1].toArray) : Sem Value).run Try.prog w = .ok (.bool (!decide (x_0 = y_0 ∧ x_1 = y_1))) w := by
  by_cases h0 : x_0 = y_0
  · skip
    by_cases h1 : x_1 = y_1
    · simp [go_sem, h0, h1]
    · simp [go_sem, h0, h1]
  · simp [go_sem, h0]

set_option maxHeartbeats 4000000 in
set_option maxRecDepth 20000 in
theorem ArenaLast_ok {W : World} {a : Int} {q : Option Addr} {n c : Nat} {xs : List (List Int)} (A1 : ArgS W [.u8] q n c xs) {l : List HP} {w : World} (hR : Sep (old W :: l) w) (ha : 0 ≤ a ∧ a ≤ 255) : CallR Try.prog 3 [.int .u8 a, .slice q n c] w (fun v w' => v = .bool true ∧ Sep (old W :: l) w') := by
  refine enter Try.func3 rfl Try.ntmps3 (Nat.le_of_ble_eq_true rfl) ?_; intro aa hS
  have hcap := A1.cap
  refine wp_seq_k ?_; intro K307 hK307
  refine wp_region_lit ?_
  refine sA hS hR (Yld.assign hS rfl) (by decide) ?_; clear hS; intro aa hS
  refine wpList_nil ?_
  refine hK307 _ _ ?_
  refine wp_seq_k ?_; intro K308 hK308
  refine wp_region_lit ?_
  refine sA hS hR (Yld.move hS rfl) (by decide) ?_; clear hS; intro aa hS
  refine sA hS hR ((by first | exact Yld.to (Yld.convInt hS rfl rfl Try.underlying3) (congrArg (Value.int .i64) (IntWalk.i64_in _ (by omega))) | exact Yld.convInt hS rfl rfl Try.underlying3)) (by decide) ?_; clear hS; intro aa hS
  refine sA hS hR ((by first | exact Yld.rem64 hS rfl rfl (by omega) | exact Yld.rem hS rfl rfl (by omega))) (by decide) ?_; clear hS; intro aa hS
  refine sA hS hR ((by first | exact Yld.add64 hS rfl rfl (by omega) | exact Yld.add hS rfl rfl)) (by decide) ?_; clear hS; intro aa hS
  obtain ⟨m, hm, bm⟩ : ∃ y : Nat, 1 + a % 16 = (y : Int) ∧ 1 ≤ y ∧ y ≤ 16 := ⟨(1 + a % 16).toNat, by omega, by omega⟩
  replace hS := hS.say (t := 24) (.int .i64 (m : Int)) rfl (by rw [hm])
  refine sA hS hR (Yld.assign hS rfl) (by decide) ?_; clear hS; intro aa hS
  refine wpList_nil ?_
  refine hK308 _ _ ?_
  refine wp_seq_k ?_; intro K309 hK309
  refine wp_region_lit ?_
  refine sA hS hR (Yld.move hS rfl) (by decide) ?_; clear hS; intro aa hS
  refine sB (Bcall hS rfl Try.call9 (New_ok hR (by omega)) (by decide) ?_); clear hS; intro aa ww vv hS hp
  clear hR
  obtain ⟨b, rfl, hR⟩ := hp
  rw [Int.toNat_natCast] at hR
  refine sA hS hR (Yld.move hS rfl) (by decide) ?_; clear hS; intro aa hS
  refine sA hS hR (Yld.extract hS rfl rfl) (by decide) ?_; clear hS; intro aa hS
  refine sA hS hR (Yld.extract hS rfl rfl) (by decide) ?_; clear hS; intro aa hS
  refine sA hS hR (Yld.assign hS rfl) (by decide) ?_; clear hS; intro aa hS
  refine sA hS hR (Yld.assign hS rfl) (by decide) ?_; clear hS; intro aa hS
  refine wpList_nil ?_
  refine hK309 _ _ ?_
  refine wp_seq_k ?_; intro K310 hK310
  refine wp_seq_k ?_; intro K311 hK311
  refine wp_region_lit ?_
  refine sA hS hR (Yld.move hS rfl) (by decide) ?_; clear hS; intro aa hS
  refine sA hS hR (Yld.neq hS rfl rfl) (by decide) ?_; clear hS; intro aa hS
  replace hS := hS.sayB (t := 31) false rfl (by simp)
  refine sA hS hR (Yld.move hS rfl) (by decide) ?_; clear hS; intro aa hS
  refine sAg hS hR rfl rfl (Yld.move hS rfl) (by decide) ?_; clear hS; intro aa hS
  refine sAg hS hR rfl rfl (Yld.eqlNil hS rfl rfl Try.underlying23) (by decide) ?_; clear hS; intro aa hS
  replace hS := hS.sayB (t := 34) false rfl (by simp)
  refine sA hS hR (Yld.pickF hS rfl rfl) (by decide) ?_; clear hS; intro aa hS
  refine wpList_nil ?_
  refine hK311 _ _ ?_
  refine condF hS rfl ?_
  refine wp_skip ?_
  refine hK310 _ _ ?_
  refine wp_seq_k ?_; intro K312 hK312
  refine wp_region_lit ?_
  refine sA hS hR (Yld.assign hS rfl) (by decide) ?_; clear hS; intro aa hS
  refine wpList_nil ?_
  refine hK312 _ _ ?_
  refine wp_seq_k ?_; intro K313 hK313
  refine wp_seq_k ?_; intro K314 hK314
  refine wp_region_lit ?_
  refine sA hS hR (Yld.move hS rfl) (by decide) ?_; clear hS; intro aa hS
  refine sA hS hR (Yld.move hS rfl) (by decide) ?_; clear hS; intro aa hS
  refine wpList_nil ?_
  refine hK314 _ _ ?_
  refine wp_block ?_
  replace hR := hR.slsNil (T := 29) (sz := 2)
  replace hR := hR.pk (r := sls none 0 0 29 2 []) (by repeat (first | with_reducible exact Pk.here | with_reducible apply Pk.there))
  replace hR := hR.pk (r := arena 57 60 b (Ar.new m)) (by repeat (first | with_reducible exact Pk.here | with_reducible apply Pk.there))
  refine loopI (X := Nat × Option Addr × Nat) [(1, _), (6, _), (36, _)] (fun x => [(8, .slice x.2.1 (hs1 x.1).length x.2.2), (37, .int .i64 (x.1 : Int))]) (fun x => [arena 57 60 b ((Ar.new m).takes x.1), sls x.2.1 (hs1 x.1).length x.2.2 29 2 ((hs1 x.1).flatMap e2)]) _ (fun x => x.1 ≤ m) (fun x => m - x.1) (0, none, 0) (Nat.zero_le _) (hS.le (Le.cons rfl (Le.cons rfl (Le.nilapp (Le.cons rfl (Le.cons rfl (Le.cons rfl (Le.nil _)))))))) hR ?_
  clear hS hR; rintro ⟨k, r0, c0⟩ aa ww hI hS hR; dsimp only [List.cons_append, List.nil_append] at hI hS hR
  have hkn : (hs1 k).length = k := by simp [hs1]
  refine wp_seq_k ?_; intro K316 hK316
  refine wp_region_lit ?_
  refine sA hS hR (Yld.lss hS rfl rfl) (by decide) ?_; clear hS; intro aa hS
  refine wpList_nil ?_
  refine hK316 _ _ ?_
  refine wp_seq_k ?_; intro K317 hK317
  refine hS.splitB (t := 38) rfl ?_ ?_ <;> clear hS
  · intro hg hS
    refine condT hS rfl ?_
    refine wp_skip ?_
    refine hK317 _ _ ?_
    refine wp_seq_k ?_; intro K318 hK318
    refine wp_block ?_
    refine wp_seq_k ?_; intro K319 hK319
    refine wp_region_lit ?_
    refine sA hS hR (Yld.move hS rfl) (by decide) ?_; clear hS; intro aa hS
    refine sA hS hR (Yld.assign hS rfl) (by decide) ?_; clear hS; intro aa hS
    refine wpList_nil ?_
    refine hK319 _ _ ?_
    refine wp_seq_k ?_; intro K320 hK320
    refine wp_region_lit ?_
    refine sA hS hR (Yld.move hS rfl) (by decide) ?_; clear hS; intro aa hS
    refine sB (Bcall hS rfl Try.call10 (Take_okA (hR.pk (r := arena 57 60 _ _) (by repeat (first | with_reducible exact Pk.here | with_reducible apply Pk.there)))) (by decide) ?_); clear hS; intro aa ww vv hS hp
    clear hR
    obtain ⟨rfl, hR⟩ := hp
    rw [takes_top (by omega)] at hS; dsimp only at hS
    change Sep (arena 57 60 b ((Ar.new m).takes (k + 1)) :: _) _ at hR
    refine sA hS hR (Yld.move hS rfl) (by decide) ?_; clear hS; intro aa hS
    refine sA hS hR (Yld.extract hS rfl rfl) (by decide) ?_; clear hS; intro aa hS
    refine sA hS hR (Yld.extract hS rfl rfl) (by decide) ?_; clear hS; intro aa hS
    refine sB (Balloc hS hR info29 (by rfl) (by rfl) (by decide) ?_); clear hS hR; intro aa ww bb10 hS hR
    refine sB (Bstore hS hR rfl rfl (by rfl) info29 (by rfl) (by repeat (first | with_reducible exact Pk.here | with_reducible apply Pk.there)) (by rfl) (Nat.le_of_ble_eq_true rfl) ?_); clear hR; intro ww hR
    refine sA hS hR (Yld.assign hS rfl) (by decide) ?_; clear hS; intro aa hS
    refine wpList_nil ?_
    refine hK320 _ _ ?_
    refine wp_seq_k ?_; intro K321 hK321
    refine wp_seq_k ?_; intro K322 hK322
    refine wp_region_lit ?_
    refine sA hS hR (Yld.move hS rfl) (by decide) ?_; clear hS; intro aa hS
    refine sA hS hR (Yld.neq hS rfl rfl) (by decide) ?_; clear hS; intro aa hS
    replace hS := hS.sayB (t := 46) false rfl (by simp)
    refine sA hS hR (Yld.move hS rfl) (by decide) ?_; clear hS; intro aa hS
    refine sAg hS hR rfl rfl (Yld.loadAgg hS rfl Try.underlying29 rfl info29 (by first | exact Rds.cons (Rd.blk (by repeat (first | with_reducible exact Pk.here | with_reducible apply Pk.there)) (by rfl)) (Rds.cons (Rd.blk (by repeat (first | with_reducible exact Pk.here | with_reducible apply Pk.there)) (by rfl)) (Rds.nil)) | exact Rds.rec (by repeat (first | with_reducible exact Pk.here | with_reducible apply Pk.there)) (by intro _; rfl) (by omega) | exact Rds.flat1 (by repeat (first | with_reducible exact Pk.here | with_reducible apply Pk.there)) (by intro _; rfl) (by omega)) (by rfl)) (by decide) ?_; clear hS; intro aa hS
    refine sAg hS hR rfl rfl (Yld.move hS rfl) (by decide) ?_; clear hS; intro aa hS
    refine sAg hS hR rfl rfl (Yld.build hS rfl (bld29_0 _)) (by decide) ?_; clear hS; intro aa hS
    refine sAg hS hR rfl rfl (Yld.binRun hS rfl rfl (neq29 _ _ _ _ _ _)) (by decide) ?_; clear hS; intro aa hS
    replace hS := hS.sayB (t := 51) false rfl (by simp)
    refine sA hS hR (Yld.pickF hS rfl rfl) (by decide) ?_; clear hS; intro aa hS
    refine wpList_nil ?_
    refine hK322 _ _ ?_
    refine condF hS rfl ?_
    refine wp_skip ?_
    refine hK321 _ _ ?_
    refine wp_region_lit ?_
    refine sA hS hR (Yld.move hS rfl) (by decide) ?_; clear hS; intro aa hS
    refine sA hS hR (Yld.loadAgg hS rfl Try.underlying29 rfl info29 (by first | exact Rds.cons (Rd.blk (by repeat (first | with_reducible exact Pk.here | with_reducible apply Pk.there)) (by rfl)) (Rds.cons (Rd.blk (by repeat (first | with_reducible exact Pk.here | with_reducible apply Pk.there)) (by rfl)) (Rds.nil)) | exact Rds.rec (by repeat (first | with_reducible exact Pk.here | with_reducible apply Pk.there)) (by intro _; rfl) (by omega) | exact Rds.flat1 (by repeat (first | with_reducible exact Pk.here | with_reducible apply Pk.there)) (by intro _; rfl) (by omega)) (by rfl)) (by decide) ?_; clear hS; intro aa hS
    refine sB (BbuildSlice hS hR rfl (bls27_1_0 _ _) (by decide) ?_); clear hS hR; intro aa ww bb55 hS hR
    refine sB (BappendR (sz := 2) hS hR rfl rfl Try.underlying27 info29 rfl rfl (by rfl) (by repeat (first | with_reducible exact Pk.here | with_reducible apply Pk.there)) (XC.one (((k : Int), (0 : Int))) (by repeat (first | with_reducible exact Pk.here | with_reducible apply Pk.there)) (by rfl) rfl) (by intro _; rfl) (by show (_ + _) * 16 ≤ _; first | omega | (simp only [List.length_take, List.length_append, List.length_drop, List.length_cons, List.length_nil, List.length_map]; omega)) (by first | omega | (simp only [List.length_take, List.length_append, List.length_drop, List.length_cons, List.length_nil, List.length_map]; omega)) (by first | rfl | (simp; done) | (simp; omega)) (by decide) ?_); clear hS hR; intro aa ww r56 c56 hS hR
    rw [← hs1_succ] at hS hR
    refine sA hS hR (Yld.assign hS rfl) (by decide) ?_; clear hS; intro aa hS
    refine wpList_nil ?_
    refine hK318 _ _ ?_
    refine wp_region_lit ?_
    refine sA hS hR ((by first | exact Yld.add64 hS rfl rfl (by omega) | exact Yld.add hS rfl rfl)) (by decide) ?_; clear hS; intro aa hS
    refine sA hS hR (Yld.move hS rfl) (by decide) ?_; clear hS; intro aa hS
    refine wpList_nil ?_
    
    refine ⟨(k + 1, _, _), ?_, ?_, hS.le (Le.cons rfl (Le.cons rfl (Le.nilapp (Le.cons rfl (Le.cons rfl (Le.cons rfl (Le.nil _))))))), hR.sub (Ex.take (by repeat (first | with_reducible exact Pk.here | with_reducible apply Pk.there)) (Ex.take (by repeat (first | with_reducible exact Pk.here | with_reducible apply Pk.there)) (Ex.nilapp (by repeat (first | with_reducible exact Ex.refl | (with_reducible apply Ex.take; · repeat (first | with_reducible exact Pk.here | with_reducible apply Pk.there)) | with_reducible apply Ex.drop)))))⟩
    · dsimp only; omega
    · dsimp only; omega
  · intro hg hS
    obtain rfl : m = k := by omega
    refine condF hS rfl ?_
    refine wp_exit ?_
    refine hK313 _ _ ?_
    refine wp_seq_k ?_; intro K323 hK323
    refine wp_region_lit ?_
    refine sA hS hR (Yld.assign hS rfl) (by decide) ?_; clear hS; intro aa hS
    refine wpList_nil ?_
    refine hK323 _ _ ?_
    refine wp_seq_k ?_; intro K324 hK324
    refine wp_seq_k ?_; intro K325 hK325
    refine wp_region_lit ?_
    refine sA hS hR (Yld.move hS rfl) (by decide) ?_; clear hS; intro aa hS
    refine sA hS hR (Yld.move hS rfl) (by decide) ?_; clear hS; intro aa hS
    refine sA hS hR (Yld.len hS rfl Try.underlying22) (by decide) ?_; clear hS; intro aa hS
    refine sA hS hR (Yld.min hS rfl rfl) (by decide) ?_; clear hS; intro aa hS
    refine sA hS hR (Yld.sliceHi hS rfl rfl Try.underlying22 info5 (by omega) (by omega)) (by decide) ?_; clear hS; intro aa hS
    obtain ⟨mm, hmm0, hmm1⟩ : ∃ y : Nat, (Min.min (n : Int) 16).toNat = y ∧ y ≤ n ∧ y ≤ 16 := ⟨_, rfl, by omega, by omega⟩
    replace hS := hS.say (t := 62) (.slice q mm c) rfl (by rw [hmm0])
    refine sA hS hR (Yld.len hS rfl Try.underlying22) (by decide) ?_; clear hS; intro aa hS
    refine sA hS hR (Yld.move hS rfl) (by decide) ?_; clear hS; intro aa hS
    refine wpList_nil ?_
    refine hK325 _ _ ?_
    refine wp_block ?_
    replace hR := hR.slsNil (T := 29) (sz := 2)
    replace hR := hR.pk (r := sls none 0 0 29 2 []) (by repeat (first | with_reducible exact Pk.here | with_reducible apply Pk.there))
    replace hR := hR.pk (r := sls r0 (hs1 m).length c0 29 2 ((hs1 m).flatMap e2)) (by repeat (first | with_reducible exact Pk.here | with_reducible apply Pk.there))
    replace hR := hR.pk (r := arena 57 60 b ((Ar.new m).takes m)) (by repeat (first | with_reducible exact Pk.here | with_reducible apply Pk.there))
    refine loopI (X := Nat × Ar × List (Int × Int) × List (Int × Int) × (Option Addr × Nat) × (Option Addr × Nat)) [(6, _), (62, _), (63, _)] (fun x => [(8, .slice x.2.2.2.2.1.1 x.2.2.1.length x.2.2.2.2.1.2), (12, .slice x.2.2.2.2.2.1 x.2.2.2.1.length x.2.2.2.2.2.2), (64, .int .i64 (x.1 : Int))]) (fun x => [arena 57 60 b x.2.1, sls x.2.2.2.2.1.1 x.2.2.1.length x.2.2.2.2.1.2 29 2 (x.2.2.1.flatMap e2), sls x.2.2.2.2.2.1 x.2.2.2.1.length x.2.2.2.2.2.2 29 2 (x.2.2.2.1.flatMap e2)]) _ (fun x => x.1 ≤ mm ∧ Gv x.2.1 m x.2.2.1 x.2.2.2.1 ∧ x.2.2.2.1.length ≤ x.1) (fun x => mm - x.1) (0, (Ar.new m).takes m, hs1 m, [], (r0, c0), (none, 0)) ⟨Nat.zero_le _, Gv.start (by omega) (by omega), Nat.le_refl _⟩ (hS.le (Le.cons rfl (Le.cons rfl (Le.cons rfl (Le.nilapp (Le.cons rfl (Le.cons rfl (Le.cons rfl (Le.nil _))))))))) hR ?_
    clear hS hR; rintro ⟨j, A, live, given, ⟨r1, c1⟩, ⟨r2, c2⟩⟩ aa ww hI hS hR; dsimp only [List.cons_append, List.nil_append] at hI hS hR
    have hall := hI.2.1.lv.all
    refine wp_seq_k ?_; intro K327 hK327
    refine wp_region_lit ?_
    refine sA hS hR (Yld.lss hS rfl rfl) (by decide) ?_; clear hS; intro aa hS
    refine wpList_nil ?_
    refine hK327 _ _ ?_
    refine wp_seq_k ?_; intro K328 hK328
    refine hS.splitB (t := 65) rfl ?_ ?_ <;> clear hS
    · intro hg hS
      refine condT hS rfl ?_
      refine wp_skip ?_
      refine hK328 _ _ ?_
      refine wp_seq_k ?_; intro K329 hK329
      refine wp_block ?_
      refine wp_seq_k ?_; intro K330 hK330
      refine wp_region_lit ?_
      obtain ⟨ba, ia, ns, hq, hx, hl, hw, hc⟩ := A1.at (k := j) (by omega)
      obtain ⟨s0, rfl⟩ := len1 hl
      subst hq
      have hs0 : 0 ≤ s0 ∧ s0 ≤ 255 := hw.1
      refine sA hS hR ((by first | exact Yld.indexL (sz := 1) _ hS rfl rfl Try.underlying22 info5 (by repeat (first | with_reducible exact Pk.here | with_reducible apply Pk.there)) rfl rfl (by omega) | exact Yld.indexB (sz := 1) _ hS rfl rfl Try.underlying22 info5 rfl rfl (by omega) | exact Yld.indexSlice hS rfl rfl Try.underlying22 info5 (by omega) (by omega))) (by decide) ?_; clear hS; intro aa hS
      refine sA hS hR (Yld.load1 hS rfl Try.underlying5 rfl (Rds.rd (Rds.at (Rds.old (by repeat (first | with_reducible exact Pk.here | with_reducible apply Pk.there)) hc) (by rfl)) (by rfl))) (by decide) ?_; clear hS; intro aa hS
      refine sA hS hR (Yld.assign hS rfl) (by decide) ?_; clear hS; intro aa hS
      refine wpList_nil ?_
      refine hK330 _ _ ?_
      refine wp_seq_k ?_; intro K331 hK331
      refine wp_seq_k ?_; intro K332 hK332
      refine wp_region_lit ?_
      refine sA hS hR (Yld.move hS rfl) (by decide) ?_; clear hS; intro aa hS
      refine sA hS hR (Yld.len hS rfl Try.underlying27) (by decide) ?_; clear hS; intro aa hS
      refine sA hS hR (Yld.eql hS rfl rfl) (by decide) ?_; clear hS; intro aa hS
      refine wpList_nil ?_
      refine hK332 _ _ ?_
      refine hS.splitB (t := 70) rfl ?_ ?_ <;> clear hS
      · intro hg hS
        refine condT hS rfl ?_
        refine wp_exit ?_
        refine hK324 _ _ ?_
        refine wp_seq_k ?_; intro K333 hK333
        refine wp_seq_k ?_; intro K334 hK334
        refine wp_region_lit ?_
        refine sA hS hR (Yld.move hS rfl) (by decide) ?_; clear hS; intro aa hS
        refine sA hS hR (Yld.len hS rfl Try.underlying27) (by decide) ?_; clear hS; intro aa hS
        refine sA hS hR ((by first | exact Yld.sub64 hS rfl rfl (by omega) | exact Yld.sub hS rfl rfl)) (by decide) ?_; clear hS; intro aa hS
        refine sA hS hR (Yld.assign hS rfl) (by decide) ?_; clear hS; intro aa hS
        refine wpList_nil ?_
        refine hK334 _ _ ?_
        refine wp_block ?_
        replace hR := hR.pk (r := arena 57 60 b A) (by repeat (first | with_reducible exact Pk.here | with_reducible apply Pk.there))
        refine loopI (X := Nat × Ar) [(6, _), (12, _)] (fun x => [(16, .int .i64 ((x.1 : Int) - 1))]) (fun x => [arena 57 60 b x.2]) _ (fun x => x.1 ≤ given.length ∧ Bk x.2 given x.1) (fun x => x.1) (given.length, A) ⟨Nat.le_refl _, hI.2.1.bk⟩ (hS.le (Le.cons rfl (Le.nilapp (Le.cons rfl (Le.cons rfl (Le.nil _)))))) hR ?_
        clear hS hR; rintro ⟨i0, B⟩ aa ww hI hS hR; dsimp only [List.cons_append, List.nil_append] at hI hS hR
        have hI4 := hI
        refine wp_seq_k ?_; intro K336 hK336
        refine wp_seq_k ?_; intro K337 hK337
        refine wp_region_lit ?_
        refine sA hS hR (Yld.move hS rfl) (by decide) ?_; clear hS; intro aa hS
        refine sA hS hR (Yld.geq hS rfl rfl) (by decide) ?_; clear hS; intro aa hS
        refine wpList_nil ?_
        refine hK337 _ _ ?_
        refine hS.splitB (t := 105) rfl ?_ ?_ <;> clear hS
        · intro hg hS
          obtain ⟨i, rfl⟩ : ∃ i, i0 = i + 1 := ⟨i0 - 1, by omega⟩
          refine condT hS rfl ?_
          refine wp_skip ?_
          refine hK336 _ _ ?_
          refine wp_seq_k ?_; intro K338 hK338
          refine wp_block ?_
          refine wp_seq_k ?_; intro K339 hK339
          refine wp_region_lit ?_
          refine sA hS hR (Yld.move hS rfl) (by decide) ?_; clear hS; intro aa hS
          refine sB (Bcall hS rfl Try.call10 (Take_okA (hR.pk (r := arena 57 60 _ _) (by repeat (first | with_reducible exact Pk.here | with_reducible apply Pk.there)))) (by decide) ?_); clear hS; intro aa ww vv hS hp
          clear hR
          obtain ⟨rfl, hR⟩ := hp
          obtain ⟨htop, hBk⟩ := hI4.2.take (i := i) (by omega)
          rw [htop] at hS; dsimp only at hS
          refine sA hS hR (Yld.move hS rfl) (by decide) ?_; clear hS; intro aa hS
          refine sA hS hR (Yld.extract hS rfl rfl) (by decide) ?_; clear hS; intro aa hS
          refine sA hS hR (Yld.extract hS rfl rfl) (by decide) ?_; clear hS; intro aa hS
          refine sB (Balloc hS hR info29 (by rfl) (by rfl) (by decide) ?_); clear hS hR; intro aa ww bb17 hS hR
          refine sB (Bstore hS hR rfl rfl (by rfl) info29 (by rfl) (by repeat (first | with_reducible exact Pk.here | with_reducible apply Pk.there)) (by rfl) (Nat.le_of_ble_eq_true rfl) ?_); clear hR; intro ww hR
          refine sA hS hR (Yld.assign hS rfl) (by decide) ?_; clear hS; intro aa hS
          refine wpList_nil ?_
          refine hK339 _ _ ?_
          refine wp_seq_k ?_; intro K340 hK340
          refine drawn (by kernel_rfl) hR Ex.refl ?_; clear hR; intro ww hR hR0
          refine dA 0 rfl (by kernel_rfl) (by kernel_rfl) (by kernel_rfl) (fun _ _ _ h => h) hS hR0 (Yld.move hS rfl) (by decide) ?_; clear hS; intro aa hS
          refine dA 1 rfl (by kernel_rfl) (by kernel_rfl) (by kernel_rfl) (fun _ _ _ h => h) hS hR0 (Yld.neq hS rfl rfl) (by decide) ?_; clear hS; intro aa hS
          replace hS := hS.sayB (t := 114) false rfl (by simp)
          refine dA 2 rfl (by kernel_rfl) (by kernel_rfl) (by kernel_rfl) (fun _ _ _ h => h) hS hR0 (Yld.move hS rfl) (by decide) ?_; clear hS; intro aa hS
          refine dAg 3 rfl (by kernel_rfl) (by kernel_rfl) (by kernel_rfl) (fun _ _ _ h => h) hS rfl rfl hR0 (Yld.loadAgg hS rfl Try.underlying29 rfl info29 (by first | exact Rds.cons (Rd.blk (by repeat (first | with_reducible exact Pk.here | with_reducible apply Pk.there)) (by rfl)) (Rds.cons (Rd.blk (by repeat (first | with_reducible exact Pk.here | with_reducible apply Pk.there)) (by rfl)) (Rds.nil)) | exact Rds.rec (by repeat (first | with_reducible exact Pk.here | with_reducible apply Pk.there)) (by intro _; rfl) (by omega) | exact Rds.flat1 (by repeat (first | with_reducible exact Pk.here | with_reducible apply Pk.there)) (by intro _; rfl) (by omega)) (by rfl)) (by decide) ?_; clear hS; intro aa hS
          refine dAg 4 rfl (by kernel_rfl) (by kernel_rfl) (by kernel_rfl) (fun _ _ _ h => h) hS rfl rfl hR0 (Yld.move hS rfl) (by decide) ?_; clear hS; intro aa hS
          refine dAg 5 rfl (by kernel_rfl) (by kernel_rfl) (by kernel_rfl) (fun _ _ _ h => h) hS rfl rfl hR0 (Yld.move hS rfl) (by decide) ?_; clear hS; intro aa hS
          refine dAg 6 rfl (by kernel_rfl) (by kernel_rfl) (by kernel_rfl) (fun _ _ _ h => h) hS rfl rfl hR0 ((by first | exact Yld.indexL (sz := 2) (i) hS rfl rfl Try.underlying27 info29 (by repeat (first | with_reducible exact Pk.here | with_reducible apply Pk.there)) rfl (by first | rfl | omega) (by omega) | exact Yld.indexB (sz := 2) (i) hS rfl rfl Try.underlying27 info29 rfl (by first | rfl | omega) (by omega))) (by decide) ?_; clear hS; intro aa hS
          refine dAg 7 rfl (by kernel_rfl) (by kernel_rfl) (by kernel_rfl) (fun _ _ _ h => h) hS rfl rfl hR0 (Yld.fieldAddr hS rfl 0 Try.underlying29 rfl rfl info3 (by decide)) (by decide) ?_; clear hS; intro aa hS
          refine dAg 8 rfl (by kernel_rfl) (by kernel_rfl) (by kernel_rfl) (fun _ _ _ h => h) hS rfl rfl hR0 (Yld.load1 hS rfl Try.underlying3 rfl (by first | exact Rd.blk (by repeat (first | with_reducible exact Pk.here | with_reducible apply Pk.there)) (by rfl) | exact Rd.rec (by repeat (first | with_reducible exact Pk.here | with_reducible apply Pk.there)) (by intro _; rfl) (by omega) rfl | exact Rd.rec0 (by repeat (first | with_reducible exact Pk.here | with_reducible apply Pk.there)) (by intro _; rfl) (by omega) rfl | exact Rd.flatJ (by repeat (first | with_reducible exact Pk.here | with_reducible apply Pk.there)) (by intro _; rfl) (by omega) rfl | exact Rd.flat0 (by repeat (first | with_reducible exact Pk.here | with_reducible apply Pk.there)) (by intro _; rfl) (by omega) rfl)) (by decide) ?_; clear hS; intro aa hS
          refine dAg 9 rfl (by kernel_rfl) (by kernel_rfl) (by kernel_rfl) (fun _ _ _ h => h) hS rfl rfl hR0 (Yld.build hS rfl (bld29_0_1 _ _)) (by decide) ?_; clear hS; intro aa hS
          refine dAg 10 rfl (by kernel_rfl) (by kernel_rfl) (by kernel_rfl) (fun _ _ _ h => h) hS rfl rfl hR0 (Yld.binRun hS rfl rfl (neq29 _ _ _ _ _ _)) (by decide) ?_; clear hS; intro aa hS
          replace hS := hS.sayB (t := 123) false rfl (by simp)
          refine dA 11 rfl (by kernel_rfl) (by kernel_rfl) (by kernel_rfl) (fun _ _ _ h => h) hS hR0 (Yld.pickF hS rfl rfl) (by decide) ?_; clear hS; intro aa hS
          refine wpAnyH_done (by kernel_rfl) ?_ _; clear hR0
          refine hK340 _ _ ?_
          refine condF hS rfl ?_
          refine wp_skip ?_
          refine hK338 _ _ ?_
          refine wp_region_lit ?_
          refine sA hS hR (Yld.move hS rfl) (by decide) ?_; clear hS; intro aa hS
          refine sA hS hR ((by first | exact Yld.sub64 hS rfl rfl (by omega) | exact Yld.sub hS rfl rfl)) (by decide) ?_; clear hS; intro aa hS
          replace hS := hS.say (t := 107) (.int .i64 ((i : Int) - 1)) rfl (by rw [show ((i + 1 : Nat) : Int) - 1 - 1 = (i : Int) - 1 from by omega])
          refine sA hS hR (Yld.assign hS rfl) (by decide) ?_; clear hS; intro aa hS
          refine wpList_nil ?_
          
          refine ⟨(i, _), ?_, ?_, hS.le (Le.cons rfl (Le.nilapp (Le.cons rfl (Le.cons rfl (Le.nil _))))), hR.sub (Ex.take (by repeat (first | with_reducible exact Pk.here | with_reducible apply Pk.there)) (Ex.nilapp (by repeat (first | with_reducible exact Ex.refl | (with_reducible apply Ex.take; · repeat (first | with_reducible exact Pk.here | with_reducible apply Pk.there)) | with_reducible apply Ex.drop))))⟩
          · dsimp only; exact ⟨by omega, hBk⟩
          · dsimp only; omega
        · intro hg hS
          obtain rfl : i0 = 0 := by omega
          refine condF hS rfl ?_
          refine wp_exit ?_
          refine hK333 _ _ ?_
          refine wp_seq_k ?_; intro K341 hK341
          refine wp_region_lit ?_
          refine sA hS hR (Yld.move hS rfl) (by decide) ?_; clear hS; intro aa hS
          refine sB (Bcall hS rfl Try.call10 (Take_okA (hR.pk (r := arena 57 60 _ _) (by repeat (first | with_reducible exact Pk.here | with_reducible apply Pk.there)))) (by decide) ?_); clear hS; intro aa ww vv hS hp
          clear hR
          obtain ⟨rfl, hR⟩ := hp
          rw [hI4.2.done] at hS; dsimp only at hS
          refine sA hS hR (Yld.move hS rfl) (by decide) ?_; clear hS; intro aa hS
          refine sA hS hR (Yld.extract hS rfl rfl) (by decide) ?_; clear hS; intro aa hS
          refine sA hS hR (Yld.extract hS rfl rfl) (by decide) ?_; clear hS; intro aa hS
          refine sB (Balloc hS hR info29 (by rfl) (by rfl) (by decide) ?_); clear hS hR; intro aa ww bb19 hS hR
          refine sB (Bstore hS hR rfl rfl (by rfl) info29 (by rfl) (by repeat (first | with_reducible exact Pk.here | with_reducible apply Pk.there)) (by rfl) (Nat.le_of_ble_eq_true rfl) ?_); clear hR; intro ww hR
          refine sA hS hR (Yld.assign hS rfl) (by decide) ?_; clear hS; intro aa hS
          refine wpList_nil ?_
          refine hK341 _ _ ?_
          refine wp_seq_k ?_; intro K342 hK342
          refine wp_region_lit ?_
          refine sA hS hR (Yld.move hS rfl) (by decide) ?_; clear hS; intro aa hS
          refine sA hS hR (Yld.eql hS rfl rfl) (by decide) ?_; clear hS; intro aa hS
          replace hS := hS.sayB (t := 131) true rfl (by simp)
          refine sA hS hR (Yld.move hS rfl) (by decide) ?_; clear hS; intro aa hS
          refine sBg hS rfl rfl (Bcall hS rfl Try.call12 (awake_ok hR) (by decide) ?_); clear hS; intro aa ww vv hS hp
          clear hR
          obtain ⟨rfl, hR⟩ := hp
          refine sA hS hR (Yld.pickT hS rfl rfl) (by decide) ?_; clear hS; intro aa hS
          refine sA hS hR (Yld.assign hS rfl) (by decide) ?_; clear hS; intro aa hS
          refine wpList_nil ?_
          refine hK342 _ _ ?_
          refine wp_ret ?_
          repeat (first | with_reducible refine thenR ?_ | with_reducible refine blockR ?_ | with_reducible refine scopeR ?_)
          refine ret1 (fn := Try.f3) (e := .ret) (.inl rfl) Try.results3 hS hR ⟨_, (.tmp rfl), ?_⟩
          exact ⟨rfl, (hR.sub (by repeat (first | with_reducible exact Ex.refl | (with_reducible apply Ex.take; · repeat (first | with_reducible exact Pk.here | with_reducible apply Pk.there)) | with_reducible apply Ex.drop)))⟩
      · intro hg hS
        refine condF hS rfl ?_
        refine wp_skip ?_
        refine hK331 _ _ ?_
        refine wp_seq_k ?_; intro K343 hK343
        refine wp_region_lit ?_
        refine sA hS hR (Yld.move hS rfl) (by decide) ?_; clear hS; intro aa hS
        refine sA hS hR ((by first | exact Yld.to (Yld.convInt hS rfl rfl Try.underlying3) (congrArg (Value.int .i64) (IntWalk.i64_in _ (by omega))) | exact Yld.convInt hS rfl rfl Try.underlying3)) (by decide) ?_; clear hS; intro aa hS
        refine sA hS hR (Yld.move hS rfl) (by decide) ?_; clear hS; intro aa hS
        refine sA hS hR (Yld.len hS rfl Try.underlying27) (by decide) ?_; clear hS; intro aa hS
        refine sA hS hR ((by first | exact Yld.rem64 hS rfl rfl (by omega) | exact Yld.rem hS rfl rfl (by omega))) (by decide) ?_; clear hS; intro aa hS
        obtain ⟨kk, hkk, hkl⟩ := emod_nat (n := s0) (d := (live.length : Int)) rfl (by omega)
        replace hS := hS.say (t := 75) (.int .i64 (kk : Int)) rfl (by rw [hkk])
        have hlc := (hR.pk (r := sls r1 _ _ _ _ _) (by repeat (first | with_reducible exact Pk.here | with_reducible apply Pk.there))).slsLe.1
        refine sA hS hR (Yld.assign hS rfl) (by decide) ?_; clear hS; intro aa hS
        refine wpList_nil ?_
        refine hK343 _ _ ?_
        refine wp_seq_k ?_; intro K344 hK344
        refine wp_seq_k ?_; intro K345 hK345
        refine wp_region_lit ?_
        refine sA hS hR (Yld.move hS rfl) (by decide) ?_; clear hS; intro aa hS
        refine sA hS hR (Yld.move hS rfl) (by decide) ?_; clear hS; intro aa hS
        refine sA hS hR (Yld.move hS rfl) (by decide) ?_; clear hS; intro aa hS
        refine sA hS hR ((by first | exact Yld.indexL (sz := 2) _ hS rfl rfl Try.underlying27 info29 (by repeat (first | with_reducible exact Pk.here | with_reducible apply Pk.there)) rfl rfl (by omega) | exact Yld.indexB (sz := 2) _ hS rfl rfl Try.underlying27 info29 rfl rfl (by omega) | exact Yld.indexSlice hS rfl rfl Try.underlying27 info29 (by omega) (by omega))) (by decide) ?_; clear hS; intro aa hS
        refine sA hS hR (Yld.loadAgg hS rfl Try.underlying29 rfl info29 (by first | exact Rds.cons (Rd.blk (by repeat (first | with_reducible exact Pk.here | with_reducible apply Pk.there)) (by rfl)) (Rds.cons (Rd.blk (by repeat (first | with_reducible exact Pk.here | with_reducible apply Pk.there)) (by rfl)) (Rds.nil)) | exact Rds.rec (by repeat (first | with_reducible exact Pk.here | with_reducible apply Pk.there)) (by intro _; rfl) (by omega) | exact Rds.flat1 (by repeat (first | with_reducible exact Pk.here | with_reducible apply Pk.there)) (by intro _; rfl) (by omega)) (by rfl)) (by decide) ?_; clear hS; intro aa hS
        refine sB (Bcall hS rfl Try.call11 (Give_okA (hR.pk (r := arena 57 60 _ _) (by repeat (first | with_reducible exact Pk.here | with_reducible apply Pk.there)))) (by decide) ?_); clear hS; intro aa ww vv hS hp
        clear hR
        obtain ⟨rfl, hR⟩ := hp
        obtain ⟨hat, hGv⟩ := hI.2.1.give hkl
        rw [giveE_yes hat] at hS
        refine sA hS hR (Yld.neq hS rfl rfl) (by decide) ?_; clear hS; intro aa hS
        replace hS := hS.sayB (t := 82) false rfl (by simp)
        refine wpList_nil ?_
        refine hK345 _ _ ?_
        refine condF hS rfl ?_
        refine wp_skip ?_
        refine hK344 _ _ ?_
        refine wp_seq_k ?_; intro K346 hK346
        refine wp_region_lit ?_
        refine sA hS hR (Yld.move hS rfl) (by decide) ?_; clear hS; intro aa hS
        refine sA hS hR (Yld.move hS rfl) (by decide) ?_; clear hS; intro aa hS
        refine sA hS hR (Yld.move hS rfl) (by decide) ?_; clear hS; intro aa hS
        refine sA hS hR ((by first | exact Yld.indexL (sz := 2) _ hS rfl rfl Try.underlying27 info29 (by repeat (first | with_reducible exact Pk.here | with_reducible apply Pk.there)) rfl rfl (by omega) | exact Yld.indexB (sz := 2) _ hS rfl rfl Try.underlying27 info29 rfl rfl (by omega) | exact Yld.indexSlice hS rfl rfl Try.underlying27 info29 (by omega) (by omega))) (by decide) ?_; clear hS; intro aa hS
        refine sA hS hR (Yld.loadAgg hS rfl Try.underlying29 rfl info29 (by first | exact Rds.cons (Rd.blk (by repeat (first | with_reducible exact Pk.here | with_reducible apply Pk.there)) (by rfl)) (Rds.cons (Rd.blk (by repeat (first | with_reducible exact Pk.here | with_reducible apply Pk.there)) (by rfl)) (Rds.nil)) | exact Rds.rec (by repeat (first | with_reducible exact Pk.here | with_reducible apply Pk.there)) (by intro _; rfl) (by omega) | exact Rds.flat1 (by repeat (first | with_reducible exact Pk.here | with_reducible apply Pk.there)) (by intro _; rfl) (by omega)) (by rfl)) (by decide) ?_; clear hS; intro aa hS
        refine sB (BbuildSlice hS hR rfl (bls27_1_0 _ _) (by decide) ?_); clear hS hR; intro aa ww bb88 hS hR
        refine sB (BappendR (sz := 2) hS hR rfl rfl Try.underlying27 info29 rfl rfl (by rfl) (by repeat (first | with_reducible exact Pk.here | with_reducible apply Pk.there)) (XC.one (live[kk]) (by repeat (first | with_reducible exact Pk.here | with_reducible apply Pk.there)) (by rfl) rfl) (by intro _; rfl) (by show (_ + _) * 16 ≤ _; first | omega | (simp only [List.length_take, List.length_append, List.length_drop, List.length_cons, List.length_nil, List.length_map]; omega)) (by first | omega | (simp only [List.length_take, List.length_append, List.length_drop, List.length_cons, List.length_nil, List.length_map]; omega)) (by first | rfl | (simp; done) | (simp; omega)) (by decide) ?_); clear hS hR; intro aa ww r89 c89 hS hR
        refine sA hS hR (Yld.assign hS rfl) (by decide) ?_; clear hS; intro aa hS
        refine wpList_nil ?_
        refine hK346 _ _ ?_
        refine drawn (by kernel_rfl) hR Ex.refl ?_; clear hR; intro ww hR hR0
        refine dA 1 rfl (by kernel_rfl) (by kernel_rfl) (by kernel_rfl) (fun _ _ _ h => h) hS hR0 (Yld.move hS rfl) (by decide) ?_; clear hS; intro aa hS
        refine dA 2 rfl (by kernel_rfl) (by kernel_rfl) (by kernel_rfl) (fun _ _ _ h => h) hS hR0 (Yld.move hS rfl) (by decide) ?_; clear hS; intro aa hS
        refine dA 3 rfl (by kernel_rfl) (by kernel_rfl) (by kernel_rfl) (fun _ _ _ h => h) hS hR0 (Yld.sliceHi hS rfl rfl Try.underlying27 info29 (by omega) (by omega)) (by decide) ?_; clear hS; intro aa hS
        refine dA 5 rfl (by kernel_rfl) (by kernel_rfl) (by kernel_rfl) (fun _ _ _ h => h) hS hR0 (Yld.move hS rfl) (by decide) ?_; clear hS; intro aa hS
        refine dA 6 rfl (by kernel_rfl) (by kernel_rfl) (by kernel_rfl) (fun _ _ _ h => h) hS hR0 (Yld.move hS rfl) (by decide) ?_; clear hS; intro aa hS
        refine dA 7 rfl (by kernel_rfl) (by kernel_rfl) (by kernel_rfl) (fun _ _ _ h => h) hS hR0 ((by first | exact Yld.add64 hS rfl rfl (by omega) | exact Yld.add hS rfl rfl)) (by decide) ?_; clear hS; intro aa hS
        refine dA 8 rfl (by kernel_rfl) (by kernel_rfl) (by kernel_rfl) (fun _ _ _ h => h) hS hR0 (Yld.sliceLo hS rfl rfl Try.underlying27 info29 (by omega) (by omega)) (by decide) ?_; clear hS; intro aa hS
        refine dOne (i := 0) (by kernel_rfl) ?_
        refine dop rfl (BbuildSlice hS hR rfl (bls27_0_) (by decide) ?_); clear hS hR hR0; intro aa ww bb90 hS hR
        refine dnext (hR.sub (by repeat (first | with_reducible exact Ex.refl | (with_reducible apply Ex.take; · repeat (first | with_reducible exact Pk.here | with_reducible apply Pk.there)) | with_reducible apply Ex.drop))) ?_; intro hR0
        replace hR := hR.pk (r := blk bb90 _ _) (by repeat (first | with_reducible exact Pk.here | with_reducible apply Pk.there))
        replace hR := Sep.toRecs (m := 0) (sz := 2) (enc := e2) (([] : List (Int × Int))) hR rfl (by intro _; rfl) rfl
        refine dOne (i := 4) (by kernel_rfl) ?_
        refine dop rfl (BappendR (sz := 2) hS hR rfl rfl Try.underlying27 info29 rfl rfl (by rfl) (by repeat (first | with_reducible exact Pk.here | with_reducible apply Pk.there)) (XC.upto (by repeat (first | with_reducible exact Pk.here | with_reducible apply Pk.there)) (by intro _; rfl) (by omega)) (by intro _; rfl) (by show (_ + _) * 16 ≤ _; first | omega | (simp only [List.length_take, List.length_append, List.length_drop, List.length_cons, List.length_nil, List.length_map]; omega)) (by first | omega | (simp only [List.length_take, List.length_append, List.length_drop, List.length_cons, List.length_nil, List.length_map]; omega)) (by first | rfl | (simp; done) | (simp; omega)) (by decide) ?_); clear hS hR hR0; intro aa ww r94 c94 hS hR
        refine dnext (hR.sub (by repeat (first | with_reducible exact Ex.refl | (with_reducible apply Ex.take; · repeat (first | with_reducible exact Pk.here | with_reducible apply Pk.there)) | with_reducible apply Ex.drop))) ?_; intro hR0
        simp only [List.nil_append, Int.toNat_natCast] at hS hR
        refine dOne (i := 9) (by kernel_rfl) ?_
        refine dop rfl (BappendR (sz := 2) hS hR rfl rfl Try.underlying27 info29 rfl rfl (by rfl) (by repeat (first | with_reducible exact Pk.here | with_reducible apply Pk.there)) (XC.part (r := r1) (lo := ((kk : Int) + 1).toNat) (by repeat (first | with_reducible exact Pk.here | with_reducible apply Pk.there)) (by intro _; rfl) (by rfl) (by omega)) (by intro _; rfl) (by show (_ + _) * 16 ≤ _; first | omega | (simp only [List.length_take, List.length_append, List.length_drop, List.length_cons, List.length_nil, List.length_map]; omega)) (by first | omega | (simp only [List.length_take, List.length_append, List.length_drop, List.length_cons, List.length_nil, List.length_map]; omega)) (by first | rfl | (simp; done) | (simp; omega)) (by decide) ?_); clear hS hR hR0; intro aa ww r99 c99 hS hR
        refine dnext (hR.sub (by repeat (first | with_reducible exact Ex.refl | (with_reducible apply Ex.take; · repeat (first | with_reducible exact Pk.here | with_reducible apply Pk.there)) | with_reducible apply Ex.drop))) ?_; intro hR0
        have hcut : live.take kk ++ (live.drop ((kk : Int) + 1).toNat).take (live.length - ((kk : Int) + 1).toNat) = live.take kk ++ live.drop (kk + 1) := by rw [show ((kk : Int) + 1).toNat = kk + 1 from by omega, List.take_of_length_le (show (live.drop (kk + 1)).length ≤ live.length - (kk + 1) by simp)]
        rw [hcut] at hS hR
        refine dA 10 rfl (by kernel_rfl) (by kernel_rfl) (by kernel_rfl) (fun _ _ _ h => h) hS hR0 (Yld.assign hS rfl) (by decide) ?_; clear hS; intro aa hS
        refine wpAnyH_done (by kernel_rfl) ?_ _; clear hR0
        refine hK329 _ _ ?_
        refine wp_region_lit ?_
        refine sA hS hR ((by first | exact Yld.add64 hS rfl rfl (by omega) | exact Yld.add hS rfl rfl)) (by decide) ?_; clear hS; intro aa hS
        refine sA hS hR (Yld.move hS rfl) (by decide) ?_; clear hS; intro aa hS
        refine wpList_nil ?_
        
        refine ⟨(j + 1, _, _, _, (_, _), (_, _)), ?_, ?_, hS.le (Le.cons rfl (Le.cons rfl (Le.cons rfl (Le.nilapp (Le.cons rfl (Le.cons rfl (Le.cons rfl (Le.nil _)))))))), hR.sub (Ex.take (by repeat (first | with_reducible exact Pk.here | with_reducible apply Pk.there)) (Ex.take (by repeat (first | with_reducible exact Pk.here | with_reducible apply Pk.there)) (Ex.take (by repeat (first | with_reducible exact Pk.here | with_reducible apply Pk.there)) (Ex.nilapp (by repeat (first | with_reducible exact Ex.refl | (with_reducible apply Ex.take; · repeat (first | with_reducible exact Pk.here | with_reducible apply Pk.there)) | with_reducible apply Ex.drop))))))⟩
        · dsimp only; exact ⟨by omega, hGv, by simp only [List.length_append, List.length_singleton]; omega⟩
        · dsimp only; omega
    · intro hg hS
      refine condF hS rfl ?_
      refine wp_exit ?_
      refine hK324 _ _ ?_
      refine wp_seq_k ?_; intro K347 hK347
      refine wp_seq_k ?_; intro K348 hK348
      refine wp_region_lit ?_
      refine sA hS hR (Yld.move hS rfl) (by decide) ?_; clear hS; intro aa hS
      refine sA hS hR (Yld.len hS rfl Try.underlying27) (by decide) ?_; clear hS; intro aa hS
      refine sA hS hR ((by first | exact Yld.sub64 hS rfl rfl (by omega) | exact Yld.sub hS rfl rfl)) (by decide) ?_; clear hS; intro aa hS
      refine sA hS hR (Yld.assign hS rfl) (by decide) ?_; clear hS; intro aa hS
      refine wpList_nil ?_
      refine hK348 _ _ ?_
      refine wp_block ?_
      replace hR := hR.pk (r := arena 57 60 b A) (by repeat (first | with_reducible exact Pk.here | with_reducible apply Pk.there))
      refine loopI (X := Nat × Ar) [(6, _), (12, _)] (fun x => [(16, .int .i64 ((x.1 : Int) - 1))]) (fun x => [arena 57 60 b x.2]) _ (fun x => x.1 ≤ given.length ∧ Bk x.2 given x.1) (fun x => x.1) (given.length, A) ⟨Nat.le_refl _, hI.2.1.bk⟩ (hS.le (Le.cons rfl (Le.nilapp (Le.cons rfl (Le.cons rfl (Le.nil _)))))) hR ?_
      clear hS hR; rintro ⟨i0, B⟩ aa ww hI hS hR; dsimp only [List.cons_append, List.nil_append] at hI hS hR
      have hI4 := hI
      refine wp_seq_k ?_; intro K350 hK350
      refine wp_seq_k ?_; intro K351 hK351
      refine wp_region_lit ?_
      refine sA hS hR (Yld.move hS rfl) (by decide) ?_; clear hS; intro aa hS
      refine sA hS hR (Yld.geq hS rfl rfl) (by decide) ?_; clear hS; intro aa hS
      refine wpList_nil ?_
      refine hK351 _ _ ?_
      refine hS.splitB (t := 105) rfl ?_ ?_ <;> clear hS
      · intro hg hS
        obtain ⟨i, rfl⟩ : ∃ i, i0 = i + 1 := ⟨i0 - 1, by omega⟩
        refine condT hS rfl ?_
        refine wp_skip ?_
        refine hK350 _ _ ?_
        refine wp_seq_k ?_; intro K352 hK352
        refine wp_block ?_
        refine wp_seq_k ?_; intro K353 hK353
        refine wp_region_lit ?_
        refine sA hS hR (Yld.move hS rfl) (by decide) ?_; clear hS; intro aa hS
        refine sB (Bcall hS rfl Try.call10 (Take_okA (hR.pk (r := arena 57 60 _ _) (by repeat (first | with_reducible exact Pk.here | with_reducible apply Pk.there)))) (by decide) ?_); clear hS; intro aa ww vv hS hp
        clear hR
        obtain ⟨rfl, hR⟩ := hp
        obtain ⟨htop, hBk⟩ := hI4.2.take (i := i) (by omega)
        rw [htop] at hS; dsimp only at hS
        refine sA hS hR (Yld.move hS rfl) (by decide) ?_; clear hS; intro aa hS
        refine sA hS hR (Yld.extract hS rfl rfl) (by decide) ?_; clear hS; intro aa hS
        refine sA hS hR (Yld.extract hS rfl rfl) (by decide) ?_; clear hS; intro aa hS
        refine sB (Balloc hS hR info29 (by rfl) (by rfl) (by decide) ?_); clear hS hR; intro aa ww bb17 hS hR
        refine sB (Bstore hS hR rfl rfl (by rfl) info29 (by rfl) (by repeat (first | with_reducible exact Pk.here | with_reducible apply Pk.there)) (by rfl) (Nat.le_of_ble_eq_true rfl) ?_); clear hR; intro ww hR
        refine sA hS hR (Yld.assign hS rfl) (by decide) ?_; clear hS; intro aa hS
        refine wpList_nil ?_
        refine hK353 _ _ ?_
        refine wp_seq_k ?_; intro K354 hK354
        refine drawn (by kernel_rfl) hR Ex.refl ?_; clear hR; intro ww hR hR0
        refine dA 0 rfl (by kernel_rfl) (by kernel_rfl) (by kernel_rfl) (fun _ _ _ h => h) hS hR0 (Yld.move hS rfl) (by decide) ?_; clear hS; intro aa hS
        refine dA 1 rfl (by kernel_rfl) (by kernel_rfl) (by kernel_rfl) (fun _ _ _ h => h) hS hR0 (Yld.neq hS rfl rfl) (by decide) ?_; clear hS; intro aa hS
        replace hS := hS.sayB (t := 114) false rfl (by simp)
        refine dA 2 rfl (by kernel_rfl) (by kernel_rfl) (by kernel_rfl) (fun _ _ _ h => h) hS hR0 (Yld.move hS rfl) (by decide) ?_; clear hS; intro aa hS
        refine dAg 3 rfl (by kernel_rfl) (by kernel_rfl) (by kernel_rfl) (fun _ _ _ h => h) hS rfl rfl hR0 (Yld.loadAgg hS rfl Try.underlying29 rfl info29 (by first | exact Rds.cons (Rd.blk (by repeat (first | with_reducible exact Pk.here | with_reducible apply Pk.there)) (by rfl)) (Rds.cons (Rd.blk (by repeat (first | with_reducible exact Pk.here | with_reducible apply Pk.there)) (by rfl)) (Rds.nil)) | exact Rds.rec (by repeat (first | with_reducible exact Pk.here | with_reducible apply Pk.there)) (by intro _; rfl) (by omega) | exact Rds.flat1 (by repeat (first | with_reducible exact Pk.here | with_reducible apply Pk.there)) (by intro _; rfl) (by omega)) (by rfl)) (by decide) ?_; clear hS; intro aa hS
        refine dAg 4 rfl (by kernel_rfl) (by kernel_rfl) (by kernel_rfl) (fun _ _ _ h => h) hS rfl rfl hR0 (Yld.move hS rfl) (by decide) ?_; clear hS; intro aa hS
        refine dAg 5 rfl (by kernel_rfl) (by kernel_rfl) (by kernel_rfl) (fun _ _ _ h => h) hS rfl rfl hR0 (Yld.move hS rfl) (by decide) ?_; clear hS; intro aa hS
        refine dAg 6 rfl (by kernel_rfl) (by kernel_rfl) (by kernel_rfl) (fun _ _ _ h => h) hS rfl rfl hR0 ((by first | exact Yld.indexL (sz := 2) (i) hS rfl rfl Try.underlying27 info29 (by repeat (first | with_reducible exact Pk.here | with_reducible apply Pk.there)) rfl (by first | rfl | omega) (by omega) | exact Yld.indexB (sz := 2) (i) hS rfl rfl Try.underlying27 info29 rfl (by first | rfl | omega) (by omega))) (by decide) ?_; clear hS; intro aa hS
        refine dAg 7 rfl (by kernel_rfl) (by kernel_rfl) (by kernel_rfl) (fun _ _ _ h => h) hS rfl rfl hR0 (Yld.fieldAddr hS rfl 0 Try.underlying29 rfl rfl info3 (by decide)) (by decide) ?_; clear hS; intro aa hS
        refine dAg 8 rfl (by kernel_rfl) (by kernel_rfl) (by kernel_rfl) (fun _ _ _ h => h) hS rfl rfl hR0 (Yld.load1 hS rfl Try.underlying3 rfl (by first | exact Rd.blk (by repeat (first | with_reducible exact Pk.here | with_reducible apply Pk.there)) (by rfl) | exact Rd.rec (by repeat (first | with_reducible exact Pk.here | with_reducible apply Pk.there)) (by intro _; rfl) (by omega) rfl | exact Rd.rec0 (by repeat (first | with_reducible exact Pk.here | with_reducible apply Pk.there)) (by intro _; rfl) (by omega) rfl | exact Rd.flatJ (by repeat (first | with_reducible exact Pk.here | with_reducible apply Pk.there)) (by intro _; rfl) (by omega) rfl | exact Rd.flat0 (by repeat (first | with_reducible exact Pk.here | with_reducible apply Pk.there)) (by intro _; rfl) (by omega) rfl)) (by decide) ?_; clear hS; intro aa hS
        refine dAg 9 rfl (by kernel_rfl) (by kernel_rfl) (by kernel_rfl) (fun _ _ _ h => h) hS rfl rfl hR0 (Yld.build hS rfl (bld29_0_1 _ _)) (by decide) ?_; clear hS; intro aa hS
        refine dAg 10 rfl (by kernel_rfl) (by kernel_rfl) (by kernel_rfl) (fun _ _ _ h => h) hS rfl rfl hR0 (Yld.binRun hS rfl rfl (neq29 _ _ _ _ _ _)) (by decide) ?_; clear hS; intro aa hS
        replace hS := hS.sayB (t := 123) false rfl (by simp)
        refine dA 11 rfl (by kernel_rfl) (by kernel_rfl) (by kernel_rfl) (fun _ _ _ h => h) hS hR0 (Yld.pickF hS rfl rfl) (by decide) ?_; clear hS; intro aa hS
        refine wpAnyH_done (by kernel_rfl) ?_ _; clear hR0
        refine hK354 _ _ ?_
        refine condF hS rfl ?_
        refine wp_skip ?_
        refine hK352 _ _ ?_
        refine wp_region_lit ?_
        refine sA hS hR (Yld.move hS rfl) (by decide) ?_; clear hS; intro aa hS
        refine sA hS hR ((by first | exact Yld.sub64 hS rfl rfl (by omega) | exact Yld.sub hS rfl rfl)) (by decide) ?_; clear hS; intro aa hS
        replace hS := hS.say (t := 107) (.int .i64 ((i : Int) - 1)) rfl (by rw [show ((i + 1 : Nat) : Int) - 1 - 1 = (i : Int) - 1 from by omega])
        refine sA hS hR (Yld.assign hS rfl) (by decide) ?_; clear hS; intro aa hS
        refine wpList_nil ?_
        
        refine ⟨(i, _), ?_, ?_, hS.le (Le.cons rfl (Le.nilapp (Le.cons rfl (Le.cons rfl (Le.nil _))))), hR.sub (Ex.take (by repeat (first | with_reducible exact Pk.here | with_reducible apply Pk.there)) (Ex.nilapp (by repeat (first | with_reducible exact Ex.refl | (with_reducible apply Ex.take; · repeat (first | with_reducible exact Pk.here | with_reducible apply Pk.there)) | with_reducible apply Ex.drop))))⟩
        · dsimp only; exact ⟨by omega, hBk⟩
        · dsimp only; omega
      · intro hg hS
        obtain rfl : i0 = 0 := by omega
        refine condF hS rfl ?_
        refine wp_exit ?_
        refine hK347 _ _ ?_
        refine wp_seq_k ?_; intro K355 hK355
        refine wp_region_lit ?_
        refine sA hS hR (Yld.move hS rfl) (by decide) ?_; clear hS; intro aa hS
        refine sB (Bcall hS rfl Try.call10 (Take_okA (hR.pk (r := arena 57 60 _ _) (by repeat (first | with_reducible exact Pk.here | with_reducible apply Pk.there)))) (by decide) ?_); clear hS; intro aa ww vv hS hp
        clear hR
        obtain ⟨rfl, hR⟩ := hp
        rw [hI4.2.done] at hS; dsimp only at hS
        refine sA hS hR (Yld.move hS rfl) (by decide) ?_; clear hS; intro aa hS
        refine sA hS hR (Yld.extract hS rfl rfl) (by decide) ?_; clear hS; intro aa hS
        refine sA hS hR (Yld.extract hS rfl rfl) (by decide) ?_; clear hS; intro aa hS
        refine sB (Balloc hS hR info29 (by rfl) (by rfl) (by decide) ?_); clear hS hR; intro aa ww bb19 hS hR
        refine sB (Bstore hS hR rfl rfl (by rfl) info29 (by rfl) (by repeat (first | with_reducible exact Pk.here | with_reducible apply Pk.there)) (by rfl) (Nat.le_of_ble_eq_true rfl) ?_); clear hR; intro ww hR
        refine sA hS hR (Yld.assign hS rfl) (by decide) ?_; clear hS; intro aa hS
        refine wpList_nil ?_
        refine hK355 _ _ ?_
        refine wp_seq_k ?_; intro K356 hK356
        refine wp_region_lit ?_
        refine sA hS hR (Yld.move hS rfl) (by decide) ?_; clear hS; intro aa hS
        refine sA hS hR (Yld.eql hS rfl rfl) (by decide) ?_; clear hS; intro aa hS
        replace hS := hS.sayB (t := 131) true rfl (by simp)
        refine sA hS hR (Yld.move hS rfl) (by decide) ?_; clear hS; intro aa hS
        refine sBg hS rfl rfl (Bcall hS rfl Try.call12 (awake_ok hR) (by decide) ?_); clear hS; intro aa ww vv hS hp
        clear hR
        obtain ⟨rfl, hR⟩ := hp
        refine sA hS hR (Yld.pickT hS rfl rfl) (by decide) ?_; clear hS; intro aa hS
        refine sA hS hR (Yld.assign hS rfl) (by decide) ?_; clear hS; intro aa hS
        refine wpList_nil ?_
        refine hK356 _ _ ?_
        refine wp_ret ?_
        repeat (first | with_reducible refine thenR ?_ | with_reducible refine blockR ?_ | with_reducible refine scopeR ?_)
        refine ret1 (fn := Try.f3) (e := .ret) (.inl rfl) Try.results3 hS hR ⟨_, (.tmp rfl), ?_⟩
        exact ⟨rfl, (hR.sub (by repeat (first | with_reducible exact Ex.refl | (with_reducible apply Ex.take; · repeat (first | with_reducible exact Pk.here | with_reducible apply Pk.there)) | with_reducible apply Ex.drop)))⟩
end Go.Proofs.Ytmlebadfedleoaa.Sx
