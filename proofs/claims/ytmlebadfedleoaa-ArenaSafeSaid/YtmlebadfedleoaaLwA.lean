/-
  
-/
import Derived.Test.YtmlebadfedleoaaKit
import Derived.Test.YtmlebadfedleoaaAr3
namespace Go.Proofs.Ytmlebadfedleoaa.Sx
open Go
set_option linter.unusedVariables false
set_option linter.unusedSimpArgs false

theorem bld29_0 (x0 : Int) (w : World) : (Instr.build 29 [(0, .int .i64 x0)].toArray).run Try.prog w = .ok (.agg [.int .i64 x0, .int .i64 0].toArray) w := by kernel_rfl
theorem bld29_1 (x1 : Int) (w : World) : (Instr.build 29 [(1, .int .i64 x1)].toArray).run Try.prog w = .ok (.agg [.int .i64 0, .int .i64 x1].toArray) w := by kernel_rfl
theorem bls36_2_0_1 (x0 : Int) (x1 : Int) (w : World) : (Instr.buildSlice 36 2 [(0, .int .i64 x0), (1, .int .i64 x1)].toArray).run Try.prog w = .ok (.slice (some ⟨w.heap.size, 0, none⟩) 2 2) (w.alloc (.cells ([.int .i64 x0, .int .i64 x1] : List Value).toArray 3)) := by kernel_rfl
theorem bls36_3_0_1_2 (x0 : Int) (x1 : Int) (x2 : Int) (w : World) : (Instr.buildSlice 36 3 [(0, .int .i64 x0), (1, .int .i64 x1), (2, .int .i64 x2)].toArray).run Try.prog w = .ok (.slice (some ⟨w.heap.size, 0, none⟩) 3 3) (w.alloc (.cells ([.int .i64 x0, .int .i64 x1, .int .i64 x2] : List Value).toArray 3)) := by kernel_rfl

def hs0 (k : Nat) : List (Int × Int) := (List.range k).map fun i : Nat => ((i : Int), (0 : Int))
def aw3 : Ar := (Ar.new 3).takes 3
def aw4 : Ar := aw3.giveH 1 0
def aw5 : Ar := aw4.giveH 0 0
def aw6 : Ar := aw5.take
def aw8 : Ar := aw6.clrs aw6.turn.length
theorem aw5_fr : aw5.frees = [0, 1] := by decide +kernel
theorem aw8_fr : aw8.frees = [0, 2, 1] := by decide +kernel
set_option maxHeartbeats 4000000 in
set_option maxRecDepth 20000 in
theorem awake_ok {l : List HP} {w : World} (hR : Sep l w) : CallR Try.prog 12 ([] : List Value) w (fun v w' => v = .bool true ∧ Sep l w') := by
  refine enter Try.func12 rfl Try.ntmps12 (Nat.le_of_ble_eq_true rfl) ?_; intro aa hS
  refine wp_seq_k ?_; intro K123 hK123
  refine wp_region_lit ?_
  refine sA hS hR (Yld.assign hS rfl) (by decide) ?_; clear hS; intro aa hS
  refine wpList_nil ?_
  refine hK123 _ _ ?_
  refine wp_seq_k ?_; intro K124 hK124
  refine wp_region_lit ?_
  refine sB (Bcall hS rfl Try.call9 (New_ok hR (by omega)) (by decide) ?_); clear hS; intro aa ww vv hS hp
  clear hR
  obtain ⟨b, rfl, hR⟩ := hp
  rw [show (3 : Int).toNat = 3 from rfl] at hR
  refine sA hS hR (Yld.move hS rfl) (by decide) ?_; clear hS; intro aa hS
  refine sA hS hR (Yld.extract hS rfl rfl) (by decide) ?_; clear hS; intro aa hS
  refine sA hS hR (Yld.extract hS rfl rfl) (by decide) ?_; clear hS; intro aa hS
  refine sA hS hR (Yld.assign hS rfl) (by decide) ?_; clear hS; intro aa hS
  refine sA hS hR (Yld.assign hS rfl) (by decide) ?_; clear hS; intro aa hS
  refine wpList_nil ?_
  refine hK124 _ _ ?_
  refine wp_seq_k ?_; intro K125 hK125
  refine wp_seq_k ?_; intro K126 hK126
  refine wp_region_lit ?_
  refine sA hS hR (Yld.move hS rfl) (by decide) ?_; clear hS; intro aa hS
  refine sA hS hR (Yld.neq hS rfl rfl) (by decide) ?_; clear hS; intro aa hS
  replace hS := hS.sayB (t := 20) false rfl (by simp)
  refine sA hS hR (Yld.move hS rfl) (by decide) ?_; clear hS; intro aa hS
  refine sAg hS hR rfl rfl (Yld.move hS rfl) (by decide) ?_; clear hS; intro aa hS
  refine sAg hS hR rfl rfl (Yld.eqlNil hS rfl rfl Try.underlying23) (by decide) ?_; clear hS; intro aa hS
  replace hS := hS.sayB (t := 23) false rfl (by rfl)
  refine sA hS hR (Yld.pickF hS rfl rfl) (by decide) ?_; clear hS; intro aa hS
  refine wpList_nil ?_
  refine hK126 _ _ ?_
  refine condF hS rfl ?_
  refine wp_skip ?_
  refine hK125 _ _ ?_
  refine wp_seq_k ?_; intro K127 hK127
  refine wp_region_lit ?_
  refine sA hS hR (Yld.assign hS rfl) (by decide) ?_; clear hS; intro aa hS
  refine wpList_nil ?_
  refine hK127 _ _ ?_
  refine wp_seq_k ?_; intro K128 hK128
  refine wp_seq_k ?_; intro K129 hK129
  refine wp_region_lit ?_
  refine sA hS hR (Yld.move hS rfl) (by decide) ?_; clear hS; intro aa hS
  refine wpList_nil ?_
  refine hK129 _ _ ?_
  refine wp_block ?_
  replace hR := hR.slsNil (T := 29) (sz := 2)
  replace hR := hR.pk (r := sls none 0 0 29 2 []) (by repeat (first | with_reducible exact Pk.here | with_reducible apply Pk.there))
  replace hR := hR.pk (r := arena 57 60 b (Ar.new 3)) (by repeat (first | with_reducible exact Pk.here | with_reducible apply Pk.there))
  refine loopI (X := Nat × Option Addr × Nat) (without [0, 3, 4, 5, 25, 26, 27, 28, 29, 30, 31, 32, 33, 34, 35, 36, 37, 38] _) (fun x => [(3, .slice x.2.1 x.1 x.2.2), (25, .int .i64 (x.1 : Int))]) (fun x => [arena 57 60 b ((Ar.new 3).takes x.1), sls x.2.1 x.1 x.2.2 29 2 ((hs0 x.1).flatMap e2)]) _ (fun x => x.1 ≤ 3) (fun x => 3 - x.1) (0, none, 0) (Nat.zero_le _) (hS.le (by refine (Le.cons rfl (Le.cons rfl (Le.nilapp (Le.without _ _)))))) hR ?_
  clear hS hR; rintro ⟨k, q, c⟩ aa ww hI hS hR; dsimp only [List.cons_append, List.nil_append] at hI hS hR
  refine wp_seq_k ?_; intro K131 hK131
  refine wp_region_lit ?_
  refine sA hS hR (Yld.lss hS rfl rfl) (by decide) ?_; clear hS; intro aa hS
  refine wpList_nil ?_
  refine hK131 _ _ ?_
  refine wp_seq_k ?_; intro K132 hK132
  refine hS.splitB (t := 26) rfl ?_ ?_ <;> clear hS
  · intro hg hS
    refine condT hS rfl ?_
    refine wp_skip ?_
    refine hK132 _ _ ?_
    refine wp_seq_k ?_; intro K133 hK133
    refine wp_block ?_
    refine wp_seq_k ?_; intro K134 hK134
    refine wp_region_lit ?_
    refine sA hS hR (Yld.move hS rfl) (by decide) ?_; clear hS; intro aa hS
    refine sB (Bcall hS rfl Try.call10 (Take_okA (hR.pk (r := arena 57 60 _ _) (by repeat (first | with_reducible exact Pk.here | with_reducible apply Pk.there)))) (by decide) ?_); clear hS; intro aa ww vv hS hp
    clear hR
    obtain ⟨rfl, hR⟩ := hp
    rw [takes_top (by omega)] at hS; dsimp only at hS
    change Sep (arena 57 60 b ((Ar.new 3).takes (k + 1)) :: _) _ at hR
    refine sA hS hR (Yld.move hS rfl) (by decide) ?_; clear hS; intro aa hS
    refine sA hS hR (Yld.extract hS rfl rfl) (by decide) ?_; clear hS; intro aa hS
    refine sA hS hR (Yld.extract hS rfl rfl) (by decide) ?_; clear hS; intro aa hS
    refine sB (Balloc hS hR info29 (by rfl) (by rfl) (by decide) ?_); clear hS hR; intro aa ww bb4 hS hR
    refine sB (Bstore hS hR rfl rfl (by rfl) info29 (by rfl) (by repeat (first | with_reducible exact Pk.here | with_reducible apply Pk.there)) (by rfl) (Nat.le_of_ble_eq_true rfl) ?_); clear hR; intro ww hR
    refine sA hS hR (Yld.assign hS rfl) (by decide) ?_; clear hS; intro aa hS
    refine wpList_nil ?_
    refine hK134 _ _ ?_
    refine wp_seq_k ?_; intro K135 hK135
    refine wp_seq_k ?_; intro K136 hK136
    refine wp_region_lit ?_
    refine sA hS hR (Yld.move hS rfl) (by decide) ?_; clear hS; intro aa hS
    refine sA hS hR (Yld.neq hS rfl rfl) (by decide) ?_; clear hS; intro aa hS
    replace hS := hS.sayB (t := 33) false rfl (by simp)
    refine wpList_nil ?_
    refine hK136 _ _ ?_
    refine condF hS rfl ?_
    refine wp_skip ?_
    refine hK135 _ _ ?_
    refine wp_region_lit ?_
    refine sA hS hR (Yld.move hS rfl) (by decide) ?_; clear hS; intro aa hS
    refine sA hS hR (Yld.loadAgg hS rfl Try.underlying29 rfl info29 (Rds.cons (Rd.blk (by repeat (first | with_reducible exact Pk.here | with_reducible apply Pk.there)) (by rfl)) (Rds.cons (Rd.blk (by repeat (first | with_reducible exact Pk.here | with_reducible apply Pk.there)) (by rfl)) (Rds.nil))) (by rfl)) (by decide) ?_; clear hS; intro aa hS
    refine sB (BbuildSlice hS hR rfl (bls27_1_0 _ _) (by decide) ?_); clear hS hR; intro aa ww bb36 hS hR
    refine sB (Bappend (sz := 2) hS hR rfl rfl Try.underlying27 info29 rfl rfl (by rfl) (by repeat (first | with_reducible exact Pk.here | with_reducible apply Pk.there)) (XC.blk (by repeat (first | with_reducible exact Pk.here | with_reducible apply Pk.there)) (by rfl)) (by rfl) (by show (_ + _) * 16 ≤ _; omega) (by omega) (by decide) ?_); clear hS hR; intro aa ww r37 c37 hS hR
    replace hR := hR.slsSnoc (enc := e2) (x := ((k : Int), (0 : Int))) (ys := hs0 (k + 1)) (n' := k + 1) rfl rfl (by simp [hs0, List.range_succ])
    refine sA hS hR (Yld.assign hS rfl) (by decide) ?_; clear hS; intro aa hS
    refine wpList_nil ?_
    refine hK133 _ _ ?_
    refine wp_region_lit ?_
    refine sA hS hR ((by first | exact Yld.add64 hS rfl rfl (by omega) | exact Yld.add hS rfl rfl)) (by decide) ?_; clear hS; intro aa hS
    refine sA hS hR (Yld.move hS rfl) (by decide) ?_; clear hS; intro aa hS
    refine wpList_nil ?_
    
    refine ⟨(k + 1, _, _), ?_, ?_, hS.le (Le.cons rfl (Le.cons rfl (Le.nilapp (by repeat (first | with_reducible exact Le.refl _ | refine Le.skip (lk_without rfl) ?_ | refine Le_inner rfl ?_))))), hR.sub (Ex.take (by repeat (first | with_reducible exact Pk.here | with_reducible apply Pk.there)) (Ex.take (by repeat (first | with_reducible exact Pk.here | with_reducible apply Pk.there)) (Ex.nilapp (by repeat (first | with_reducible exact Ex.refl | (with_reducible apply Ex.take; · repeat (first | with_reducible exact Pk.here | with_reducible apply Pk.there)) | with_reducible apply Ex.drop)))))⟩
    · dsimp only; omega
    · dsimp only; omega
  · intro hg hS
    obtain rfl : k = 3 := by omega
    refine condF hS rfl ?_
    refine wp_exit ?_
    refine hK128 _ _ ?_
    refine wp_seq_k ?_; intro K137 hK137
    refine wp_region_lit ?_
    refine sA hS hR (Yld.move hS rfl) (by decide) ?_; clear hS; intro aa hS
    refine sB (Bcall hS rfl Try.call10 (Take_okA (hR.pk (r := arena 57 60 _ _) (by repeat (first | with_reducible exact Pk.here | with_reducible apply Pk.there)))) (by decide) ?_); clear hS; intro aa ww vv hS hp
    clear hR
    obtain ⟨rfl, hR⟩ := hp
    rw [show ((Ar.new 3).takes 3).top = (0, 0, 4) from by decide +kernel] at hS; (try dsimp only at hS)
    rw [Ar.take_nil (show ((Ar.new 3).takes 3).free = [] from by decide +kernel)] at hR
    change Sep (arena 57 60 b aw3 :: _) _ at hR
    refine sA hS hR (Yld.move hS rfl) (by decide) ?_; clear hS; intro aa hS
    refine sA hS hR (Yld.extract hS rfl rfl) (by decide) ?_; clear hS; intro aa hS
    refine sA hS hR (Yld.extract hS rfl rfl) (by decide) ?_; clear hS; intro aa hS
    refine sB (Balloc hS hR info29 (by rfl) (by rfl) (by decide) ?_); clear hS hR; intro aa ww bb6 hS hR
    refine sB (Bstore hS hR rfl rfl (by rfl) info29 (by rfl) (by repeat (first | with_reducible exact Pk.here | with_reducible apply Pk.there)) (by rfl) (Nat.le_of_ble_eq_true rfl) ?_); clear hR; intro ww hR
    refine sA hS hR (Yld.assign hS rfl) (by decide) ?_; clear hS; intro aa hS
    refine wpList_nil ?_
    refine hK137 _ _ ?_
    refine wp_seq_k ?_; intro K138 hK138
    refine drawn (by kernel_rfl) hR (Ex.of_pk (r := arena 57 60 b _) (by repeat (first | with_reducible exact Pk.here | with_reducible apply Pk.there))) ?_; clear hR; intro ww hR hR0
    refine dA 0 rfl (by kernel_rfl) (by kernel_rfl) (by kernel_rfl) (fun _ _ _ h => h) hS hR0 (Yld.move hS rfl) (by decide) ?_; clear hS; intro aa hS
    refine dA 1 rfl (by kernel_rfl) (by kernel_rfl) (by kernel_rfl) (fun _ _ _ h => h) hS hR0 (Yld.move hS rfl) (by decide) ?_; clear hS; intro aa hS
    refine dA 2 rfl (by kernel_rfl) (by kernel_rfl) (by kernel_rfl) (fun _ _ _ h => h) hS hR0 (Yld.indexSls hS rfl rfl Try.underlying27 info29 (by repeat (first | with_reducible exact Pk.here | with_reducible apply Pk.there)) (by omega) (by omega)) (by decide) ?_; clear hS; intro aa hS
    refine dA 3 rfl (by kernel_rfl) (by kernel_rfl) (by kernel_rfl) (fun _ _ _ h => h) hS hR0 (Yld.loadAgg (vs := [.int .i64 1, .int .i64 0]) hS rfl Try.underlying29 rfl info29 (Rds.at (Rds.sls (xs := hs0 3) (by repeat (first | with_reducible exact Pk.here | with_reducible apply Pk.there)) e2_len (show 1 < (hs0 3).length by decide)) (by rfl)) (by rfl)) (by decide) ?_; clear hS; intro aa hS
    refine dA 5 rfl (by kernel_rfl) (by kernel_rfl) (by kernel_rfl) (fun _ _ _ h => h) hS hR0 (Yld.move hS rfl) (by decide) ?_; clear hS; intro aa hS
    refine dA 6 rfl (by kernel_rfl) (by kernel_rfl) (by kernel_rfl) (fun _ _ _ h => h) hS hR0 (Yld.move hS rfl) (by decide) ?_; clear hS; intro aa hS
    refine dA 7 rfl (by kernel_rfl) (by kernel_rfl) (by kernel_rfl) (fun _ _ _ h => h) hS hR0 (Yld.indexSls hS rfl rfl Try.underlying27 info29 (by repeat (first | with_reducible exact Pk.here | with_reducible apply Pk.there)) (by omega) (by omega)) (by decide) ?_; clear hS; intro aa hS
    refine dA 8 rfl (by kernel_rfl) (by kernel_rfl) (by kernel_rfl) (fun _ _ _ h => h) hS hR0 (Yld.loadAgg (vs := [.int .i64 0, .int .i64 0]) hS rfl Try.underlying29 rfl info29 (Rds.at (Rds.sls (xs := hs0 3) (by repeat (first | with_reducible exact Pk.here | with_reducible apply Pk.there)) e2_len (show 0 < (hs0 3).length by decide)) (by rfl)) (by rfl)) (by decide) ?_; clear hS; intro aa hS
    refine dOne (i := 4) (by kernel_rfl) ?_
    refine dop rfl (Bcall hS rfl Try.call11 (Give_okA (hR.pk (r := arena 57 60 _ _) (by repeat (first | with_reducible exact Pk.here | with_reducible apply Pk.there)))) (by decide) ?_); clear hS; intro aa ww vv hS hp
    clear hR hR0
    obtain ⟨rfl, hR⟩ := hp
    first
      | (rw [show aw3.giveE 1 0 = 0 from by decide +kernel] at hS; (try dsimp only at hS); change Sep (arena 57 60 b aw4 :: _) _ at hR)
      | (rw [show aw4.giveE 0 0 = 0 from by decide +kernel] at hS; (try dsimp only at hS); change Sep (arena 57 60 b aw5 :: _) _ at hR)
    refine dnext (hR.sub (by repeat (first | with_reducible exact Ex.refl | with_reducible apply Ex.drop))) ?_; intro hR0
    refine dOne (i := 9) (by kernel_rfl) ?_
    refine dop rfl (Bcall hS rfl Try.call11 (Give_okA (hR.pk (r := arena 57 60 _ _) (by repeat (first | with_reducible exact Pk.here | with_reducible apply Pk.there)))) (by decide) ?_); clear hS; intro aa ww vv hS hp
    clear hR hR0
    obtain ⟨rfl, hR⟩ := hp
    first
      | (rw [show aw3.giveE 1 0 = 0 from by decide +kernel] at hS; (try dsimp only at hS); change Sep (arena 57 60 b aw4 :: _) _ at hR)
      | (rw [show aw4.giveE 0 0 = 0 from by decide +kernel] at hS; (try dsimp only at hS); change Sep (arena 57 60 b aw5 :: _) _ at hR)
    refine dnext (hR.sub (by repeat (first | with_reducible exact Ex.refl | with_reducible apply Ex.drop))) ?_; intro hR0
    refine dA 10 rfl (by kernel_rfl) (by kernel_rfl) (by kernel_rfl) (fun _ _ _ h => h) hS hR0 (Yld.assign hS rfl) (by decide) ?_; clear hS; intro aa hS
    refine dA 11 rfl (by kernel_rfl) (by kernel_rfl) (by kernel_rfl) (fun _ _ _ h => h) hS hR0 (Yld.assign hS rfl) (by decide) ?_; clear hS; intro aa hS
    refine wpAnyH_done (by kernel_rfl) ?_ _; clear hR0
    refine hK138 _ _ ?_
    refine wp_seq_k ?_; intro K139 hK139
    refine wp_region_lit ?_
    refine sA hS hR (Yld.move hS rfl) (by decide) ?_; clear hS; intro aa hS
    refine sB (Bcall hS rfl Try.call14 (Free_okA (hR.pk (r := arena 57 60 _ _) (by repeat (first | with_reducible exact Pk.here | with_reducible apply Pk.there)))) (by decide) ?_); clear hS; intro aa ww vv hS hp
    clear hR
    obtain ⟨rf, crf, rfl, hR⟩ := hp
    
    refine sA hS hR (Yld.assign hS rfl) (by decide) ?_; clear hS; intro aa hS
    refine wpList_nil ?_
    refine hK139 _ _ ?_
    refine wp_seq_k ?_; intro K140 hK140
    refine wp_region_lit ?_
    refine sA hS hR (Yld.move hS rfl) (by decide) ?_; clear hS; intro aa hS
    refine sB (Bcall hS rfl Try.call10 (Take_okA (hR.pk (r := arena 57 60 _ _) (by repeat (first | with_reducible exact Pk.here | with_reducible apply Pk.there)))) (by decide) ?_); clear hS; intro aa ww vv hS hp
    clear hR
    obtain ⟨rfl, hR⟩ := hp
    rw [show aw5.top = (0, 1, 0) from by decide +kernel] at hS; (try dsimp only at hS)
    change Sep (arena 57 60 b aw6 :: _) _ at hR
    refine sA hS hR (Yld.move hS rfl) (by decide) ?_; clear hS; intro aa hS
    refine sA hS hR (Yld.extract hS rfl rfl) (by decide) ?_; clear hS; intro aa hS
    refine sA hS hR (Yld.extract hS rfl rfl) (by decide) ?_; clear hS; intro aa hS
    refine sB (Balloc hS hR info29 (by rfl) (by rfl) (by decide) ?_); clear hS hR; intro aa ww bb11 hS hR
    refine sB (Bstore hS hR rfl rfl (by rfl) info29 (by rfl) (by repeat (first | with_reducible exact Pk.here | with_reducible apply Pk.there)) (by rfl) (Nat.le_of_ble_eq_true rfl) ?_); clear hR; intro ww hR
    refine sA hS hR (Yld.assign hS rfl) (by decide) ?_; clear hS; intro aa hS
    refine wpList_nil ?_
    refine hK140 _ _ ?_
    refine wp_seq_k ?_; intro K141 hK141
    refine wp_region_lit ?_
    refine sA hS hR (Yld.move hS rfl) (by decide) ?_; clear hS; intro aa hS
    refine sA hS hR (Yld.move hS rfl) (by decide) ?_; clear hS; intro aa hS
    refine sA hS hR (Yld.indexSls hS rfl rfl Try.underlying27 info29 (by repeat (first | with_reducible exact Pk.here | with_reducible apply Pk.there)) (by omega) (by omega)) (by decide) ?_; clear hS; intro aa hS
    refine sA hS hR (Yld.loadAgg (vs := [.int .i64 0, .int .i64 0]) hS rfl Try.underlying29 rfl info29 (Rds.at (Rds.sls (xs := hs0 3) (by repeat (first | with_reducible exact Pk.here | with_reducible apply Pk.there)) e2_len (show 0 < (hs0 3).length by decide)) (by rfl)) (by rfl)) (by decide) ?_; clear hS; intro aa hS
    refine sB (Bcall hS rfl Try.call11 (Give_okA (hR.pk (r := arena 57 60 _ _) (by repeat (first | with_reducible exact Pk.here | with_reducible apply Pk.there)))) (by decide) ?_); clear hS; intro aa ww vv hS hp
    clear hR
    obtain ⟨rfl, hR⟩ := hp
    rw [show aw6.giveE 0 0 = 6 from by decide +kernel] at hS; (try dsimp only at hS)
    rw [Ar.giveH_no (show ¬ aw6.at 0 = some 0 from by decide +kernel)] at hR
    refine sA hS hR (Yld.assign hS rfl) (by decide) ?_; clear hS; intro aa hS
    refine wpList_nil ?_
    refine hK141 _ _ ?_
    refine wp_seq_k ?_; intro K142 hK142
    refine wp_region_lit ?_
    refine sA hS hR (Yld.move hS rfl) (by decide) ?_; clear hS; intro aa hS
    refine sB (Bcall hS rfl Try.call18 (Clear_okA (hR.pk (r := arena 57 60 _ _) (by repeat (first | with_reducible exact Pk.here | with_reducible apply Pk.there)))) (by decide) ?_); clear hS; intro aa ww vv hS hp
    clear hR
    obtain ⟨rfl, hR⟩ := hp
    change Sep (arena 57 60 b aw8 :: _) _ at hR
    refine sA hS hR (Yld.assign hS rfl) (by decide) ?_; clear hS; intro aa hS
    refine wpList_nil ?_
    refine hK142 _ _ ?_
    refine wp_seq_k ?_; intro K143 hK143
    refine wp_region_lit ?_
    refine sA hS hR (Yld.move hS rfl) (by decide) ?_; clear hS; intro aa hS
    refine sA hS hR (Yld.eql hS rfl rfl) (by decide) ?_; clear hS; intro aa hS
    replace hS := hS.sayB (t := 69) true rfl (by rfl)
    refine sA hS hR (Yld.move hS rfl) (by decide) ?_; clear hS; intro aa hS
    refine sAg hS hR rfl rfl (Yld.move hS rfl) (by decide) ?_; clear hS; intro aa hS
    refine sAg hS hR rfl rfl (Yld.move hS rfl) (by decide) ?_; clear hS; intro aa hS
    refine sAg hS hR rfl rfl ((by first | exact Yld.add64 hS rfl rfl (by omega) | exact Yld.add hS rfl rfl)) (by decide) ?_; clear hS; intro aa hS
    refine sAg hS hR rfl rfl (Yld.move hS rfl) (by decide) ?_; clear hS; intro aa hS
    refine sAg hS hR rfl rfl ((by first | exact Yld.add64 hS rfl rfl (by omega) | exact Yld.add hS rfl rfl)) (by decide) ?_; clear hS; intro aa hS
    refine sAg hS hR rfl rfl (Yld.move hS rfl) (by decide) ?_; clear hS; intro aa hS
    refine sAg hS hR rfl rfl ((by first | exact Yld.add64 hS rfl rfl (by omega) | exact Yld.add hS rfl rfl)) (by decide) ?_; clear hS; intro aa hS
    refine sAg hS hR rfl rfl (Yld.eql hS rfl rfl) (by decide) ?_; clear hS; intro aa hS
    replace hS := hS.sayB (t := 78) true rfl (by rfl)
    refine sA hS hR (Yld.pickT hS rfl rfl) (by decide) ?_; clear hS; intro aa hS
    refine sA hS hR (Yld.move hS rfl) (by decide) ?_; clear hS; intro aa hS
    refine sAg hS hR rfl rfl (Yld.move hS rfl) (by decide) ?_; clear hS; intro aa hS
    refine sAg hS hR rfl rfl (Yld.eql hS rfl rfl) (by decide) ?_; clear hS; intro aa hS
    replace hS := hS.sayB (t := 82) true rfl (by rfl)
    refine sA hS hR (Yld.pickT hS rfl rfl) (by decide) ?_; clear hS; intro aa hS
    refine sA hS hR (Yld.move hS rfl) (by decide) ?_; clear hS; intro aa hS
    refine sAg hS hR rfl rfl (Yld.move hS rfl) (by decide) ?_; clear hS; intro aa hS
    refine sAg hS hR rfl rfl (Yld.indexSls hS rfl rfl Try.underlying27 info29 (by repeat (first | with_reducible exact Pk.here | with_reducible apply Pk.there)) (by omega) (by omega)) (by decide) ?_; clear hS; intro aa hS
    refine sAg hS hR rfl rfl (Yld.loadAgg (vs := [.int .i64 0, .int .i64 0]) hS rfl Try.underlying29 rfl info29 (Rds.at (Rds.sls (xs := hs0 3) (by repeat (first | with_reducible exact Pk.here | with_reducible apply Pk.there)) e2_len (show 0 < (hs0 3).length by decide)) (by rfl)) (by rfl)) (by decide) ?_; clear hS; intro aa hS
    refine sAg hS hR rfl rfl (Yld.build hS rfl (bld29_)) (by decide) ?_; clear hS; intro aa hS
    refine sAg hS hR rfl rfl (Yld.binRun hS rfl rfl (eql29 _ _ _ _ _ _)) (by decide) ?_; clear hS; intro aa hS
    replace hS := hS.sayB (t := 89) true rfl (by rfl)
    refine sA hS hR (Yld.pickT hS rfl rfl) (by decide) ?_; clear hS; intro aa hS
    refine sA hS hR (Yld.move hS rfl) (by decide) ?_; clear hS; intro aa hS
    refine sAg hS hR rfl rfl (Yld.move hS rfl) (by decide) ?_; clear hS; intro aa hS
    refine sAg hS hR rfl rfl (Yld.indexSls hS rfl rfl Try.underlying27 info29 (by repeat (first | with_reducible exact Pk.here | with_reducible apply Pk.there)) (by omega) (by omega)) (by decide) ?_; clear hS; intro aa hS
    refine sAg hS hR rfl rfl (Yld.loadAgg (vs := [.int .i64 2, .int .i64 0]) hS rfl Try.underlying29 rfl info29 (Rds.at (Rds.sls (xs := hs0 3) (by repeat (first | with_reducible exact Pk.here | with_reducible apply Pk.there)) e2_len (show 2 < (hs0 3).length by decide)) (by rfl)) (by rfl)) (by decide) ?_; clear hS; intro aa hS
    refine sAg hS hR rfl rfl (Yld.build hS rfl (bld29_0 _)) (by decide) ?_; clear hS; intro aa hS
    refine sAg hS hR rfl rfl (Yld.binRun hS rfl rfl (eql29 _ _ _ _ _ _)) (by decide) ?_; clear hS; intro aa hS
    replace hS := hS.sayB (t := 96) true rfl (by rfl)
    refine sA hS hR (Yld.pickT hS rfl rfl) (by decide) ?_; clear hS; intro aa hS
    refine sA hS hR (Yld.move hS rfl) (by decide) ?_; clear hS; intro aa hS
    refine sAg hS hR rfl rfl (Yld.loadAgg hS rfl Try.underlying29 rfl info29 (Rds.cons (Rd.blk (by repeat (first | with_reducible exact Pk.here | with_reducible apply Pk.there)) (by rfl)) (Rds.cons (Rd.blk (by repeat (first | with_reducible exact Pk.here | with_reducible apply Pk.there)) (by rfl)) (Rds.nil))) (by rfl)) (by decide) ?_; clear hS; intro aa hS
    refine sAg hS hR rfl rfl (Yld.build hS rfl (bld29_1 _)) (by decide) ?_; clear hS; intro aa hS
    refine sAg hS hR rfl rfl (Yld.binRun hS rfl rfl (eql29 _ _ _ _ _ _)) (by decide) ?_; clear hS; intro aa hS
    replace hS := hS.sayB (t := 101) true rfl (by rfl)
    refine sA hS hR (Yld.pickT hS rfl rfl) (by decide) ?_; clear hS; intro aa hS
    refine sA hS hR (Yld.move hS rfl) (by decide) ?_; clear hS; intro aa hS
    refine sAg hS hR rfl rfl (Yld.move hS rfl) (by decide) ?_; clear hS; intro aa hS
    refine sAg hS hR rfl rfl (Yld.move hS rfl) (by decide) ?_; clear hS; intro aa hS
    refine sAg hS hR rfl rfl (Yld.indexSls hS rfl rfl Try.underlying27 info29 (by repeat (first | with_reducible exact Pk.here | with_reducible apply Pk.there)) (by omega) (by omega)) (by decide) ?_; clear hS; intro aa hS
    refine sAg hS hR rfl rfl (Yld.loadAgg (vs := [.int .i64 0, .int .i64 0]) hS rfl Try.underlying29 rfl info29 (Rds.at (Rds.sls (xs := hs0 3) (by repeat (first | with_reducible exact Pk.here | with_reducible apply Pk.there)) e2_len (show 0 < (hs0 3).length by decide)) (by rfl)) (by rfl)) (by decide) ?_; clear hS; intro aa hS
    refine sBg hS rfl rfl (Bcall hS rfl Try.call13 (Live_okA (hR.pk (r := arena 57 60 _ _) (by repeat (first | with_reducible exact Pk.here | with_reducible apply Pk.there)))) (by decide) ?_); clear hS; intro aa ww vv hS hp
    clear hR
    obtain ⟨rfl, hR⟩ := hp
    rw [show decide (aw8.at 0 = some 0) = false from by decide +kernel] at hS
    refine sAg hS hR rfl rfl (Yld.not hS rfl) (by decide) ?_; clear hS; intro aa hS
    replace hS := hS.sayB (t := 109) true rfl (by rfl)
    refine sA hS hR (Yld.pickT hS rfl rfl) (by decide) ?_; clear hS; intro aa hS
    refine sA hS hR (Yld.move hS rfl) (by decide) ?_; clear hS; intro aa hS
    refine sAg hS hR rfl rfl (Yld.move hS rfl) (by decide) ?_; clear hS; intro aa hS
    refine sBg hS rfl rfl (BbuildSlice hS hR rfl (bls36_2_0_1 _ _) (by decide) ?_); clear hS hR; intro aa ww bb113 hS hR
    refine sBg hS rfl rfl (Bcall hS rfl Try.call25 (SameInts_ok hR (xs := aw5.frees) (ys := [0, 1]) (hR.intsSls (by repeat (first | with_reducible exact Pk.here | with_reducible apply Pk.there))) (IntsAt.blk (cs := [.int .i64 0, .int .i64 1]) (by repeat (first | with_reducible exact Pk.here | with_reducible apply Pk.there)) rfl) (by rw [aw5_fr]; decide) (by decide)) (by decide) ?_); clear hS; intro aa ww vv hS hp
    clear hR
    obtain ⟨rfl, hR⟩ := hp
    replace hS := hS.sayB (t := 114) true rfl (by exact decide_eq_true aw5_fr)
    refine sA hS hR (Yld.pickT hS rfl rfl) (by decide) ?_; clear hS; intro aa hS
    refine sA hS hR (Yld.move hS rfl) (by decide) ?_; clear hS; intro aa hS
    refine sAg hS hR rfl rfl (Yld.move hS rfl) (by decide) ?_; clear hS; intro aa hS
    refine sBg hS rfl rfl (Bcall hS rfl Try.call14 (Free_okA (hR.pk (r := arena 57 60 _ _) (by repeat (first | with_reducible exact Pk.here | with_reducible apply Pk.there)))) (by decide) ?_); clear hS; intro aa ww vv hS hp
    clear hR
    obtain ⟨rg, crg, rfl, hR⟩ := hp
    
    refine sBg hS rfl rfl (BbuildSlice hS hR rfl (bls36_3_0_1_2 _ _ _) (by decide) ?_); clear hS hR; intro aa ww bb119 hS hR
    refine sBg hS rfl rfl (Bcall hS rfl Try.call25 (SameInts_ok hR (xs := aw8.frees) (ys := [0, 2, 1]) (hR.intsSls (by repeat (first | with_reducible exact Pk.here | with_reducible apply Pk.there))) (IntsAt.blk (cs := [.int .i64 0, .int .i64 2, .int .i64 1]) (by repeat (first | with_reducible exact Pk.here | with_reducible apply Pk.there)) rfl) (by rw [aw8_fr]; decide) (by decide)) (by decide) ?_); clear hS; intro aa ww vv hS hp
    clear hR
    obtain ⟨rfl, hR⟩ := hp
    replace hS := hS.sayB (t := 120) true rfl (by exact decide_eq_true aw8_fr)
    refine sA hS hR (Yld.pickT hS rfl rfl) (by decide) ?_; clear hS; intro aa hS
    refine sA hS hR (Yld.move hS rfl) (by decide) ?_; clear hS; intro aa hS
    refine sAg hS hR rfl rfl (Yld.move hS rfl) (by decide) ?_; clear hS; intro aa hS
    refine sBg hS rfl rfl (Bcall hS rfl Try.call15 (Count_okA (hR.pk (r := arena 57 60 _ _) (by repeat (first | with_reducible exact Pk.here | with_reducible apply Pk.there)))) (by decide) ?_); clear hS; intro aa ww vv hS hp
    clear hR
    obtain ⟨rfl, hR⟩ := hp
    rw [show cnt aw8.tk = 0 from by decide +kernel] at hS; (try dsimp only at hS)
    refine sAg hS hR rfl rfl (Yld.eql hS rfl rfl) (by decide) ?_; clear hS; intro aa hS
    replace hS := hS.sayB (t := 125) true rfl (by rfl)
    refine sA hS hR (Yld.pickT hS rfl rfl) (by decide) ?_; clear hS; intro aa hS
    refine sA hS hR (Yld.assign hS rfl) (by decide) ?_; clear hS; intro aa hS
    refine wpList_nil ?_
    refine hK143 _ _ ?_
    refine wp_ret ?_
    repeat (first | with_reducible refine thenR ?_ | with_reducible refine blockR ?_ | with_reducible refine scopeR ?_)
    refine ret1 (fn := Try.f12) (e := .ret) (.inl rfl) Try.results12 hS hR ⟨_, (.tmp rfl), ?_⟩
    exact ⟨rfl, (hR.sub (by repeat (first | with_reducible exact Ex.refl | (with_reducible apply Ex.take; · repeat (first | with_reducible exact Pk.here | with_reducible apply Pk.there)) | with_reducible apply Ex.drop)))⟩
end Go.Proofs.Ytmlebadfedleoaa.Sx
