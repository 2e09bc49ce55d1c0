/-
  
-/
import Derived.Test.YtmlebadfedleoaaArA
namespace Go.Proofs.Ytmlebadfedleoaa.Sx
open Go
set_option linter.unusedVariables false
set_option linter.unusedSimpArgs false



theorem At_okA {A : Ar} {b : Nat} {l : List HP} {w : World} {s : Int} (hR : Sep (arena 57 60 b A :: l) w) : CallR Try.prog 16 [.pointer (some ⟨b, 0, none⟩), .int .i64 s] w (fun v w' => v = atV A s ∧ Sep (arena 57 60 b A :: l) w') := by
  obtain ⟨br, rs, hA, hR⟩ := hR.arenaE
  exact CallR.mono (At_ok hA hR) fun v w' h => ⟨h.1, Sep.arenaI hA rfl rfl rfl h.2⟩
theorem Live_okA {A : Ar} {b : Nat} {l : List HP} {w : World} {s u : Int} (hR : Sep (arena 57 60 b A :: l) w) : CallR Try.prog 13 [.pointer (some ⟨b, 0, none⟩), .agg [.int .i64 s, .int .i64 u].toArray] w (fun v w' => v = .bool (decide (A.at s = some u)) ∧ Sep (arena 57 60 b A :: l) w') := by
  obtain ⟨br, rs, hA, hR⟩ := hR.arenaE
  exact CallR.mono (Live_ok hA hR) fun v w' h => ⟨h.1, Sep.arenaI hA rfl rfl rfl h.2⟩
theorem Take_okA {A : Ar} {b : Nat} {l : List HP} {w : World} (hR : Sep (arena 57 60 b A :: l) w) : CallR Try.prog 10 [.pointer (some ⟨b, 0, none⟩)] w (fun v w' => v = .tuple [.agg [.int .i64 A.top.1, .int .i64 A.top.2.1].toArray, .int .i64 A.top.2.2].toArray ∧ Sep (arena 57 60 b A.take :: l) w') := by
  obtain ⟨br, rs, hA, hR⟩ := hR.arenaE
  exact Take_ok hA hR
theorem Give_okA {A : Ar} {b : Nat} {l : List HP} {w : World} {s u : Int} (hR : Sep (arena 57 60 b A :: l) w) : CallR Try.prog 11 [.pointer (some ⟨b, 0, none⟩), .agg [.int .i64 s, .int .i64 u].toArray] w (fun v w' => v = .int .i64 (A.giveE s u) ∧ Sep (arena 57 60 b (A.giveH s u) :: l) w') := by
  obtain ⟨br, rs, hA, hR⟩ := hR.arenaE
  exact Give_ok hA hR
theorem Count_okA {A : Ar} {b : Nat} {l : List HP} {w : World} (hR : Sep (arena 57 60 b A :: l) w) : CallR Try.prog 15 [.pointer (some ⟨b, 0, none⟩)] w (fun v w' => v = .int .i64 (cnt A.tk) ∧ Sep (arena 57 60 b A :: l) w') := by
  obtain ⟨br, rs, hA, hR⟩ := hR.arenaE
  exact CallR.mono (Count_ok hA hR) fun v w' h => ⟨h.1, Sep.arenaI hA rfl rfl rfl h.2⟩
theorem Size_okA {A : Ar} {b : Nat} {l : List HP} {w : World} (hR : Sep (arena 57 60 b A :: l) w) : CallR Try.prog 23 [.pointer (some ⟨b, 0, none⟩)] w (fun v w' => v = .int .i64 A.turn.length ∧ Sep (arena 57 60 b A :: l) w') := by
  obtain ⟨br, rs, hA, hR⟩ := hR.arenaE
  exact CallR.mono (Size_ok hA hR) fun v w' h => ⟨by rw [h.1, hA.len], Sep.arenaI hA rfl rfl rfl h.2⟩
theorem Free_okA {A : Ar} {b : Nat} {l : List HP} {w : World} (hR : Sep (arena 57 60 b A :: l) w) : CallR Try.prog 14 [.pointer (some ⟨b, 0, none⟩)] w (fun v w' => ∃ r c, v = .slice r A.free.length c ∧ Sep (sls r A.free.length c 3 1 (A.frees.flatMap e1) :: arena 57 60 b A :: l) w') := by
  obtain ⟨br, rs, hA, hR⟩ := hR.arenaE
  exact CallR.mono (Free_ok hA hR) fun v w' ⟨r, c, h, h2⟩ => ⟨r, c, h, (Sep.arenaI hA rfl rfl rfl ((h2.pk (.there (.there .here))).pk (.there (.there .here)))).pk (.there .here)⟩
theorem All_okA {A : Ar} {b : Nat} {l : List HP} {w : World} (hR : Sep (arena 57 60 b A :: l) w) : CallR Try.prog 17 [.pointer (some ⟨b, 0, none⟩)] w (fun v w' => ∃ r c, v = .slice r A.lives.length c ∧ Sep (sls r A.lives.length c 29 2 (A.lives.flatMap e2) :: arena 57 60 b A :: l) w') := by
  obtain ⟨br, rs, hA, hR⟩ := hR.arenaE
  exact CallR.mono (All_ok hA hR) fun v w' ⟨r, c, h, h2⟩ => ⟨r, c, h, (Sep.arenaI hA rfl rfl rfl ((h2.pk (.there (.there .here))).pk (.there (.there .here)))).pk (.there .here)⟩
theorem some_okA {A : Ar} {b : Nat} {l : List HP} {w : World} (hR : Sep (arena 57 60 b A :: l) w) : CallR Try.prog 24 [.pointer (some ⟨b, 0, none⟩)] w (fun v w' => v = .bool true ∧ Sep (arena 57 60 b A :: l) w') := by
  obtain ⟨br, rs, hA, hR⟩ := hR.arenaE
  have := hA.len
  have := hA.ok.pos
  exact CallR.mono (some_ok hR (by omega)) fun v w' h => ⟨h.1, Sep.arenaI hA rfl rfl rfl h.2⟩
set_option maxHeartbeats 1000000 in
set_option maxRecDepth 20000 in
theorem Clear_okA {A : Ar} {b : Nat} {l : List HP} {w : World} (hR : Sep (arena 57 60 b A :: l) w) : CallR Try.prog 18 [.pointer (some ⟨b, 0, none⟩)] w (fun v w' => v = .int .i64 0 ∧ Sep (arena 57 60 b (A.clrs A.turn.length) :: l) w') := by
  refine enter Try.func18 rfl Try.ntmps18 (Nat.le_of_ble_eq_true rfl) ?_; intro aa hS
  refine wp_seq_k ?_; intro K98 hK98
  refine wp_region_lit ?_
  refine sA hS hR (Yld.assign hS rfl) (by decide) ?_; clear hS; intro aa hS
  refine wpList_nil ?_
  refine hK98 _ _ ?_
  refine wp_seq_k ?_; intro K99 hK99
  refine wp_seq_k ?_; intro K100 hK100
  refine wp_region_lit ?_
  refine sA hS hR (Yld.move hS rfl) (by decide) ?_; clear hS; intro aa hS
  refine sB (Bcall hS rfl Try.call24 (some_okA (hR.pk (r := arena 57 60 _ _) (by repeat (first | with_reducible exact Pk.here | with_reducible apply Pk.there)))) (by decide) ?_); clear hS; intro aa ww vv hS hp
  clear hR
  obtain ⟨rfl, hR⟩ := hp
  obtain ⟨br, rs, hA, hR⟩ := hR.arenaE
  have hlen := hA.len
  have hpos := hA.ok.pos
  refine sA hS hR (Yld.not hS rfl) (by decide) ?_; clear hS; intro aa hS
  refine wpList_nil ?_
  refine hK100 _ _ ?_
  refine condF hS rfl ?_
  refine wp_skip ?_
  refine hK99 _ _ ?_
  refine wp_seq_k ?_; intro K101 hK101
  refine wp_seq_k ?_; intro K102 hK102
  refine wp_region_lit ?_
  refine sA hS hR (Yld.move hS rfl) (by decide) ?_; clear hS; intro aa hS
  refine sA hS hR (Yld.nilCheck hS rfl) (by decide) ?_; clear hS; intro aa hS
  refine sA hS hR (Yld.fieldAddr hS rfl 0 Try.underlying57 rfl rfl info55 (by decide)) (by decide) ?_; clear hS; intro aa hS
  refine sA hS hR (Yld.load1 hS rfl Try.underlying55 rfl (Rd.blk (by repeat (first | with_reducible exact Pk.here | with_reducible apply Pk.there)) (by rfl))) (by decide) ?_; clear hS; intro aa hS
  refine sA hS hR (Yld.len hS rfl Try.underlying55) (by decide) ?_; clear hS; intro aa hS
  refine sA hS hR ((by first | exact Yld.sub64 hS rfl rfl (by omega) | exact Yld.sub hS rfl rfl)) (by decide) ?_; clear hS; intro aa hS
  refine sA hS hR (Yld.assign hS rfl) (by decide) ?_; clear hS; intro aa hS
  refine wpList_nil ?_
  refine hK102 _ _ ?_
  refine wp_block ?_
  replace hR := Sep.arenaI hA rfl rfl rfl hR
  replace hR := hR.pk (r := arena 57 60 b A) (by repeat (first | with_reducible exact Pk.here | with_reducible apply Pk.there))
  refine loopI (X := Nat × Int) (without [3, 4, 5, 15, 16, 17, 18, 19, 20, 21, 22, 23, 24, 25, 26, 27, 28] _) (fun x => [(3, .int .i64 x.2)]) (fun x => [arena 57 60 b (A.clrs x.1)]) _ (fun x => x.1 ≤ A.turn.length ∧ x.2 = (A.turn.length : Int) - 1 - x.1) (fun x => A.turn.length - x.1) (0, (rs.length : Int) - 1) (by dsimp only; omega) (hS.le (by refine (Le.cons rfl (Le.nilapp (Le.without _ _))))) hR ?_
  clear hS hR; rintro ⟨j, i⟩ aa ww hI hS hR; dsimp only [List.cons_append, List.nil_append] at hI hS hR
  refine wp_seq_k ?_; intro K104 hK104
  refine wp_seq_k ?_; intro K105 hK105
  refine wp_region_lit ?_
  refine sA hS hR (Yld.move hS rfl) (by decide) ?_; clear hS; intro aa hS
  refine sA hS hR (Yld.geq hS rfl rfl) (by decide) ?_; clear hS; intro aa hS
  refine wpList_nil ?_
  refine hK105 _ _ ?_
  refine hS.splitB (t := 16) rfl ?_ ?_ <;> clear hS
  · intro hg hS
    have hj : j < A.turn.length := by omega
    obtain rfl : i = ((A.turn.length - 1 - j : Nat) : Int) := by omega
    refine condT hS rfl ?_
    refine wp_skip ?_
    refine hK104 _ _ ?_
    refine wp_seq_k ?_; intro K106 hK106
    refine wp_block ?_
    refine wp_seq_k ?_; intro K107 hK107
    refine wp_region_lit ?_
    refine sA hS hR (Yld.move hS rfl) (by decide) ?_; clear hS; intro aa hS
    refine sA hS hR (Yld.move hS rfl) (by decide) ?_; clear hS; intro aa hS
    refine sB (Bcall hS rfl Try.call16 (At_okA (hR.pk (r := arena 57 60 _ _) (by repeat (first | with_reducible exact Pk.here | with_reducible apply Pk.there)))) (by decide) ?_); clear hS; intro aa ww vv hS hp
    clear hR
    obtain ⟨rfl, hR⟩ := hp
    unfold atV at hS
    refine sA hS hR (Yld.move hS rfl) (by decide) ?_; clear hS; intro aa hS
    refine sA hS hR (Yld.extract hS rfl rfl) (by decide) ?_; clear hS; intro aa hS
    refine sA hS hR (Yld.extract hS rfl rfl) (by decide) ?_; clear hS; intro aa hS
    refine sB (Balloc hS hR info29 (by rfl) (by rfl) (by decide) ?_); clear hS hR; intro aa ww bb4 hS hR
    refine sB (Bstore hS hR rfl rfl (by rfl) info29 (by rfl) (by repeat (first | with_reducible exact Pk.here | with_reducible apply Pk.there)) (by rfl) (Nat.le_of_ble_eq_true rfl) ?_); clear hR; intro ww hR
    refine sA hS hR (Yld.assign hS rfl) (by decide) ?_; clear hS; intro aa hS
    refine wpList_nil ?_
    refine hK107 _ _ ?_
    refine wp_seq_k ?_; intro K108 hK108
    refine wp_region_lit ?_
    refine sA hS hR (Yld.move hS rfl) (by decide) ?_; clear hS; intro aa hS
    refine wpList_nil ?_
    refine hK108 _ _ ?_
    refine hS.splitB (t := 25) rfl ?_ ?_ <;> clear hS
    · intro hg hS
      obtain ⟨u, hu⟩ := Option.isSome_iff_exists.1 hg
      simp only [lay, List.set, hu, Option.isSome_some, if_true, Option.getD_some] at hR
      have hcy := clrs_yes hu
      refine condT hS rfl ?_
      refine wp_region_lit ?_
      refine sA hS hR (Yld.move hS rfl) (by decide) ?_; clear hS; intro aa hS
      refine sA hS hR (Yld.loadAgg hS rfl Try.underlying29 rfl info29 (Rds.cons (Rd.blk (by repeat (first | with_reducible exact Pk.here | with_reducible apply Pk.there)) (by rfl)) (Rds.cons (Rd.blk (by repeat (first | with_reducible exact Pk.here | with_reducible apply Pk.there)) (by rfl)) (Rds.nil))) (by rfl)) (by decide) ?_; clear hS; intro aa hS
      refine sB (Bcall hS rfl Try.call11 (Give_okA (hR.pk (r := arena 57 60 _ _) (by repeat (first | with_reducible exact Pk.here | with_reducible apply Pk.there)))) (by decide) ?_); clear hS; intro aa ww vv hS hp
      clear hR
      obtain ⟨rfl, hR⟩ := hp
      rw [← hcy] at hR
      refine wpList_nil ?_
      refine hK106 _ _ ?_
      refine wp_region_lit ?_
      refine sA hS hR (Yld.move hS rfl) (by decide) ?_; clear hS; intro aa hS
      refine sA hS hR ((by first | exact Yld.sub64 hS rfl rfl (by omega) | exact Yld.sub hS rfl rfl)) (by decide) ?_; clear hS; intro aa hS
      refine sA hS hR (Yld.assign hS rfl) (by decide) ?_; clear hS; intro aa hS
      refine wpList_nil ?_
      
      refine ⟨(j + 1, _), ?_, ?_, hS.le (Le.cons rfl (Le.nilapp (by repeat (first | with_reducible exact Le.refl _ | refine Le.skip (lk_without rfl) ?_ | refine Le_inner rfl ?_)))), hR.sub (Ex.take (by repeat (first | with_reducible exact Pk.here | with_reducible apply Pk.there)) (Ex.nilapp (by repeat (first | with_reducible exact Ex.refl | (with_reducible apply Ex.take; · repeat (first | with_reducible exact Pk.here | with_reducible apply Pk.there)) | with_reducible apply Ex.drop))))⟩
      · dsimp only; omega
      · dsimp only; omega
    · intro hg hS
      have hcn := clrs_no (A := A) (j := j) (by simpa using hg)
      rw [← hcn] at hR
      refine condF hS rfl ?_
      refine wp_skip ?_
      refine hK106 _ _ ?_
      refine wp_region_lit ?_
      refine sA hS hR (Yld.move hS rfl) (by decide) ?_; clear hS; intro aa hS
      refine sA hS hR ((by first | exact Yld.sub64 hS rfl rfl (by omega) | exact Yld.sub hS rfl rfl)) (by decide) ?_; clear hS; intro aa hS
      refine sA hS hR (Yld.assign hS rfl) (by decide) ?_; clear hS; intro aa hS
      refine wpList_nil ?_
      
      refine ⟨(j + 1, _), ?_, ?_, hS.le (Le.cons rfl (Le.nilapp (by repeat (first | with_reducible exact Le.refl _ | refine Le.skip (lk_without rfl) ?_ | refine Le_inner rfl ?_)))), hR.sub (Ex.take (by repeat (first | with_reducible exact Pk.here | with_reducible apply Pk.there)) (Ex.nilapp (by repeat (first | with_reducible exact Ex.refl | (with_reducible apply Ex.take; · repeat (first | with_reducible exact Pk.here | with_reducible apply Pk.there)) | with_reducible apply Ex.drop))))⟩
      · dsimp only; omega
      · dsimp only; omega
  · intro hg hS
    have hj : j = A.turn.length := by omega
    rw [hj] at hR
    refine condF hS rfl ?_
    refine wp_exit ?_
    refine hK101 _ _ ?_
    refine wp_seq_k ?_; intro K109 hK109
    refine wp_region_lit ?_
    refine sA hS hR (Yld.assign hS rfl) (by decide) ?_; clear hS; intro aa hS
    refine wpList_nil ?_
    refine hK109 _ _ ?_
    refine wp_ret ?_
    repeat (first | with_reducible refine thenR ?_ | with_reducible refine blockR ?_ | with_reducible refine scopeR ?_)
    refine ret1 (fn := Try.f18) (e := .ret) (.inl rfl) Try.results18 hS hR ⟨_, (.tmp rfl), ?_⟩
    exact ⟨rfl, (hR.sub (by repeat (first | with_reducible exact Ex.refl | (with_reducible apply Ex.take; · repeat (first | with_reducible exact Pk.here | with_reducible apply Pk.there)) | with_reducible apply Ex.drop)))⟩
end Go.Proofs.Ytmlebadfedleoaa.Sx
