/-
 
-/
import Derived.Test.YthhndmlfgjcgpaaZLwA
import Derived.Test.YthhndmlfgjcgpaaZPu
import Derived.Test.YthhndmlfgjcgpaaZPx
namespace Go.Proofs.Ythhndmlfgjcgpaa.Sx
open Go
set_option maxRecDepth 20000
set_option linter.unusedVariables false
set_option linter.unusedSimpArgs false
theorem info112 : Try.prog.info? 112 = some Try.t112 := by kernel_rfl
theorem info133 : Try.prog.info? 133 = some Try.t133 := by kernel_rfl
theorem bld112_  (w : World) : (Instr.build 112 [].toArray).run Try.prog w = .ok (.agg [.int .i64 0, .int .i64 0].toArray) w := by kernel_rfl
theorem bld112_0_1 (x0 : Int) (x1 : Int) (w : World) : (Instr.build 112 [(0, .int .i64 x0), (1, .int .i64 x1)].toArray).run Try.prog w = .ok (.agg [.int .i64 x0, .int .i64 x1].toArray) w := by kernel_rfl
theorem bld135_  (w : World) : (Instr.build 135 [].toArray).run Try.prog w = .ok (.agg [.slice none 0 0, .slice none 0 0, .slice none 0 0].toArray) w := by kernel_rfl
theorem bls133_1_0 (x0 : Bool) (w : World) : (Instr.buildSlice 133 1 [(0, .bool x0)].toArray).run Try.prog w = .ok (.slice (some ⟨w.heap.size, 0, none⟩) 1 1) (w.alloc (.cells ([.bool x0] : List Value).toArray 4)) := by kernel_rfl
theorem bls58_0_  (w : World) : (Instr.buildSlice 58 0 [].toArray).run Try.prog w = .ok (.slice (some ⟨w.heap.size, 0, none⟩) 0 0) (w.alloc (.cells ([] : List Value).toArray 3)) := by kernel_rfl
theorem RNew_ok {m : Nat} {l : List HP} {w : World} (hR : Sep l w) (hm : m ≤ 4096) : CallR Try.prog 56 [.int .i64 (m : Int)] w (fun v w' => ∃ b, v = .pointer (some ⟨b, 0, none⟩) ∧ Sep (rar 135 3 4 b (Ar.new m) :: l) w') := by
 refine enter Try.func56 rfl Try.ntmps56 (Nat.le_of_ble_eq_true rfl) ?_; intro aa hS
 refine wp_seq_k ?_; intro K858 hK858
 refine wp_region_lit ?_
 revert aa
 refine qN hR ?_
 intro aa hS
 refine wpList_nil ?_
 refine hK858 _ _ ?_
 refine wp_seq_k ?_; intro K859 hK859
 refine wp_region_lit ?_
 refine sA hS hR (Yld.build hS rfl (bld135_)) (by decide) ?_; clear hS; intro aa hS
 refine sB (Bbox hS hR rfl (by rfl) (by decide) ?_); clear hS hR; intro aa ww bb6 hS hR
 revert aa
 refine qN hR ?_
 intro aa hS
 refine wpList_nil ?_
 refine hK859 _ _ ?_
 refine wp_seq_k ?_; intro K860 hK860
 refine wp_seq_k ?_; intro K861 hK861
 refine wp_region_lit ?_
 revert aa
 refine qN hR ?_
 intro aa hS
 refine wpList_nil ?_
 refine hK861 _ _ ?_
 refine wp_block ?_
 replace hR := ((hR.slsNil (T := 4) (sz := 1)).slsNil (T := 3) (sz := 1)).slsNil (T := 3) (sz := 1)
 replace hR := hR.pk (r := blk bb6 _ _) pkQ
 replace hR := Sep.rarI (TR := 135) (TI := 3) (TB := 4) (b := bb6) (r1 := none) (r2 := none) (r3 := none) (c1 := 0) (c2 := 0) (c3 := 0) (n1 := 0) (n2 := 0) (n3 := 0) (A := Ar.new 0) (l := l) (new_rok (by omega)) rfl rfl rfl hR
 replace hR := hR.pk (r := rar 135 3 4 bb6 (Ar.new 0)) pkQ
 refine loopI (X := Nat) [(0, _), (2, _), (3, _)] (fun x => [(4, .int .i64 (x : Int))]) (fun x => [rar 135 3 4 bb6 (Ar.new x)]) _ (fun x => x ≤ m) (fun x => m - x) 0 (Nat.zero_le _) (hS.le (Le.cons rfl (Le.nilapp (Le.cons rfl (Le.cons rfl (Le.cons rfl (Le.nil _))))))) hR ?_
 clear hS hR; rintro k aa ww hI hS hR; dsimp only [List.cons_append, List.nil_append] at hI hS hR
 obtain ⟨r1, c1, r2, c2, r3, c3, hA, hR⟩ := hR.rarE
 have hk1 : (Ar.new k).frees.length = k := by simp [Ar.new, Ar.frees]
 have hk2 : (Ar.new k).turn.length = k := by simp [Ar.new]
 have hk3 : (Ar.new k).tk.length = k := by simp [Ar.new]
 refine wp_seq_k ?_; intro K863 hK863
 refine wp_seq_k ?_; intro K864 hK864
 refine wp_region_lit ?_
 revert aa
 refine qM hR ?_
 refine qM hR ?_
 refine qA hR rfl (fun _ hS => Yld.lss hS rfl rfl) ?_
 intro aa hS
 refine wpList_nil ?_
 refine hK864 _ _ ?_
 refine hS.splitB (t := 9) rfl ?_ ?_ <;> clear hS
 ·
  intro hg hS
  refine condT hS rfl ?_
  refine wp_skip ?_
  refine hK863 _ _ ?_
  refine wp_seq_k ?_; intro K865 hK865
  refine wp_block ?_
  refine wp_seq_k ?_; intro K866 hK866
  refine wp_region_lit ?_
  revert aa
  refine qM hR ?_
  refine qM hR ?_
  refine qA hR rfl (fun _ hS => Yld.nilCheck hS rfl) ?_
  refine qA hR rfl (fun _ hS => Yld.fieldAddr hS rfl 0 Try.underlying135 rfl rfl info58 (by decide)) ?_
  refine qA hR rfl (fun _ hS => Yld.load1 hS rfl Try.underlying58 rfl rdQ) ?_
  refine qM hR ?_
  intro aa hS
  refine sB (BbuildSlice hS hR rfl (bls58_1_0 _) (by decide) ?_); clear hS hR; intro aa ww bb18 hS hR
  refine sB (BappendR (sz := 1) hS hR rfl rfl Try.underlying58 info3 rfl rfl (by rfl) pkQ (XC.one ((k : Int)) pkQ (by rfl) rfl) (by intro _; rfl) (by show (_ + _) * 8 ≤ _; exact lenQ) lenQ (by first | rfl | (simp; done) | (simp; omega)) (by decide) ?_); clear hS hR; intro aa ww r19 c19 hS hR
  rw [← new_frees] at hS hR
  revert aa
  refine qA hR rfl (fun _ hS => Yld.nilCheck hS rfl) ?_
  refine qA hR rfl (fun _ hS => Yld.fieldAddr hS rfl 0 Try.underlying135 rfl rfl info58 (by decide)) ?_
  intro aa hS
  refine sB (Bstore hS hR rfl rfl (by rfl) info58 (by rfl) pkQ (by rfl) (Nat.le_of_ble_eq_true rfl) ?_); clear hR; intro ww hR
  refine wpList_nil ?_
  refine hK866 _ _ ?_
  refine wp_seq_k ?_; intro K867 hK867
  refine wp_region_lit ?_
  revert aa
  refine qM hR ?_
  refine qM hR ?_
  refine qA hR rfl (fun _ hS => Yld.nilCheck hS rfl) ?_
  refine qA hR rfl (fun _ hS => Yld.fieldAddr hS rfl 1 Try.underlying135 rfl rfl info58 (by decide)) ?_
  refine qA hR rfl (fun _ hS => Yld.load1 hS rfl Try.underlying58 rfl rdQ) ?_
  intro aa hS
  refine sB (BbuildSlice hS hR rfl (bls58_1_0 _) (by decide) ?_); clear hS hR; intro aa ww bb27 hS hR
  refine sB (BappendR (sz := 1) hS hR rfl rfl Try.underlying58 info3 rfl rfl (by rfl) pkQ (XC.one ((0 : Int)) pkQ (by rfl) rfl) (by intro _; rfl) (by show (_ + _) * 8 ≤ _; exact lenQ) lenQ (by first | rfl | (simp; done) | (simp; omega)) (by decide) ?_); clear hS hR; intro aa ww r28 c28 hS hR
  rw [← new_turn] at hS hR
  revert aa
  refine qA hR rfl (fun _ hS => Yld.nilCheck hS rfl) ?_
  refine qA hR rfl (fun _ hS => Yld.fieldAddr hS rfl 1 Try.underlying135 rfl rfl info58 (by decide)) ?_
  intro aa hS
  refine sB (Bstore hS hR rfl rfl (by rfl) info58 (by rfl) pkQ (by rfl) (Nat.le_of_ble_eq_true rfl) ?_); clear hR; intro ww hR
  refine wpList_nil ?_
  refine hK867 _ _ ?_
  refine wp_region_lit ?_
  revert aa
  refine qM hR ?_
  refine qM hR ?_
  refine qA hR rfl (fun _ hS => Yld.nilCheck hS rfl) ?_
  refine qA hR rfl (fun _ hS => Yld.fieldAddr hS rfl 2 Try.underlying135 rfl rfl info133 (by decide)) ?_
  refine qA hR rfl (fun _ hS => Yld.load1 hS rfl Try.underlying133 rfl rdQ) ?_
  intro aa hS
  refine sB (BbuildSlice hS hR rfl (bls133_1_0 _) (by decide) ?_); clear hS hR; intro aa ww bb36 hS hR
  refine sB (BappendR (sz := 1) hS hR rfl rfl Try.underlying133 info4 rfl rfl (by rfl) pkQ (XC.one (false) pkQ (by rfl) rfl) (by intro _; rfl) (by show (_ + _) * 1 ≤ _; exact lenQ) lenQ (by first | rfl | (simp; done) | (simp; omega)) (by decide) ?_); clear hS hR; intro aa ww r37 c37 hS hR
  rw [← new_tk] at hS hR
  revert aa
  refine qA hR rfl (fun _ hS => Yld.nilCheck hS rfl) ?_
  refine qA hR rfl (fun _ hS => Yld.fieldAddr hS rfl 2 Try.underlying135 rfl rfl info133 (by decide)) ?_
  intro aa hS
  refine sB (Bstore hS hR rfl rfl (by rfl) info133 (by rfl) pkQ (by rfl) (Nat.le_of_ble_eq_true rfl) ?_); clear hR; intro ww hR
  refine wpList_nil ?_
  refine hK865 _ _ ?_
  refine wp_region_lit ?_
  revert aa
  refine qM hR ?_
  intro aa hS
  refine sA hS hR adQ (by decide) ?_; clear hS; intro aa hS
  revert aa
  refine qN hR ?_
  intro aa hS
  refine wpList_nil ?_
  dsimp only [lay, List.set] at hR
  replace hR := Sep.rarI (TR := 135) (TI := 3) (TB := 4) (b := bb6) (A := Ar.new (k + 1))  (new_rok (by omega)) (by rfl) (by rfl) (by rfl) (hR.sub exQ)
  refine ⟨k + 1, ?_, ?_, hS.le (Le.cons rfl (Le.nilapp (Le.cons rfl (Le.cons rfl (Le.cons rfl (Le.nil _)))))), hR.sub (Ex.take pkQ (Ex.nilapp exQ))⟩
  ·
   omega
  ·
   omega
 ·
  intro hg hS
  obtain rfl : m = k := by omega
  replace hR := Sep.rarI (TR := 135) (TI := 3) (TB := 4) (b := bb6) (A := Ar.new m)  hA (by rfl) (by rfl) (by rfl) (hR.sub exQ)
  refine condF hS rfl ?_
  refine wp_exit ?_
  refine hK860 _ _ ?_
  refine wp_seq_k ?_; intro K868 hK868
  refine wp_region_lit ?_
  revert aa
  refine qM hR ?_
  refine qN hR ?_
  intro aa hS
  refine wpList_nil ?_
  refine hK868 _ _ ?_
  refine wp_ret ?_
  repeat first | with_reducible refine thenR ?_ | with_reducible refine blockR ?_ | with_reducible refine scopeR ?_
  refine ret1 (fn := Try.f56) (e := .ret) (.inl rfl) Try.results56 hS hR ⟨_, (.tmp rfl), ?_⟩
  exact ⟨_, rfl, (hR.sub exQ)⟩
theorem RTake_ok {A : Ar} {b : Nat} {l : List HP} {w : World} (hR : Sep (rar 135 3 4 b A :: l) w) : CallR Try.prog 83 [.pointer (some ⟨b, 0, none⟩)] w (fun v w' => v = .tuple [.agg [.int .i64 A.top.1, .int .i64 A.top.2.1].toArray, .int .i64 A.top.2.2].toArray ∧ Sep (rar 135 3 4 b A.take :: l) w') := by
 refine enter Try.func83 rfl Try.ntmps83 (Nat.le_of_ble_eq_true rfl) ?_; intro aa hS
 obtain ⟨r1, c1, r2, c2, r3, c3, hA, hR⟩ := hR.rarE
 have hlen := hA.len
 have hmost := hA.most
 have hfrl := hA.free_len
 have hfl : A.frees.length = A.free.length := List.length_map _
 refine wp_seq_k ?_; intro K869 hK869
 refine wp_region_lit ?_
 refine sB (Balloc hS hR info112 (by rfl) (by rfl) (by decide) ?_); clear hS hR; intro aa ww bb2 hS hR
 revert aa
 refine qN hR ?_
 intro aa hS
 refine wpList_nil ?_
 refine hK869 _ _ ?_
 refine wp_seq_k ?_; intro K870 hK870
 refine wp_seq_k ?_; intro K871 hK871
 refine wp_region_lit ?_
 revert aa
 refine qM hR ?_
 refine qA hR rfl (fun _ hS => Yld.nilCheck hS rfl) ?_
 refine qA hR rfl (fun _ hS => Yld.fieldAddr hS rfl 0 Try.underlying135 rfl rfl info58 (by decide)) ?_
 refine qA hR rfl (fun _ hS => Yld.load1 hS rfl Try.underlying58 rfl rdQ) ?_
 refine qA hR rfl (fun _ hS => Yld.len hS rfl Try.underlying58) ?_
 refine qA hR rfl (fun _ hS => Yld.eql hS rfl rfl) ?_
 intro aa hS
 refine wpList_nil ?_
 refine hK871 _ _ ?_
 refine hS.splitB (t := 10) rfl ?_ ?_ <;> clear hS
 ·
  intro hg hS
  have hf : A.free = [] := List.eq_nil_of_length_eq_zero (by omega)
  refine condT hS rfl ?_
  refine wp_seq_k ?_; intro K872 hK872
  refine wp_region_lit ?_
  refine sA hS hR (Yld.build hS rfl (bld112_)) (by decide) ?_; clear hS; intro aa hS
  refine sB (Bstore hS hR rfl rfl (by rfl) info112 (by rfl) pkQ (by rfl) (Nat.le_of_ble_eq_true rfl) ?_); clear hR; intro ww hR
  revert aa
  refine qN hR ?_
  intro aa hS
  refine wpList_nil ?_
  refine hK872 _ _ ?_
  refine wp_ret ?_
  repeat first | with_reducible refine thenR ?_ | with_reducible refine blockR ?_ | with_reducible refine scopeR ?_
  refine retN (fn := Try.f83) (e := .ret) (.inl rfl) Try.results83 hS hR ⟨_, .cons (.agg rfl Try.underlying112 rfl info112 (Rds.cons (Rd.blk pkQ (by rfl)) (Rds.cons (Rd.blk pkQ (by rfl)) (Rds.nil))) (by rfl)) (.cons (.tmp rfl) (.nil)), rfl, ?_⟩
  try dsimp only [lay, List.set] at hR
  first
   | (rw [Ar.take_nil hf, Ar.top_nil hf]; exact ⟨rfl, Sep.rarI (TR := 135) (TI := 3) (TB := 4) (b := b) (A := A)  hA (by rfl) (by rfl) (by rfl) (hR.sub exQ)⟩)
   | (rw [Ar.take_cons hf, Ar.top_cons hf (List.getElem?_eq_getElem hit)]; exact ⟨rfl, Sep.rarI (TR := 135) (TI := 3) (TB := 4) (b := b) (A := { free := fs, turn := A.turn, tk := A.tk.set i true }) (n3 := A.tk.length) htk rfl rfl (by simp) (hR.sub exQ)⟩)
 ·
  intro hg hS
  obtain ⟨i, fs, hf⟩ : ∃ i fs, A.free = i :: fs := by
   cases h : A.free with
   | nil => exfalso; have h0 := congrArg List.length h; simp only [List.length_nil] at h0; omega
   | cons i fs => exact ⟨i, fs, rfl⟩
  have hit := hA.lt (i := i) (by rw [hf]; exact List.mem_cons_self)
  have htk := hA.take
  rw [Ar.take_cons hf] at htk
  refine condF hS rfl ?_
  refine wp_skip ?_
  refine hK870 _ _ ?_
  refine wp_seq_k ?_; intro K873 hK873
  refine wp_region_lit ?_
  revert aa
  refine qM hR ?_
  refine qA hR rfl (fun _ hS => Yld.nilCheck hS rfl) ?_
  refine qA hR rfl (fun _ hS => Yld.fieldAddr hS rfl 0 Try.underlying135 rfl rfl info58 (by decide)) ?_
  refine qA hR rfl (fun _ hS => Yld.load1 hS rfl Try.underlying58 rfl rdQ) ?_
  refine qA hR rfl (fun _ hS => ilQ 1 (0) Try.underlying58 info3) ?_
  intro aa hS
  refine sA hS hR (Yld.load1 hS rfl Try.underlying3 rfl rdQ) (by decide) ?_; clear hS; intro aa hS
  replace hS := hS.say (t := 17) (.int .i64 (i : Int)) rfl (by simp [Ar.frees, hf])
  revert aa
  refine qN hR ?_
  intro aa hS
  refine wpList_nil ?_
  refine hK873 _ _ ?_
  refine wp_seq_k ?_; intro K874 hK874
  refine wp_region_lit ?_
  revert aa
  refine qM hR ?_
  intro aa hS
  refine sB (BbuildSlice hS hR rfl (bls58_0_) (by decide) ?_); clear hS hR; intro aa ww bb19 hS hR
  replace hR := hR.pk (r := blk bb19 _ _) pkQ
  replace hR := Sep.toRecs (m := 0) (sz := 1) (enc := e1) (([] : List Int)) hR rfl (by intro _; rfl) rfl
  revert aa
  refine qM hR ?_
  refine qA hR rfl (fun _ hS => Yld.nilCheck hS rfl) ?_
  refine qA hR rfl (fun _ hS => Yld.fieldAddr hS rfl 0 Try.underlying135 rfl rfl info58 (by decide)) ?_
  refine qA hR rfl (fun _ hS => Yld.load1 hS rfl Try.underlying58 rfl rdQ) ?_
  refine qA hR rfl (fun _ hS => Yld.sliceLo hS rfl rfl Try.underlying58 info3 (by omega) (by omega)) ?_
  intro aa hS
  refine sB (BappendR (sz := 1) hS hR rfl rfl Try.underlying58 info3 rfl rfl (by rfl) pkQ (XC.part (r := r1) (lo := 1) pkQ (by intro _; rfl) (by rfl) (by omega)) (by intro _; rfl) (by show (_ + _) * 8 ≤ _; exact lenQ) lenQ (by simp) (by decide) ?_); clear hS hR; intro aa ww r25 c25 hS hR
  have hfx : ([] : List Int) ++ (A.frees.drop 1).take (A.frees.length - Int.toNat 1) = fs.map (fun j : Nat => (j : Int)) := by simp [Ar.frees, hf, List.take_of_length_le]
  rw [hfx] at hS hR
  revert aa
  refine qA hR rfl (fun _ hS => Yld.nilCheck hS rfl) ?_
  refine qA hR rfl (fun _ hS => Yld.fieldAddr hS rfl 0 Try.underlying135 rfl rfl info58 (by decide)) ?_
  intro aa hS
  refine sB (Bstore hS hR rfl rfl (by rfl) info58 (by rfl) pkQ (by rfl) (Nat.le_of_ble_eq_true rfl) ?_); clear hR; intro ww hR
  refine wpList_nil ?_
  refine hK874 _ _ ?_
  refine wp_seq_k ?_; intro K875 hK875
  refine wp_region_lit ?_
  revert aa
  refine qM hR ?_
  refine qA hR rfl (fun _ hS => Yld.nilCheck hS rfl) ?_
  refine qA hR rfl (fun _ hS => Yld.fieldAddr hS rfl 2 Try.underlying135 rfl rfl info133 (by decide)) ?_
  refine qA hR rfl (fun _ hS => Yld.load1 hS rfl Try.underlying133 rfl rdQ) ?_
  refine qM hR ?_
  refine qA hR rfl (fun _ hS => by first | exact Yld.indexL (sz := 1) _ hS rfl rfl Try.underlying133 info4 pkQ rfl rfl (by omega) | exact Yld.indexB (sz := 1) _ hS rfl rfl Try.underlying133 info4 rfl rfl (by omega) | exact Yld.indexSlice hS rfl rfl Try.underlying133 info4 (by omega) (by omega)) ?_
  intro aa hS
  refine sB (BstoreR0 (true) hS hR rfl rfl (by rfl) info4 (by rfl) pkQ (by rfl) (by intro _; rfl) (by omega) (by first | exact Nat.le_of_ble_eq_true rfl | (simp only [List.length_singleton]; omega)) (Nat.le_of_ble_eq_true rfl) (by rfl) ?_); clear hR; intro ww hR
  refine wpList_nil ?_
  refine hK875 _ _ ?_
  refine wp_seq_k ?_; intro K876 hK876
  refine wp_region_lit ?_
  revert aa
  refine qM hR ?_
  refine qM hR ?_
  refine qA hR rfl (fun _ hS => Yld.nilCheck hS rfl) ?_
  refine qA hR rfl (fun _ hS => Yld.fieldAddr hS rfl 1 Try.underlying135 rfl rfl info58 (by decide)) ?_
  intro aa hS
  refine sA hS hR (Yld.load1 hS rfl Try.underlying58 rfl rdQ) (by decide) ?_; clear hS; intro aa hS
  revert aa
  refine qM hR ?_
  refine qA hR rfl (fun _ hS => by first | exact Yld.indexL (sz := 1) _ hS rfl rfl Try.underlying58 info3 pkQ rfl rfl (by omega) | exact Yld.indexB (sz := 1) _ hS rfl rfl Try.underlying58 info3 rfl rfl (by omega) | exact Yld.indexSlice hS rfl rfl Try.underlying58 info3 (by omega) (by omega)) ?_
  intro aa hS
  refine sA hS hR (Yld.load1 hS rfl Try.underlying3 rfl rdQ) (by decide) ?_; clear hS; intro aa hS
  refine sA hS hR (Yld.build hS rfl (bld112_0_1 _ _)) (by decide) ?_; clear hS; intro aa hS
  refine sB (Bstore hS hR rfl rfl (by rfl) info112 (by rfl) pkQ (by rfl) (Nat.le_of_ble_eq_true rfl) ?_); clear hR; intro ww hR
  revert aa
  refine qN hR ?_
  intro aa hS
  refine wpList_nil ?_
  refine hK876 _ _ ?_
  refine wp_ret ?_
  repeat first | with_reducible refine thenR ?_ | with_reducible refine blockR ?_ | with_reducible refine scopeR ?_
  refine retN (fn := Try.f83) (e := .ret) (.inl rfl) Try.results83 hS hR ⟨_, .cons (.agg rfl Try.underlying112 rfl info112 (Rds.cons (Rd.blk pkQ (by rfl)) (Rds.cons (Rd.blk pkQ (by rfl)) (Rds.nil))) (by rfl)) (.cons (.tmp rfl) (.nil)), rfl, ?_⟩
  try dsimp only [lay, List.set] at hR
  first
   | (rw [Ar.take_nil hf, Ar.top_nil hf]; exact ⟨rfl, Sep.rarI (TR := 135) (TI := 3) (TB := 4) (b := b) (A := A)  hA (by rfl) (by rfl) (by rfl) (hR.sub exQ)⟩)
   | (rw [Ar.take_cons hf, Ar.top_cons hf (List.getElem?_eq_getElem hit)]; exact ⟨rfl, Sep.rarI (TR := 135) (TI := 3) (TB := 4) (b := b) (A := { free := fs, turn := A.turn, tk := A.tk.set i true }) (n3 := A.tk.length) htk rfl rfl (by simp) (hR.sub exQ)⟩)
theorem RLive_ok {A : Ar} {b : Nat} {l : List HP} {w : World} {s u : Int} (hR : Sep (rar 135 3 4 b A :: l) w) : CallR Try.prog 96 [.pointer (some ⟨b, 0, none⟩), .agg [.int .i64 s, .int .i64 u].toArray] w (fun v w' => v = .bool (decide (A.at s = some u)) ∧ Sep (rar 135 3 4 b A :: l) w') := by
 refine enter Try.func96 rfl Try.ntmps96 (Nat.le_of_ble_eq_true rfl) ?_; intro aa hS
 obtain ⟨r1, c1, r2, c2, r3, c3, hA, hR⟩ := hR.rarE
 have hlen := hA.len
 have hmost := hA.most
 have hfrl := hA.free_len
 have hfl : A.frees.length = A.free.length := List.length_map _
 refine wp_seq_k ?_; intro K877 hK877
 refine wp_region_lit ?_
 refine sB (Bbox hS hR rfl (by rfl) (by decide) ?_); clear hS hR; intro aa ww bb3 hS hR
 revert aa
 refine qN hR ?_
 intro aa hS
 refine wpList_nil ?_
 refine hK877 _ _ ?_
 refine wp_seq_k ?_; intro K878 hK878
 refine drawn krQ hR Ex.refl ?_; clear hR; intro ww hR hR0
 revert aa
 refine eA 0 rfl krQ (fun _ _ _ h => h) hR0 rfl (fun _ hS => Yld.fieldAddr hS rfl 0 Try.underlying112 rfl rfl info3 (by decide)) ?_
 refine eA 1 rfl krQ (fun _ _ _ h => h) hR0 rfl (fun _ hS => Yld.load1 hS rfl Try.underlying3 rfl rdQ) ?_
 refine eA 2 rfl krQ (fun _ _ _ h => h) hR0 rfl (fun _ hS => Yld.geq hS rfl rfl) ?_
 refine eA 3 rfl krQ (fun _ _ _ h => h) hR0 rfl (fun _ hS => Yld.move hS rfl) ?_
 intro aa hS
 refine hS.splitB (t := 8) rfl ?_ ?_ <;> clear hS
 ·
  intro hg hS
  revert aa
  refine eAg 4 rfl krQ (fun _ _ _ h => h) hR0 rfl rfl rfl (fun _ hS => Yld.fieldAddr hS rfl 0 Try.underlying112 rfl rfl info3 (by decide)) ?_
  refine eAg 5 rfl krQ (fun _ _ _ h => h) hR0 rfl rfl rfl (fun _ hS => Yld.load1 hS rfl Try.underlying3 rfl rdQ) ?_
  refine eAg 6 rfl krQ (fun _ _ _ h => h) hR0 rfl rfl rfl (fun _ hS => Yld.move hS rfl) ?_
  refine eAg 7 rfl krQ (fun _ _ _ h => h) hR0 rfl rfl rfl (fun _ hS => Yld.nilCheck hS rfl) ?_
  refine eAg 8 rfl krQ (fun _ _ _ h => h) hR0 rfl rfl rfl (fun _ hS => Yld.fieldAddr hS rfl 2 Try.underlying135 rfl rfl info133 (by decide)) ?_
  refine eAg 9 rfl krQ (fun _ _ _ h => h) hR0 rfl rfl rfl (fun _ hS => Yld.load1 hS rfl Try.underlying133 rfl rdQ) ?_
  refine eAg 10 rfl krQ (fun _ _ _ h => h) hR0 rfl rfl rfl (fun _ hS => Yld.len hS rfl Try.underlying133) ?_
  refine eAg 11 rfl krQ (fun _ _ _ h => h) hR0 rfl rfl rfl (fun _ hS => Yld.lss hS rfl rfl) ?_
  refine eA 12 rfl krQ (fun _ _ _ h => h) hR0 rfl (fun _ hS => Yld.pickT hS rfl rfl) ?_
  refine eA 13 rfl krQ (fun _ _ _ h => h) hR0 rfl (fun _ hS => Yld.move hS rfl) ?_
  intro aa hS
  refine hS.splitB (t := 18) rfl ?_ ?_ <;> clear hS
  ·
   intro hg hS
   revert aa
   refine eAg 14 rfl krQ (fun _ _ _ h => h) hR0 rfl rfl rfl (fun _ hS => Yld.move hS rfl) ?_
   refine eAg 15 rfl krQ (fun _ _ _ h => h) hR0 rfl rfl rfl (fun _ hS => Yld.nilCheck hS rfl) ?_
   refine eAg 16 rfl krQ (fun _ _ _ h => h) hR0 rfl rfl rfl (fun _ hS => Yld.fieldAddr hS rfl 2 Try.underlying135 rfl rfl info133 (by decide)) ?_
   refine eAg 17 rfl krQ (fun _ _ _ h => h) hR0 rfl rfl rfl (fun _ hS => Yld.load1 hS rfl Try.underlying133 rfl rdQ) ?_
   refine eAg 18 rfl krQ (fun _ _ _ h => h) hR0 rfl rfl rfl (fun _ hS => Yld.fieldAddr hS rfl 0 Try.underlying112 rfl rfl info3 (by decide)) ?_
   refine eAg 19 rfl krQ (fun _ _ _ h => h) hR0 rfl rfl rfl (fun _ hS => Yld.load1 hS rfl Try.underlying3 rfl rdQ) ?_
   refine eAg 20 rfl krQ (fun _ _ _ h => h) hR0 rfl rfl rfl (fun _ hS => ilQ 1 (s.toNat) Try.underlying133 info4) ?_
   intro aa hS
   refine dAg 21 rfl krQ krQ krQ (fun _ _ _ h => h) hS rfl rfl hR0 (Yld.load1 hS rfl Try.underlying4 rfl rdQ) (by decide) ?_; clear hS; intro aa hS
   revert aa
   refine eA 22 rfl krQ (fun _ _ _ h => h) hR0 rfl (fun _ hS => Yld.pickT hS rfl rfl) ?_
   refine eA 23 rfl krQ (fun _ _ _ h => h) hR0 rfl (fun _ hS => Yld.move hS rfl) ?_
   intro aa hS
   refine hS.splitB (t := 28) rfl ?_ ?_ <;> clear hS
   ·
    intro hg hS
    revert aa
    refine eAg 24 rfl krQ (fun _ _ _ h => h) hR0 rfl rfl rfl (fun _ hS => Yld.move hS rfl) ?_
    refine eAg 25 rfl krQ (fun _ _ _ h => h) hR0 rfl rfl rfl (fun _ hS => Yld.nilCheck hS rfl) ?_
    refine eAg 26 rfl krQ (fun _ _ _ h => h) hR0 rfl rfl rfl (fun _ hS => Yld.fieldAddr hS rfl 1 Try.underlying135 rfl rfl info58 (by decide)) ?_
    refine eAg 27 rfl krQ (fun _ _ _ h => h) hR0 rfl rfl rfl (fun _ hS => Yld.load1 hS rfl Try.underlying58 rfl rdQ) ?_
    refine eAg 28 rfl krQ (fun _ _ _ h => h) hR0 rfl rfl rfl (fun _ hS => Yld.fieldAddr hS rfl 0 Try.underlying112 rfl rfl info3 (by decide)) ?_
    refine eAg 29 rfl krQ (fun _ _ _ h => h) hR0 rfl rfl rfl (fun _ hS => Yld.load1 hS rfl Try.underlying3 rfl rdQ) ?_
    refine eAg 30 rfl krQ (fun _ _ _ h => h) hR0 rfl rfl rfl (fun _ hS => ilQ 1 (s.toNat) Try.underlying58 info3) ?_
    intro aa hS
    refine dAg 31 rfl krQ krQ krQ (fun _ _ _ h => h) hS rfl rfl hR0 (Yld.load1 hS rfl Try.underlying3 rfl rdQ) (by decide) ?_; clear hS; intro aa hS
    revert aa
    refine eAg 32 rfl krQ (fun _ _ _ h => h) hR0 rfl rfl rfl (fun _ hS => Yld.fieldAddr hS rfl 1 Try.underlying112 rfl rfl info3 (by decide)) ?_
    refine eAg 33 rfl krQ (fun _ _ _ h => h) hR0 rfl rfl rfl (fun _ hS => Yld.load1 hS rfl Try.underlying3 rfl rdQ) ?_
    refine eAg 34 rfl krQ (fun _ _ _ h => h) hR0 rfl rfl rfl (fun _ hS => Yld.eql hS rfl rfl) ?_
    refine eA 35 rfl krQ (fun _ _ _ h => h) hR0 rfl (fun _ hS => Yld.pickT hS rfl rfl) ?_
    refine eA 36 rfl krQ (fun _ _ _ h => h) hR0 rfl (fun _ hS => Yld.assign hS rfl) ?_
    intro aa hS
    refine wpAnyH_done krQ ?_ _; clear hR0
    refine hK878 _ _ ?_
    refine wp_ret ?_
    repeat first | with_reducible refine thenR ?_ | with_reducible refine blockR ?_ | with_reducible refine scopeR ?_
    refine ret1 (fn := Try.f96) (e := .ret) (.inl rfl) Try.results96 hS hR ⟨_, (.tmp rfl), ?_⟩
    refine ⟨?_, Sep.rarI (TR := 135) (TI := 3) (TB := 4) (b := b) (A := A)  hA (by rfl) (by rfl) (by rfl) (hR.sub exQ)⟩
    first
     | exact dec_no (by rw [Ar.at_off (by omega)]; simp)
     | exact dec_no (fun e => by have h := ((Ar.at_iff hA).1 e).2.1; rw [List.getElem?_eq_getElem (by omega)] at h; simp_all)
     | exact dec_iff (by rw [Ar.at_iff hA, List.getElem?_eq_getElem (by omega), List.getElem?_eq_getElem (by omega)]; simp_all)
   ·
    intro hg hS
    revert aa
    refine eZ 24 rfl hR0 ?_
    refine eZ 25 rfl hR0 ?_
    refine eZ 26 rfl hR0 ?_
    refine eZ 27 rfl hR0 ?_
    refine eZ 28 rfl hR0 ?_
    refine eZ 29 rfl hR0 ?_
    refine eZ 30 rfl hR0 ?_
    refine eZ 31 rfl hR0 ?_
    refine eZ 32 rfl hR0 ?_
    refine eZ 33 rfl hR0 ?_
    refine eZ 34 rfl hR0 ?_
    refine eA 35 rfl krQ (fun _ _ _ h => h) hR0 rfl (fun _ hS => Yld.pickF hS rfl rfl) ?_
    refine eA 36 rfl krQ (fun _ _ _ h => h) hR0 rfl (fun _ hS => Yld.assign hS rfl) ?_
    intro aa hS
    refine wpAnyH_done krQ ?_ _; clear hR0
    refine hK878 _ _ ?_
    refine wp_ret ?_
    repeat first | with_reducible refine thenR ?_ | with_reducible refine blockR ?_ | with_reducible refine scopeR ?_
    refine ret1 (fn := Try.f96) (e := .ret) (.inl rfl) Try.results96 hS hR ⟨_, (.tmp rfl), ?_⟩
    refine ⟨?_, Sep.rarI (TR := 135) (TI := 3) (TB := 4) (b := b) (A := A)  hA (by rfl) (by rfl) (by rfl) (hR.sub exQ)⟩
    first
     | exact dec_no (by rw [Ar.at_off (by omega)]; simp)
     | exact dec_no (fun e => by have h := ((Ar.at_iff hA).1 e).2.1; rw [List.getElem?_eq_getElem (by omega)] at h; simp_all)
     | exact dec_iff (by rw [Ar.at_iff hA, List.getElem?_eq_getElem (by omega), List.getElem?_eq_getElem (by omega)]; simp_all)
  ·
   intro hg hS
   revert aa
   refine eZ 14 rfl hR0 ?_
   refine eZ 15 rfl hR0 ?_
   refine eZ 16 rfl hR0 ?_
   refine eZ 17 rfl hR0 ?_
   refine eZ 18 rfl hR0 ?_
   refine eZ 19 rfl hR0 ?_
   refine eZ 20 rfl hR0 ?_
   refine eZ 21 rfl hR0 ?_
   refine eA 22 rfl krQ (fun _ _ _ h => h) hR0 rfl (fun _ hS => Yld.pickF hS rfl rfl) ?_
   refine eA 23 rfl krQ (fun _ _ _ h => h) hR0 rfl (fun _ hS => Yld.move hS rfl) ?_
   refine eZ 24 rfl hR0 ?_
   refine eZ 25 rfl hR0 ?_
   refine eZ 26 rfl hR0 ?_
   refine eZ 27 rfl hR0 ?_
   refine eZ 28 rfl hR0 ?_
   refine eZ 29 rfl hR0 ?_
   refine eZ 30 rfl hR0 ?_
   refine eZ 31 rfl hR0 ?_
   refine eZ 32 rfl hR0 ?_
   refine eZ 33 rfl hR0 ?_
   refine eZ 34 rfl hR0 ?_
   refine eA 35 rfl krQ (fun _ _ _ h => h) hR0 rfl (fun _ hS => Yld.pickF hS rfl rfl) ?_
   refine eA 36 rfl krQ (fun _ _ _ h => h) hR0 rfl (fun _ hS => Yld.assign hS rfl) ?_
   intro aa hS
   refine wpAnyH_done krQ ?_ _; clear hR0
   refine hK878 _ _ ?_
   refine wp_ret ?_
   repeat first | with_reducible refine thenR ?_ | with_reducible refine blockR ?_ | with_reducible refine scopeR ?_
   refine ret1 (fn := Try.f96) (e := .ret) (.inl rfl) Try.results96 hS hR ⟨_, (.tmp rfl), ?_⟩
   refine ⟨?_, Sep.rarI (TR := 135) (TI := 3) (TB := 4) (b := b) (A := A)  hA (by rfl) (by rfl) (by rfl) (hR.sub exQ)⟩
   first
    | exact dec_no (by rw [Ar.at_off (by omega)]; simp)
    | exact dec_no (fun e => by have h := ((Ar.at_iff hA).1 e).2.1; rw [List.getElem?_eq_getElem (by omega)] at h; simp_all)
    | exact dec_iff (by rw [Ar.at_iff hA, List.getElem?_eq_getElem (by omega), List.getElem?_eq_getElem (by omega)]; simp_all)
 ·
  intro hg hS
  revert aa
  refine eZ 4 rfl hR0 ?_
  refine eZ 5 rfl hR0 ?_
  refine eZ 6 rfl hR0 ?_
  refine eZ 7 rfl hR0 ?_
  refine eZ 8 rfl hR0 ?_
  refine eZ 9 rfl hR0 ?_
  refine eZ 10 rfl hR0 ?_
  refine eZ 11 rfl hR0 ?_
  refine eA 12 rfl krQ (fun _ _ _ h => h) hR0 rfl (fun _ hS => Yld.pickF hS rfl rfl) ?_
  refine eA 13 rfl krQ (fun _ _ _ h => h) hR0 rfl (fun _ hS => Yld.move hS rfl) ?_
  refine eZ 14 rfl hR0 ?_
  refine eZ 15 rfl hR0 ?_
  refine eZ 16 rfl hR0 ?_
  refine eZ 17 rfl hR0 ?_
  refine eZ 18 rfl hR0 ?_
  refine eZ 19 rfl hR0 ?_
  refine eZ 20 rfl hR0 ?_
  refine eZ 21 rfl hR0 ?_
  refine eA 22 rfl krQ (fun _ _ _ h => h) hR0 rfl (fun _ hS => Yld.pickF hS rfl rfl) ?_
  refine eA 23 rfl krQ (fun _ _ _ h => h) hR0 rfl (fun _ hS => Yld.move hS rfl) ?_
  refine eZ 24 rfl hR0 ?_
  refine eZ 25 rfl hR0 ?_
  refine eZ 26 rfl hR0 ?_
  refine eZ 27 rfl hR0 ?_
  refine eZ 28 rfl hR0 ?_
  refine eZ 29 rfl hR0 ?_
  refine eZ 30 rfl hR0 ?_
  refine eZ 31 rfl hR0 ?_
  refine eZ 32 rfl hR0 ?_
  refine eZ 33 rfl hR0 ?_
  refine eZ 34 rfl hR0 ?_
  refine eA 35 rfl krQ (fun _ _ _ h => h) hR0 rfl (fun _ hS => Yld.pickF hS rfl rfl) ?_
  refine eA 36 rfl krQ (fun _ _ _ h => h) hR0 rfl (fun _ hS => Yld.assign hS rfl) ?_
  intro aa hS
  refine wpAnyH_done krQ ?_ _; clear hR0
  refine hK878 _ _ ?_
  refine wp_ret ?_
  repeat first | with_reducible refine thenR ?_ | with_reducible refine blockR ?_ | with_reducible refine scopeR ?_
  refine ret1 (fn := Try.f96) (e := .ret) (.inl rfl) Try.results96 hS hR ⟨_, (.tmp rfl), ?_⟩
  refine ⟨?_, Sep.rarI (TR := 135) (TI := 3) (TB := 4) (b := b) (A := A)  hA (by rfl) (by rfl) (by rfl) (hR.sub exQ)⟩
  first
   | exact dec_no (by rw [Ar.at_off (by omega)]; simp)
   | exact dec_no (fun e => by have h := ((Ar.at_iff hA).1 e).2.1; rw [List.getElem?_eq_getElem (by omega)] at h; simp_all)
   | exact dec_iff (by rw [Ar.at_iff hA, List.getElem?_eq_getElem (by omega), List.getElem?_eq_getElem (by omega)]; simp_all)
theorem RAt_ok {A : Ar} {b : Nat} {l : List HP} {w : World} {s : Int} (hR : Sep (rar 135 3 4 b A :: l) w) : CallR Try.prog 57 [.pointer (some ⟨b, 0, none⟩), .int .i64 s] w (fun v w' => v = atV A s ∧ Sep (rar 135 3 4 b A :: l) w') := by
 refine enter Try.func57 rfl Try.ntmps57 (Nat.le_of_ble_eq_true rfl) ?_; intro aa hS
 obtain ⟨r1, c1, r2, c2, r3, c3, hA, hR⟩ := hR.rarE
 have hlen := hA.len
 have hmost := hA.most
 have hfrl := hA.free_len
 have hfl : A.frees.length = A.free.length := List.length_map _
 refine wp_seq_k ?_; intro K879 hK879
 refine wp_region_lit ?_
 refine sB (Balloc hS hR info112 (by rfl) (by rfl) (by decide) ?_); clear hS hR; intro aa ww bb4 hS hR
 revert aa
 refine qN hR ?_
 intro aa hS
 refine wpList_nil ?_
 refine hK879 _ _ ?_
 refine wp_seq_k ?_; intro K880 hK880
 refine wp_seq_k ?_; intro K881 hK881
 refine wp_region_lit ?_
 revert aa
 refine qM hR ?_
 refine qA hR rfl (fun _ hS => Yld.lss hS rfl rfl) ?_
 refine qM hR ?_
 intro aa hS
 refine hS.splitB (t := 8) rfl ?_ ?_ <;> clear hS
 ·
  intro hg hS
  revert aa
  refine qZ ?_
  refine qZ ?_
  refine qZ ?_
  refine qZ ?_
  refine qZ ?_
  refine qZ ?_
  refine qZ ?_
  refine qA hR rfl (fun _ hS => Yld.pickT hS rfl rfl) ?_
  refine qM hR ?_
  refine qZ ?_
  refine qZ ?_
  refine qZ ?_
  refine qZ ?_
  refine qZ ?_
  refine qZ ?_
  refine qZ ?_
  refine qZ ?_
  refine qA hR rfl (fun _ hS => Yld.pickT hS rfl rfl) ?_
  intro aa hS
  refine wpList_nil ?_
  refine hK881 _ _ ?_
  refine condT hS rfl ?_
  refine wp_seq_k ?_; intro K882 hK882
  refine wp_region_lit ?_
  refine sA hS hR (Yld.build hS rfl (bld112_)) (by decide) ?_; clear hS; intro aa hS
  refine sB (Bstore hS hR rfl rfl (by rfl) info112 (by rfl) pkQ (by rfl) (Nat.le_of_ble_eq_true rfl) ?_); clear hR; intro ww hR
  revert aa
  refine qN hR ?_
  intro aa hS
  refine wpList_nil ?_
  refine hK882 _ _ ?_
  refine wp_ret ?_
  repeat first | with_reducible refine thenR ?_ | with_reducible refine blockR ?_ | with_reducible refine scopeR ?_
  refine retN (fn := Try.f57) (e := .ret) (.inl rfl) Try.results57 hS hR ⟨_, .cons (.agg rfl Try.underlying112 rfl info112 (Rds.cons (Rd.blk pkQ (by rfl)) (Rds.cons (Rd.blk pkQ (by rfl)) (Rds.nil))) (by rfl)) (.cons (.tmp rfl) (.nil)), rfl, ?_⟩
  refine ⟨?_, Sep.rarI (TR := 135) (TI := 3) (TB := 4) (b := b) (A := A)  hA (by rfl) (by rfl) (by rfl) (hR.sub exQ)⟩
  first
   | (rw [atV_none (Ar.at_off (by omega))])
   | (rw [atV_none]; cases hat : A.at s with
     | none => rfl
     | some u => exfalso; have h := ((Ar.at_iff hA).1 hat).2.1; rw [List.getElem?_eq_getElem (by omega)] at h; simp_all)
   | (rw [atV_some]; rw [Ar.at_iff hA, List.getElem?_eq_getElem (by omega), List.getElem?_eq_getElem (by omega)]; simp_all)
 ·
  intro hg hS
  revert aa
  refine qMg hR ?_
  refine qMg hR ?_
  refine qAg hR rfl rfl rfl (fun _ hS => Yld.nilCheck hS rfl) ?_
  refine qAg hR rfl rfl rfl (fun _ hS => Yld.fieldAddr hS rfl 2 Try.underlying135 rfl rfl info133 (by decide)) ?_
  refine qAg hR rfl rfl rfl (fun _ hS => Yld.load1 hS rfl Try.underlying133 rfl rdQ) ?_
  refine qAg hR rfl rfl rfl (fun _ hS => Yld.len hS rfl Try.underlying133) ?_
  refine qAg hR rfl rfl rfl (fun _ hS => Yld.geq hS rfl rfl) ?_
  refine qA hR rfl (fun _ hS => Yld.pickF hS rfl rfl) ?_
  refine qM hR ?_
  intro aa hS
  refine hS.splitB (t := 17) rfl ?_ ?_ <;> clear hS
  ·
   intro hg hS
   revert aa
   refine qZ ?_
   refine qZ ?_
   refine qZ ?_
   refine qZ ?_
   refine qZ ?_
   refine qZ ?_
   refine qZ ?_
   refine qZ ?_
   refine qA hR rfl (fun _ hS => Yld.pickT hS rfl rfl) ?_
   intro aa hS
   refine wpList_nil ?_
   refine hK881 _ _ ?_
   refine condT hS rfl ?_
   refine wp_seq_k ?_; intro K883 hK883
   refine wp_region_lit ?_
   refine sA hS hR (Yld.build hS rfl (bld112_)) (by decide) ?_; clear hS; intro aa hS
   refine sB (Bstore hS hR rfl rfl (by rfl) info112 (by rfl) pkQ (by rfl) (Nat.le_of_ble_eq_true rfl) ?_); clear hR; intro ww hR
   revert aa
   refine qN hR ?_
   intro aa hS
   refine wpList_nil ?_
   refine hK883 _ _ ?_
   refine wp_ret ?_
   repeat first | with_reducible refine thenR ?_ | with_reducible refine blockR ?_ | with_reducible refine scopeR ?_
   refine retN (fn := Try.f57) (e := .ret) (.inl rfl) Try.results57 hS hR ⟨_, .cons (.agg rfl Try.underlying112 rfl info112 (Rds.cons (Rd.blk pkQ (by rfl)) (Rds.cons (Rd.blk pkQ (by rfl)) (Rds.nil))) (by rfl)) (.cons (.tmp rfl) (.nil)), rfl, ?_⟩
   refine ⟨?_, Sep.rarI (TR := 135) (TI := 3) (TB := 4) (b := b) (A := A)  hA (by rfl) (by rfl) (by rfl) (hR.sub exQ)⟩
   first
    | (rw [atV_none (Ar.at_off (by omega))])
    | (rw [atV_none]; cases hat : A.at s with
      | none => rfl
      | some u => exfalso; have h := ((Ar.at_iff hA).1 hat).2.1; rw [List.getElem?_eq_getElem (by omega)] at h; simp_all)
    | (rw [atV_some]; rw [Ar.at_iff hA, List.getElem?_eq_getElem (by omega), List.getElem?_eq_getElem (by omega)]; simp_all)
  ·
   intro hg hS
   revert aa
   refine qMg hR ?_
   refine qAg hR rfl rfl rfl (fun _ hS => Yld.nilCheck hS rfl) ?_
   refine qAg hR rfl rfl rfl (fun _ hS => Yld.fieldAddr hS rfl 2 Try.underlying135 rfl rfl info133 (by decide)) ?_
   refine qAg hR rfl rfl rfl (fun _ hS => Yld.load1 hS rfl Try.underlying133 rfl rdQ) ?_
   refine qMg hR ?_
   refine qAg hR rfl rfl rfl (fun _ hS => ilQ 1 (s.toNat) Try.underlying133 info4) ?_
   intro aa hS
   refine sAg hS hR rfl rfl (Yld.load1 hS rfl Try.underlying4 rfl rdQ) (by decide) ?_; clear hS; intro aa hS
   revert aa
   refine qAg hR rfl rfl rfl (fun _ hS => Yld.not hS rfl) ?_
   refine qA hR rfl (fun _ hS => Yld.pickF hS rfl rfl) ?_
   intro aa hS
   refine wpList_nil ?_
   refine hK881 _ _ ?_
   refine hS.splitB (t := 26) rfl ?_ ?_ <;> clear hS
   ·
    intro hg hS
    refine condT hS rfl ?_
    refine wp_seq_k ?_; intro K884 hK884
    refine wp_region_lit ?_
    refine sA hS hR (Yld.build hS rfl (bld112_)) (by decide) ?_; clear hS; intro aa hS
    refine sB (Bstore hS hR rfl rfl (by rfl) info112 (by rfl) pkQ (by rfl) (Nat.le_of_ble_eq_true rfl) ?_); clear hR; intro ww hR
    revert aa
    refine qN hR ?_
    intro aa hS
    refine wpList_nil ?_
    refine hK884 _ _ ?_
    refine wp_ret ?_
    repeat first | with_reducible refine thenR ?_ | with_reducible refine blockR ?_ | with_reducible refine scopeR ?_
    refine retN (fn := Try.f57) (e := .ret) (.inl rfl) Try.results57 hS hR ⟨_, .cons (.agg rfl Try.underlying112 rfl info112 (Rds.cons (Rd.blk pkQ (by rfl)) (Rds.cons (Rd.blk pkQ (by rfl)) (Rds.nil))) (by rfl)) (.cons (.tmp rfl) (.nil)), rfl, ?_⟩
    refine ⟨?_, Sep.rarI (TR := 135) (TI := 3) (TB := 4) (b := b) (A := A)  hA (by rfl) (by rfl) (by rfl) (hR.sub exQ)⟩
    first
     | (rw [atV_none (Ar.at_off (by omega))])
     | (rw [atV_none]; cases hat : A.at s with
       | none => rfl
       | some u => exfalso; have h := ((Ar.at_iff hA).1 hat).2.1; rw [List.getElem?_eq_getElem (by omega)] at h; simp_all)
     | (rw [atV_some]; rw [Ar.at_iff hA, List.getElem?_eq_getElem (by omega), List.getElem?_eq_getElem (by omega)]; simp_all)
   ·
    intro hg hS
    refine condF hS rfl ?_
    refine wp_skip ?_
    refine hK880 _ _ ?_
    refine wp_seq_k ?_; intro K885 hK885
    refine wp_region_lit ?_
    revert aa
    refine qM hR ?_
    refine qM hR ?_
    refine qA hR rfl (fun _ hS => Yld.nilCheck hS rfl) ?_
    refine qA hR rfl (fun _ hS => Yld.fieldAddr hS rfl 1 Try.underlying135 rfl rfl info58 (by decide)) ?_
    refine qA hR rfl (fun _ hS => Yld.load1 hS rfl Try.underlying58 rfl rdQ) ?_
    refine qM hR ?_
    refine qA hR rfl (fun _ hS => ilQ 1 (s.toNat) Try.underlying58 info3) ?_
    intro aa hS
    refine sA hS hR (Yld.load1 hS rfl Try.underlying3 rfl rdQ) (by decide) ?_; clear hS; intro aa hS
    refine sA hS hR (Yld.build hS rfl (bld112_0_1 _ _)) (by decide) ?_; clear hS; intro aa hS
    refine sB (Bstore hS hR rfl rfl (by rfl) info112 (by rfl) pkQ (by rfl) (Nat.le_of_ble_eq_true rfl) ?_); clear hR; intro ww hR
    revert aa
    refine qN hR ?_
    intro aa hS
    refine wpList_nil ?_
    refine hK885 _ _ ?_
    refine wp_ret ?_
    repeat first | with_reducible refine thenR ?_ | with_reducible refine blockR ?_ | with_reducible refine scopeR ?_
    refine retN (fn := Try.f57) (e := .ret) (.inl rfl) Try.results57 hS hR ⟨_, .cons (.agg rfl Try.underlying112 rfl info112 (Rds.cons (Rd.blk pkQ (by rfl)) (Rds.cons (Rd.blk pkQ (by rfl)) (Rds.nil))) (by rfl)) (.cons (.tmp rfl) (.nil)), rfl, ?_⟩
    refine ⟨?_, Sep.rarI (TR := 135) (TI := 3) (TB := 4) (b := b) (A := A)  hA (by rfl) (by rfl) (by rfl) (hR.sub exQ)⟩
    first
     | (rw [atV_none (Ar.at_off (by omega))])
     | (rw [atV_none]; cases hat : A.at s with
       | none => rfl
       | some u => exfalso; have h := ((Ar.at_iff hA).1 hat).2.1; rw [List.getElem?_eq_getElem (by omega)] at h; simp_all)
     | (rw [atV_some]; rw [Ar.at_iff hA, List.getElem?_eq_getElem (by omega), List.getElem?_eq_getElem (by omega)]; simp_all)
theorem RGive_ok {A : Ar} {b : Nat} {l : List HP} {w : World} {s u : Int} (hR : Sep (rar 135 3 4 b A :: l) w) : CallR Try.prog 85 [.pointer (some ⟨b, 0, none⟩), .agg [.int .i64 s, .int .i64 u].toArray] w (fun v w' => v = .int .i64 (A.giveE s u) ∧ Sep (rar 135 3 4 b (A.giveH s u) :: l) w') := by
 refine enter Try.func85 rfl Try.ntmps85 (Nat.le_of_ble_eq_true rfl) ?_; intro aa hS
 refine wp_seq_k ?_; intro K886 hK886
 refine wp_region_lit ?_
 refine sB (Bbox hS hR rfl (by rfl) (by decide) ?_); clear hS hR; intro aa ww bb3 hS hR
 revert aa
 refine qN hR ?_
 intro aa hS
 refine wpList_nil ?_
 refine hK886 _ _ ?_
 refine wp_seq_k ?_; intro K887 hK887
 refine wp_seq_k ?_; intro K888 hK888
 refine wp_region_lit ?_
 revert aa
 refine qM hR ?_
 intro aa hS
 refine sA hS hR (Yld.loadAgg hS rfl Try.underlying112 rfl info112 rdsQ2 (by rfl)) (by decide) ?_; clear hS; intro aa hS
 refine sB (Bcall hS rfl Try.call96 (RLive_ok (hR.pk (r := rar 135 3 4 _ _) pkQ)) (by decide) ?_); clear hS; intro aa ww vv hS hp
 clear hR
 obtain ⟨rfl, hR⟩ := hp
 refine sA hS hR (Yld.not hS rfl) (by decide) ?_; clear hS; intro aa hS
 refine wpList_nil ?_
 refine hK888 _ _ ?_
 refine hS.splitB (t := 8) rfl ?_ ?_ <;> clear hS
 ·
  intro hg hS
  refine condT hS rfl ?_
  refine wp_seq_k ?_; intro K889 hK889
  refine wp_region_lit ?_
  revert aa
  refine qN hR ?_
  intro aa hS
  refine wpList_nil ?_
  refine hK889 _ _ ?_
  refine wp_ret ?_
  repeat first | with_reducible refine thenR ?_ | with_reducible refine blockR ?_ | with_reducible refine scopeR ?_
  refine ret1 (fn := Try.f85) (e := .ret) (.inl rfl) Try.results85 hS hR ⟨_, (.tmp rfl), ?_⟩
  try dsimp only [lay, List.set] at hR
  first
   | (rw [Ar.giveH_no hg, show A.giveE s u = 6 from if_neg hg]; exact ⟨rfl, (hR.sub exQ)⟩)
   | (rw [Ar.giveH_yes hg, show A.giveE k u = 0 from if_pos hg, Ar.give_eq hku]; exact ⟨rfl, Sep.rarI (TR := 135) (TI := 3) (TB := 4) (b := b) (A := { free := k :: A.free, turn := A.turn.set k (IntKind.i64.wrap (A.turn[k] + 1)), tk := A.tk.set k false }) (n2 := A.turn.length) (n3 := A.tk.length) hgv rfl (by simp) (by simp) (hR.sub exQ)⟩)
 ·
  intro hg hS
  obtain ⟨r1, c1, r2, c2, r3, c3, hA, hR⟩ := hR.rarE
  have hlen := hA.len
  have hmost := hA.most
  have hfrl := hA.free_len
  have hfl : A.frees.length = A.free.length := List.length_map _
  obtain ⟨h1, h2, h3⟩ := (Ar.at_iff hA).1 hg
  obtain ⟨k, rfl⟩ : ∃ k : Nat, s = k := ⟨s.toNat, by omega⟩
  rw [Int.toNat_natCast] at h2 h3
  obtain ⟨hkt, h2e⟩ := List.getElem?_eq_some_iff.1 h2
  obtain ⟨hku, h3e⟩ := List.getElem?_eq_some_iff.1 h3
  have hgv := hA.give h2
  rw [Ar.give_eq hku] at hgv
  refine condF hS rfl ?_
  refine wp_skip ?_
  refine hK887 _ _ ?_
  refine wp_seq_k ?_; intro K890 hK890
  refine drawn krQ hR (Ex.of_pk (r := sls r3 _ _ _ _ _) pkQ) ?_; clear hR; intro ww hR hR0
  revert aa
  refine eA 0 rfl krQ (fun _ _ _ h => h) hR0 rfl (fun _ hS => Yld.move hS rfl) ?_
  refine eA 1 rfl krQ (fun _ _ _ h => h) hR0 rfl (fun _ hS => Yld.nilCheck hS rfl) ?_
  refine eA 2 rfl krQ (fun _ _ _ h => h) hR0 rfl (fun _ hS => Yld.fieldAddr hS rfl 2 Try.underlying135 rfl rfl info133 (by decide)) ?_
  refine eA 3 rfl krQ (fun _ _ _ h => h) hR0 rfl (fun _ hS => Yld.load1 hS rfl Try.underlying133 rfl rdQ) ?_
  refine eA 4 rfl krQ (fun _ _ _ h => h) hR0 rfl (fun _ hS => Yld.fieldAddr hS rfl 0 Try.underlying112 rfl rfl info3 (by decide)) ?_
  refine eA 5 rfl krQ (fun _ _ _ h => h) hR0 rfl (fun _ hS => Yld.load1 hS rfl Try.underlying3 rfl rdQ) ?_
  intro aa hS
  refine dOne (i := 6) krQ ?_
  refine dop rfl (BA hS hR ((by first | exact Yld.indexL (sz := 1) _ hS rfl rfl Try.underlying133 info4 pkQ rfl rfl (by omega) | exact Yld.indexB (sz := 1) _ hS rfl rfl Try.underlying133 info4 rfl rfl (by omega) | exact Yld.indexSlice hS rfl rfl Try.underlying133 info4 (by omega) (by omega))) (by decide) ?_); clear hS; intro aa hS; refine ⟨hR0, ?_⟩
  refine dOne (i := 7) krQ ?_
  refine dop rfl (BstoreR0 (false) hS hR rfl rfl (by rfl) info4 (by rfl) pkQ (by rfl) (by intro _; rfl) (by omega) (by first | exact Nat.le_of_ble_eq_true rfl | (simp only [List.length_singleton]; omega)) (Nat.le_of_ble_eq_true rfl) (by rfl) ?_); clear hR hR0; intro ww hR
  refine dnext (hR.sub exQ) ?_; intro hR0
  refine wpAnyH_done krQ ?_ _; clear hR0
  refine hK890 _ _ ?_
  refine wp_seq_k ?_; intro K891 hK891
  refine drawn krQ hR (Ex.of_pk (r := sls r2 _ _ _ _ _) pkQ) ?_; clear hR; intro ww hR hR0
  revert aa
  refine eA 0 rfl krQ (fun _ _ _ h => h) hR0 rfl (fun _ hS => Yld.move hS rfl) ?_
  refine eA 1 rfl krQ (fun _ _ _ h => h) hR0 rfl (fun _ hS => Yld.nilCheck hS rfl) ?_
  refine eA 2 rfl krQ (fun _ _ _ h => h) hR0 rfl (fun _ hS => Yld.fieldAddr hS rfl 1 Try.underlying135 rfl rfl info58 (by decide)) ?_
  intro aa hS
  refine dA 3 rfl krQ krQ krQ (fun _ _ _ h => h) hS hR0 (Yld.load1 hS rfl Try.underlying58 rfl rdQ) (by decide) ?_; clear hS; intro aa hS
  revert aa
  refine eA 4 rfl krQ (fun _ _ _ h => h) hR0 rfl (fun _ hS => Yld.fieldAddr hS rfl 0 Try.underlying112 rfl rfl info3 (by decide)) ?_
  refine eA 5 rfl krQ (fun _ _ _ h => h) hR0 rfl (fun _ hS => Yld.load1 hS rfl Try.underlying3 rfl rdQ) ?_
  refine eA 6 rfl krQ (fun _ _ _ h => h) hR0 rfl (fun _ hS => Yld.move hS rfl) ?_
  refine eA 7 rfl krQ (fun _ _ _ h => h) hR0 rfl (fun _ hS => Yld.nilCheck hS rfl) ?_
  refine eA 8 rfl krQ (fun _ _ _ h => h) hR0 rfl (fun _ hS => Yld.fieldAddr hS rfl 1 Try.underlying135 rfl rfl info58 (by decide)) ?_
  refine eA 9 rfl krQ (fun _ _ _ h => h) hR0 rfl (fun _ hS => Yld.load1 hS rfl Try.underlying58 rfl rdQ) ?_
  refine eA 10 rfl krQ (fun _ _ _ h => h) hR0 rfl (fun _ hS => Yld.fieldAddr hS rfl 0 Try.underlying112 rfl rfl info3 (by decide)) ?_
  refine eA 11 rfl krQ (fun _ _ _ h => h) hR0 rfl (fun _ hS => Yld.load1 hS rfl Try.underlying3 rfl rdQ) ?_
  intro aa hS
  refine dOne (i := 12) krQ ?_
  refine dop rfl (BA hS hR ((by first | exact Yld.indexL (sz := 1) _ hS rfl rfl Try.underlying58 info3 pkQ rfl rfl (by omega) | exact Yld.indexB (sz := 1) _ hS rfl rfl Try.underlying58 info3 rfl rfl (by omega) | exact Yld.indexSlice hS rfl rfl Try.underlying58 info3 (by omega) (by omega))) (by decide) ?_); clear hS; intro aa hS; refine ⟨hR0, ?_⟩
  refine dOne (i := 13) krQ ?_
  refine dop rfl (BA hS hR (Yld.load1 hS rfl Try.underlying3 rfl rdQ) (by decide) ?_); clear hS; intro aa hS; refine ⟨hR0, ?_⟩
  revert aa
  refine eA 14 rfl krQ (fun _ _ _ h => h) hR0 rfl (fun _ hS => Yld.add hS rfl rfl) ?_
  intro aa hS
  refine dOne (i := 15) krQ ?_
  refine dop rfl (BA hS hR ((by first | exact Yld.indexL (sz := 1) _ hS rfl rfl Try.underlying58 info3 pkQ rfl rfl (by omega) | exact Yld.indexB (sz := 1) _ hS rfl rfl Try.underlying58 info3 rfl rfl (by omega) | exact Yld.indexSlice hS rfl rfl Try.underlying58 info3 (by omega) (by omega))) (by decide) ?_); clear hS; intro aa hS; refine ⟨hR0, ?_⟩
  refine dOne (i := 16) krQ ?_
  refine dop rfl (BstoreR0 (IntKind.i64.wrap (A.turn[k] + 1)) hS hR rfl rfl (by rfl) info3 (by rfl) pkQ (by rfl) (by intro _; rfl) (by omega) (by first | exact Nat.le_of_ble_eq_true rfl | (simp only [List.length_singleton]; omega)) (Nat.le_of_ble_eq_true rfl) (by rfl) ?_); clear hR hR0; intro ww hR
  refine dnext (hR.sub exQ) ?_; intro hR0
  refine wpAnyH_done krQ ?_ _; clear hR0
  refine hK891 _ _ ?_
  refine wp_seq_k ?_; intro K892 hK892
  refine drawn krQ hR (Ex.of_pk2 (r := blk b _ _) (s := sls r1 _ _ _ _ _) pkQ pkQ) ?_; clear hR; intro ww hR hR0
  revert aa
  refine eA 0 rfl krQ (fun _ _ _ h => h) hR0 rfl (fun _ hS => Yld.move hS rfl) ?_
  refine eA 1 rfl krQ (fun _ _ _ h => h) hR0 rfl (fun _ hS => Yld.fieldAddr hS rfl 0 Try.underlying112 rfl rfl info3 (by decide)) ?_
  intro aa hS
  refine dA 2 rfl krQ krQ krQ (fun _ _ _ h => h) hS hR0 (Yld.load1 hS rfl Try.underlying3 rfl rdQ) (by decide) ?_; clear hS; intro aa hS
  revert aa
  refine eA 4 rfl krQ (fun _ _ _ h => h) hR0 rfl (fun _ hS => Yld.move hS rfl) ?_
  refine eA 5 rfl krQ (fun _ _ _ h => h) hR0 rfl (fun _ hS => Yld.nilCheck hS rfl) ?_
  refine eA 6 rfl krQ (fun _ _ _ h => h) hR0 rfl (fun _ hS => Yld.fieldAddr hS rfl 0 Try.underlying135 rfl rfl info58 (by decide)) ?_
  intro aa hS
  refine dTwo (i := 3) (j := 7) krQ ?_ ?_
  ·
   refine dop rfl (BbuildSlice hS hR rfl (bls58_1_0 _) (by decide) ?_); clear hS hR hR0; intro aa ww bb35 hS hR
   refine dnext (hR.sub exQ) ?_; intro hR0
   replace hR := hR.pk (r := blk bb35 _ _) pkQ
   replace hR := Sep.toRecs (m := 1) (sz := 1) (enc := e1) ([(k : Int)]) hR rfl (by intro _; rfl) rfl
   refine dOne (i := 7) krQ ?_
   refine dop rfl (BA hS hR (Yld.load1 hS rfl Try.underlying58 rfl rdQ) (by decide) ?_); clear hS; intro aa hS; refine ⟨hR0, ?_⟩
   refine dOne (i := 8) krQ ?_
   refine dop rfl (BappendR (sz := 1) hS hR rfl rfl Try.underlying58 info3 rfl rfl (by rfl) pkQ (XC.all pkQ) (by intro _; rfl) (by show (_ + _) * 8 ≤ _; exact lenQ) lenQ (by first | rfl | (simp; done) | (simp; omega)) (by decide) ?_); clear hS hR hR0; intro aa ww r40 c40 hS hR
   refine dnext (hR.sub exQ) ?_; intro hR0
   have hfx : [(k : Int)] ++ A.frees = (k :: A.free).map (fun j : Nat => (j : Int)) := rfl
   rw [hfx] at hS hR
   revert aa
   refine eA 9 rfl krQ (fun _ _ _ h => h) hR0 rfl (fun _ hS => Yld.nilCheck hS rfl) ?_
   refine eA 10 rfl krQ (fun _ _ _ h => h) hR0 rfl (fun _ hS => Yld.fieldAddr hS rfl 0 Try.underlying135 rfl rfl info58 (by decide)) ?_
   intro aa hS
   refine dOne (i := 11) krQ ?_
   refine dop rfl (Bstore hS hR rfl rfl (by rfl) info58 (by rfl) pkQ (by rfl) (Nat.le_of_ble_eq_true rfl) ?_); clear hR hR0; intro ww hR
   refine dnext (hR.sub exQ) ?_; intro hR0
   refine wpAnyH_done krQ ?_ _; clear hR0
   refine hK892 _ _ ?_
   refine wp_seq_k ?_; intro K893 hK893
   refine wp_region_lit ?_
   revert aa
   refine qN hR ?_
   intro aa hS
   refine wpList_nil ?_
   refine hK893 _ _ ?_
   refine wp_ret ?_
   repeat first | with_reducible refine thenR ?_ | with_reducible refine blockR ?_ | with_reducible refine scopeR ?_
   refine ret1 (fn := Try.f85) (e := .ret) (.inl rfl) Try.results85 hS hR ⟨_, (.tmp rfl), ?_⟩
   try dsimp only [lay, List.set] at hR
   first
    | (rw [Ar.giveH_no hg, show A.giveE s u = 6 from if_neg hg]; exact ⟨rfl, (hR.sub exQ)⟩)
    | (rw [Ar.giveH_yes hg, show A.giveE k u = 0 from if_pos hg, Ar.give_eq hku]; exact ⟨rfl, Sep.rarI (TR := 135) (TI := 3) (TB := 4) (b := b) (A := { free := k :: A.free, turn := A.turn.set k (IntKind.i64.wrap (A.turn[k] + 1)), tk := A.tk.set k false }) (n2 := A.turn.length) (n3 := A.tk.length) hgv rfl (by simp) (by simp) (hR.sub exQ)⟩)
  ·
   refine dop rfl (BA hS hR (Yld.load1 hS rfl Try.underlying58 rfl rdQ) (by decide) ?_); clear hS; intro aa hS; refine ⟨hR0, ?_⟩
   refine dOne (i := 3) krQ ?_
   refine dop rfl (BbuildSlice hS hR rfl (bls58_1_0 _) (by decide) ?_); clear hS hR hR0; intro aa ww bb35 hS hR
   refine dnext (hR.sub exQ) ?_; intro hR0
   replace hR := hR.pk (r := blk bb35 _ _) pkQ
   replace hR := Sep.toRecs (m := 1) (sz := 1) (enc := e1) ([(k : Int)]) hR rfl (by intro _; rfl) rfl
   refine dOne (i := 8) krQ ?_
   refine dop rfl (BappendR (sz := 1) hS hR rfl rfl Try.underlying58 info3 rfl rfl (by rfl) pkQ (XC.all pkQ) (by intro _; rfl) (by show (_ + _) * 8 ≤ _; exact lenQ) lenQ (by first | rfl | (simp; done) | (simp; omega)) (by decide) ?_); clear hS hR hR0; intro aa ww r40 c40 hS hR
   refine dnext (hR.sub exQ) ?_; intro hR0
   have hfx : [(k : Int)] ++ A.frees = (k :: A.free).map (fun j : Nat => (j : Int)) := rfl
   rw [hfx] at hS hR
   revert aa
   refine eA 9 rfl krQ (fun _ _ _ h => h) hR0 rfl (fun _ hS => Yld.nilCheck hS rfl) ?_
   refine eA 10 rfl krQ (fun _ _ _ h => h) hR0 rfl (fun _ hS => Yld.fieldAddr hS rfl 0 Try.underlying135 rfl rfl info58 (by decide)) ?_
   intro aa hS
   refine dOne (i := 11) krQ ?_
   refine dop rfl (Bstore hS hR rfl rfl (by rfl) info58 (by rfl) pkQ (by rfl) (Nat.le_of_ble_eq_true rfl) ?_); clear hR hR0; intro ww hR
   refine dnext (hR.sub exQ) ?_; intro hR0
   refine wpAnyH_done krQ ?_ _; clear hR0
   refine hK892 _ _ ?_
   refine wp_seq_k ?_; intro K894 hK894
   refine wp_region_lit ?_
   revert aa
   refine qN hR ?_
   intro aa hS
   refine wpList_nil ?_
   refine hK894 _ _ ?_
   refine wp_ret ?_
   repeat first | with_reducible refine thenR ?_ | with_reducible refine blockR ?_ | with_reducible refine scopeR ?_
   refine ret1 (fn := Try.f85) (e := .ret) (.inl rfl) Try.results85 hS hR ⟨_, (.tmp rfl), ?_⟩
   try dsimp only [lay, List.set] at hR
   first
    | (rw [Ar.giveH_no hg, show A.giveE s u = 6 from if_neg hg]; exact ⟨rfl, (hR.sub exQ)⟩)
    | (rw [Ar.giveH_yes hg, show A.giveE k u = 0 from if_pos hg, Ar.give_eq hku]; exact ⟨rfl, Sep.rarI (TR := 135) (TI := 3) (TB := 4) (b := b) (A := { free := k :: A.free, turn := A.turn.set k (IntKind.i64.wrap (A.turn[k] + 1)), tk := A.tk.set k false }) (n2 := A.turn.length) (n3 := A.tk.length) hgv rfl (by simp) (by simp) (hR.sub exQ)⟩)
end Go.Proofs.Ythhndmlfgjcgpaa.Sx
