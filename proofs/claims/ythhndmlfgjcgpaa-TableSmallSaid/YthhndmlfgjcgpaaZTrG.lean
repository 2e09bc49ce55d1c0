/-
 
-/
import Derived.Test.YthhndmlfgjcgpaaZTrF
import Derived.Test.YthhndmlfgjcgpaaZPc
import Derived.Test.YthhndmlfgjcgpaaZPd
namespace Go.Proofs.Ythhndmlfgjcgpaa.Sx
open Go
set_option maxRecDepth 20000
set_option linter.unusedVariables false
set_option linter.unusedSimpArgs false
theorem bld35_1_2_0_3_4 (x1 : Int) (x2 : Int) (x0 : Int) (x3 : Int) (x4 : Int) (w : World) : (Instr.build 35 [(1, .int .u32 x1), (2, .int .u32 x2), (0, .int .u8 x0), (3, .int .u16 x3), (4, .int .u16 x4)].toArray).run Try.prog w = .ok (.agg [.int .u8 x0, .int .u32 x1, .int .u32 x2, .int .u16 x3, .int .u16 x4].toArray) w := by kernel_rfl
theorem key1_ok {ds : List Int} {f m bk : Nat} {l : List HP} {w : World} (hR : Sep (blk bk (ds.flatMap eB) 174 :: l) w) (hd : DigS ds) (hl : ds.length = 26) (hf : f < 26) (hm : m ≤ 8) (hfm : f + m ≤ 26) : CallR Try.prog 98 [.int .i64 (f : Int), .int .i64 (m : Int), .pointer (some ⟨bk, 0, none⟩)] w (fun v w' => v = .int .u32 (num (seg ds f m)) ∧ Sep (blk bk (ds.flatMap eB) 174 :: l) w') := by
 refine enter Try.func98 rfl Try.ntmps98 (Nat.le_of_ble_eq_true rfl) ?_; intro aa hS
 refine wp_seq_k ?_; intro K299 hK299
 refine wp_region_lit ?_
 revert aa
 refine qN hR ?_
 intro aa hS
 refine wpList_nil ?_
 refine hK299 _ _ ?_
 refine wp_seq_k ?_; intro K300 hK300
 refine wp_region_lit ?_
 revert aa
 refine qN hR ?_
 intro aa hS
 refine wpList_nil ?_
 refine hK300 _ _ ?_
 refine wp_seq_k ?_; intro K301 hK301
 refine wp_seq_k ?_; intro K302 hK302
 refine wp_region_lit ?_
 revert aa
 refine qM hR ?_
 refine qM hR ?_
 refine qM hR ?_
 intro aa hS
 refine sA hS hR adQ (by decide) ?_; clear hS; intro aa hS
 replace hS := hS.say (t := 12) (.int .i64 ((f + m : Nat) : Int)) rfl (by rw [Int.natCast_add])
 refine sA hS hR (Yld.sliceA (lo := f) (hi := f + m) hS rfl rfl rfl Try.underlying174 info5 rfl (by omega) (by omega) hf) (by decide) ?_; clear hS; intro aa hS
 replace hS := hS.say (t := 13) (.slice (some ⟨bk, f, none⟩) m (26 - f)) rfl (by rw [show f + m - f = m from by omega])
 revert aa
 refine qA hR rfl (fun _ hS => Yld.len hS rfl Try.underlying138) ?_
 refine qM hR ?_
 intro aa hS
 refine wpList_nil ?_
 refine hK302 _ _ ?_
 refine wp_block ?_
 refine loopI (X := Nat) [(5, _), (13, _), (14, _)] (fun x => [(6, .int .u32 (num (seg ds f x))), (15, .int .i64 (x : Int))]) (fun x => []) _ (fun x => x ≤ m) (fun x => m - x) 0 (Nat.zero_le _) (hS.le (Le.cons rfl (Le.cons rfl (Le.nilapp (Le.cons rfl (Le.cons rfl (Le.cons rfl (Le.nil _)))))))) hR ?_
 clear hS hR; rintro k aa ww hI hS hR; dsimp only [List.cons_append, List.nil_append] at hI hS hR
 refine wp_seq_k ?_; intro K304 hK304
 refine wp_region_lit ?_
 refine sA hS hR (Yld.lss hS rfl rfl) (by decide) ?_; clear hS; intro aa hS
 refine wpList_nil ?_
 refine hK304 _ _ ?_
 refine wp_seq_k ?_; intro K305 hK305
 refine hS.splitB (t := 16) rfl ?_ ?_ <;> clear hS
 ·
  intro hg hS
  refine condT hS rfl ?_
  refine wp_skip ?_
  refine hK305 _ _ ?_
  refine wp_seq_k ?_; intro K306 hK306
  refine wp_block ?_
  refine wp_seq_k ?_; intro K307 hK307
  refine wp_region_lit ?_
  refine sA hS hR ((by first | exact Yld.indexL (sz := 1) _ hS rfl rfl Try.underlying138 info5 pkQ rfl rfl (by omega) | exact Yld.indexB (sz := 1) _ hS rfl rfl Try.underlying138 info5 rfl rfl (by omega) | exact Yld.indexSlice hS rfl rfl Try.underlying138 info5 (by omega) (by omega))) (by decide) ?_; clear hS; intro aa hS
  refine sA hS hR (Yld.load1 hS rfl Try.underlying5 rfl ((Rd.flat0 (sz := 1) (k := f + k) (v := .int .u8 (ds[f + k]'(by omega))) pkQ (by intro _; rfl) (by omega) (by rfl)).at (by show f + k * 1 = _; omega))) (by decide) ?_; clear hS; intro aa hS
  have hxd := hd _ (List.getElem_mem (show f + k < ds.length by omega))
  obtain ⟨x0, hx0⟩ : ∃ y, ds[f + k]'(by omega) = y := ⟨_, rfl⟩
  rw [hx0] at hS hxd
  have hsn := seg_next (ds := ds) (f := f) (k := k) (by omega)
  rw [hx0] at hsn
  have hnl := num_lt (seg_dig (f := f) (m := k) hd) (by rw [seg_len (by omega)]; omega)
  revert aa
  refine qN hR ?_
  intro aa hS
  refine wpList_nil ?_
  refine hK307 _ _ ?_
  refine wp_region_lit ?_
  revert aa
  refine qM hR ?_
  refine qA hR rfl (fun _ hS => Yld.to (Yld.shlL 4 16 hS rfl rfl rfl (by decide) (by decide)) (congrArg (Value.int .u32) (IntWalk.u32_in _ (by omega)))) ?_
  refine qM hR ?_
  refine qA hR rfl (fun _ hS => by first | exact Yld.to (Yld.convInt hS rfl rfl Try.underlying32) (congrArg (Value.int .u32) (IntWalk.u32_in _ (by omega))) | exact Yld.convInt hS rfl rfl Try.underlying32) ?_
  refine qA hR rfl (fun _ hS => Yld.to (Yld.or hS rfl rfl) (congrArg (Value.int .u32) (or16 (by omega) hxd))) ?_
  intro aa hS
  replace hS := hS.say (t := 23) (.int .u32 (num (seg ds f (k + 1)))) rfl (by rw [hsn, num_snoc])
  revert aa
  refine qN hR ?_
  intro aa hS
  refine wpList_nil ?_
  refine hK306 _ _ ?_
  refine wp_region_lit ?_
  refine sA hS hR adQ (by decide) ?_; clear hS; intro aa hS
  revert aa
  refine qM hR ?_
  intro aa hS
  refine wpList_nil ?_
  refine ⟨k + 1, ?_, ?_, hS.le (Le.cons rfl (Le.cons rfl (Le.nilapp (Le.cons rfl (Le.cons rfl (Le.cons rfl (Le.nil _))))))), hR.sub (Ex.nilapp exQ)⟩
  ·
   omega
  ·
   omega
 ·
  intro hg hS
  obtain rfl : m = k := by omega
  refine condF hS rfl ?_
  refine wp_exit ?_
  refine hK301 _ _ ?_
  refine wp_seq_k ?_; intro K308 hK308
  refine wp_region_lit ?_
  revert aa
  refine qM hR ?_
  refine qN hR ?_
  intro aa hS
  refine wpList_nil ?_
  refine hK308 _ _ ?_
  refine wp_ret ?_
  repeat first | with_reducible refine thenR ?_ | with_reducible refine blockR ?_ | with_reducible refine scopeR ?_
  refine ret1 (fn := Try.f98) (e := .ret) (.inl rfl) Try.results98 hS hR ⟨_, (.tmp rfl), ?_⟩
  exact ⟨rfl, (hR.sub exQ)⟩
theorem key_ok {ds : List Int} {l : List HP} {w : World} (hR : Sep l w) (hd : DigS ds) (hl : ds.length = 26) : CallR Try.prog 91 [.agg (ds.flatMap eB).toArray] w (fun v w' => v = vK (keyD ds) ∧ Sep l w') := by
 refine enter Try.func91 rfl Try.ntmps91 (Nat.le_of_ble_eq_true rfl) ?_; intro aa hS
 refine wp_seq_k ?_; intro K309 hK309
 refine wp_region_lit ?_
 refine sB (Bbox hS hR rfl (by rfl) (by decide) ?_); clear hS hR; intro aa ww bb1 hS hR
 refine sB (Balloc hS hR info35 (by rfl) (by rfl) (by decide) ?_); clear hS hR; intro aa ww bb2 hS hR
 refine wpList_nil ?_
 refine hK309 _ _ ?_
 refine wp_seq_k ?_; intro K310 hK310
 refine wp_region_lit ?_
 revert aa
 refine qA hR rfl (fun _ hS => Yld.makeFunc hS rfl rfl) ?_
 refine qN hR ?_
 intro aa hS
 refine wpList_nil ?_
 refine hK310 _ _ ?_
 refine wp_seq_k ?_; intro K311 hK311
 refine wp_region_lit ?_
 revert aa
 refine qM hR ?_
 intro aa hS
 refine sB (BcallV (first := []) (caps := [.pointer (some ⟨bb1, 0, none⟩)]) hS rfl rfl Try.call98 (key1_ok (f := 0) (m := 8) (hR.pk (r := blk bb1 _ _) pkQ) hd hl (by omega) (by omega) (by omega)) (by decide) ?_); clear hS; intro aa ww vv hS hp
 clear hR
 obtain ⟨rfl, hR⟩ := hp
 have hq0 := num_bd (seg_dig (f := 0) (m := 8) hd) (seg_len (by omega))
 revert aa
 refine qM hR ?_
 intro aa hS
 refine sB (BcallV (first := []) (caps := [.pointer (some ⟨bb1, 0, none⟩)]) hS rfl rfl Try.call98 (key1_ok (f := 8) (m := 8) (hR.pk (r := blk bb1 _ _) pkQ) hd hl (by omega) (by omega) (by omega)) (by decide) ?_); clear hS; intro aa ww vv hS hp
 clear hR
 obtain ⟨rfl, hR⟩ := hp
 have hq8 := num_bd (seg_dig (f := 8) (m := 8) hd) (seg_len (by omega))
 revert aa
 refine qM hR ?_
 intro aa hS
 refine sB (BcallV (first := []) (caps := [.pointer (some ⟨bb1, 0, none⟩)]) hS rfl rfl Try.call98 (key1_ok (f := 16) (m := 2) (hR.pk (r := blk bb1 _ _) pkQ) hd hl (by omega) (by omega) (by omega)) (by decide) ?_); clear hS; intro aa ww vv hS hp
 clear hR
 obtain ⟨rfl, hR⟩ := hp
 have hq16 := num_bd (seg_dig (f := 16) (m := 2) hd) (seg_len (by omega))
 revert aa
 refine qA hR rfl (fun _ hS => by first | exact Yld.to (Yld.convInt hS rfl rfl Try.underlying5) (congrArg (Value.int .u8) (IntWalk.u8_in _ (by omega))) | exact Yld.convInt hS rfl rfl Try.underlying5) ?_
 refine qM hR ?_
 intro aa hS
 refine sB (BcallV (first := []) (caps := [.pointer (some ⟨bb1, 0, none⟩)]) hS rfl rfl Try.call98 (key1_ok (f := 18) (m := 4) (hR.pk (r := blk bb1 _ _) pkQ) hd hl (by omega) (by omega) (by omega)) (by decide) ?_); clear hS; intro aa ww vv hS hp
 clear hR
 obtain ⟨rfl, hR⟩ := hp
 have hq18 := num_bd (seg_dig (f := 18) (m := 4) hd) (seg_len (by omega))
 revert aa
 refine qA hR rfl (fun _ hS => by first | exact Yld.to (Yld.convInt hS rfl rfl Try.underlying33) (congrArg (Value.int .u16) (IntWalk.u16_in _ (by omega))) | exact Yld.convInt hS rfl rfl Try.underlying33) ?_
 refine qM hR ?_
 intro aa hS
 refine sB (BcallV (first := []) (caps := [.pointer (some ⟨bb1, 0, none⟩)]) hS rfl rfl Try.call98 (key1_ok (f := 22) (m := 4) (hR.pk (r := blk bb1 _ _) pkQ) hd hl (by omega) (by omega) (by omega)) (by decide) ?_); clear hS; intro aa ww vv hS hp
 clear hR
 obtain ⟨rfl, hR⟩ := hp
 have hq22 := num_bd (seg_dig (f := 22) (m := 4) hd) (seg_len (by omega))
 revert aa
 refine qA hR rfl (fun _ hS => by first | exact Yld.to (Yld.convInt hS rfl rfl Try.underlying33) (congrArg (Value.int .u16) (IntWalk.u16_in _ (by omega))) | exact Yld.convInt hS rfl rfl Try.underlying33) ?_
 refine qA hR rfl (fun _ hS => Yld.build hS rfl (bld35_1_2_0_3_4 _ _ _ _ _)) ?_
 intro aa hS
 refine sB (Bstore hS hR rfl rfl (by rfl) info35 (by rfl) pkQ (by rfl) (Nat.le_of_ble_eq_true rfl) ?_); clear hR; intro ww hR
 refine wpList_nil ?_
 refine hK311 _ _ ?_
 refine wp_ret ?_
 repeat first | with_reducible refine thenR ?_ | with_reducible refine blockR ?_ | with_reducible refine scopeR ?_
 refine ret1 (fn := Try.f91) (e := .ret) (.inl rfl) Try.results91 hS hR ⟨_, (.agg rfl Try.underlying35 rfl info35 (Rds.cons (Rd.blk pkQ (by rfl)) (Rds.cons (Rd.blk pkQ (by rfl)) (Rds.cons (Rd.blk pkQ (by rfl)) (Rds.cons (Rd.blk pkQ (by rfl)) (Rds.cons (Rd.blk pkQ (by rfl)) (Rds.nil)))))) (by rfl)), ?_⟩
 try dsimp only [lay, List.set] at hR
 exact ⟨rfl, (hR.sub exQ)⟩
end Go.Proofs.Ythhndmlfgjcgpaa.Sx
