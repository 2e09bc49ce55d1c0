/-
 
-/
import Derived.Test.YtkhdejjompbklaaGreatOTrB
import Derived.Test.YtkhdejjompbklaaGreatOPc
namespace Go.Proofs.YtkhdejjompbklaaGreat.Sx
open Go
set_option maxRecDepth 20000
set_option linter.unusedVariables false
set_option linter.unusedSimpArgs false
theorem bld211_0_2 (x0_a : Option Addr) (x0_n x0_c : Nat) (x2 : Int) (w : World) : (Instr.build 211 [(0, .slice x0_a x0_n x0_c), (2, .int .i64 x2)].toArray).run Tryz.prog w = .ok (.agg [.slice x0_a x0_n x0_c, .slice none 0 0, .int .i64 x2].toArray) w := by kernel_rfl
theorem tsome_ok {T : Tr} {b : Nat} {r1 r2 : Option Addr} {c1 c2 : Nat} {l : List HP} {w : World} (hR : Sep (blk b [.slice r1 T.nodes.length c1, .slice r2 T.frees.length c2, .int .i64 T.most] 211 :: l) w) (hp : 0 < T.nodes.length) : CallR Tryz.prog 128 [.pointer (some ⟨b, 0, none⟩)] w (fun v w' => v = .bool true ∧ Sep (blk b [.slice r1 T.nodes.length c1, .slice r2 T.frees.length c2, .int .i64 T.most] 211 :: l) w') := by
 refine enter Tryz.func128 rfl Tryz.ntmps128 (Nat.le_of_ble_eq_true rfl) ?_; intro aa hS
 refine wp_seq_k ?_; intro K330 hK330
 refine wp_region_lit ?_
 revert aa
 refine qN hR ?_
 intro aa hS
 refine wpList_nil ?_
 refine hK330 _ _ ?_
 refine wp_seq_k ?_; intro K331 hK331
 refine wp_region_lit ?_
 revert aa
 refine qM hR ?_
 refine qA hR rfl (fun _ hS => Yld.neqNil hS rfl rfl Tryz.underlying127) ?_
 refine qB (t := 4) true rfl (by rfl) ?_
 refine qM hR ?_
 refine qMg hR ?_
 refine qAg hR rfl rfl rfl (fun _ hS => Yld.nilCheck hS rfl) ?_
 refine qAg hR rfl rfl rfl (fun _ hS => Yld.fieldAddr hS rfl 0 Tryz.underlying211 rfl rfl info209 (by decide)) ?_
 refine qAg hR rfl rfl rfl (fun _ hS => Yld.load1 hS rfl Tryz.underlying209 rfl rdQ) ?_
 refine qAg hR rfl rfl rfl (fun _ hS => Yld.len hS rfl Tryz.underlying209) ?_
 refine qAg hR rfl rfl rfl (fun _ hS => Yld.gtr hS rfl rfl) ?_
 refine qB (t := 11) true rfl (by exact decide_eq_true (by omega)) ?_
 refine qA hR rfl (fun _ hS => Yld.pickT hS rfl rfl) ?_
 refine qN hR ?_
 intro aa hS
 refine wpList_nil ?_
 refine hK331 _ _ ?_
 refine wp_ret ?_
 repeat first | with_reducible refine thenR ?_ | with_reducible refine blockR ?_ | with_reducible refine scopeR ?_
 refine ret1 (fn := Tryz.f128) (e := .ret) (.inl rfl) Tryz.results128 hS hR ⟨_, (.tmp rfl), ?_⟩
 exact ⟨rfl, (hR.sub exQ)⟩
theorem TNew_ok {n : Int} {l : List HP} {w : World} (hR : Sep l w) (hn : 1 ≤ n ∧ n ≤ 8192) : CallR Tryz.prog 107 [.int .i64 n] w (fun v w' => ∃ b, v = .tuple [.pointer (some ⟨b, 0, none⟩), .int .i64 0].toArray ∧ Sep (trieA 211 208 3 b [] n :: l) w') := by
 refine enter Tryz.func107 rfl Tryz.ntmps107 (Nat.le_of_ble_eq_true rfl) ?_; intro aa hS
 refine wp_seq_k ?_; intro K337 hK337
 refine wp_region_lit ?_
 revert aa
 refine qN hR ?_
 refine qN hR ?_
 intro aa hS
 refine wpList_nil ?_
 refine hK337 _ _ ?_
 refine wp_seq_k ?_; intro K338 hK338
 refine wp_seq_k ?_; intro K339 hK339
 refine wp_region_lit ?_
 revert aa
 refine qM hR ?_
 refine qA hR rfl (fun _ hS => Yld.lss hS rfl rfl) ?_
 refine qB (t := 5) false rfl (by exact decide_eq_false (by omega)) ?_
 refine qM hR ?_
 refine qMg hR ?_
 refine qAg hR rfl rfl rfl (fun _ hS => Yld.gtr hS rfl rfl) ?_
 refine qB (t := 8) false rfl (by exact decide_eq_false (by omega)) ?_
 refine qA hR rfl (fun _ hS => Yld.pickF hS rfl rfl) ?_
 intro aa hS
 refine wpList_nil ?_
 refine hK339 _ _ ?_
 refine condF hS rfl ?_
 refine wp_skip ?_
 refine hK338 _ _ ?_
 refine wp_seq_k ?_; intro K340 hK340
 refine wp_region_lit ?_
 refine sB (Bmake (zc := [.int .i64 0, .int .i64 0, .int .i64 0, .int .i64 0, .int .i64 0, .int .i64 0, .int .i64 0, .int .i64 0, .int .i64 0, .int .i64 0, .int .i64 0, .int .i64 0, .int .i64 0, .int .i64 0, .int .i64 0, .int .i64 0, .int .i64 0, .int .i64 0]) hS hR rfl rfl Tryz.underlying209 info208 rfl (by rfl) (by rfl) (by decide) (by omega) (by show ((144 : Nat) : Int) * _ ≤ _; omega) (by omega) (by decide) ?_); clear hS hR; intro aa ww bb10 hS hR
 replace hR := hR.pk (r := blk bb10 _ _) pkQ
 replace hR := Sep.toRecs (m := 1) (sz := 18) (enc := eN) [z0] hR rfl (by intro _; exact eN_len _) rfl
 replace hR := hR.slsNil (T := 3) (sz := 1)
 revert aa
 refine qM hR ?_
 refine qA hR rfl (fun _ hS => Yld.build hS rfl (bld211_0_2 _ _ _ _)) ?_
 intro aa hS
 refine sB (Bbox hS hR rfl (by rfl) (by decide) ?_); clear hS hR; intro aa ww bb13 hS hR
 revert aa
 refine qN hR ?_
 refine qN hR ?_
 intro aa hS
 refine wpList_nil ?_
 refine hK340 _ _ ?_
 refine wp_ret ?_
 repeat first | with_reducible refine thenR ?_ | with_reducible refine blockR ?_ | with_reducible refine scopeR ?_
 refine retN (fn := Tryz.f107) (e := .ret) (.inl rfl) Tryz.results107 hS hR ⟨_, .cons (.tmp rfl) (.cons (.tmp rfl) (.nil)), rfl, ?_⟩
 refine ⟨_, rfl, Sep.trieAI (TA := 211) (TN := 208) (TI := 3) (b := bb13) (T := { nodes := [z0], free := [], most := n }) (r1 := some ⟨bb10, 0, none⟩) (r2 := none) (c1 := 1) (c2 := 0) (n1 := 1) (n2 := 0) (TW.new hn.1 hn.2) rfl rfl ?_⟩
 have h9 := (hR.pk (r := sls (some ⟨bb10, 0, none⟩) _ _ _ _ _) pkQ).pk (r := blk bb13 _ _) pkQ
 exact h9
theorem Get_ok {K : List (Ky × Int)} {most : Int} {b : Nat} {l : List HP} {w : World} {k : Ky} (hR : Sep (trieA 211 208 3 b K most :: l) w) (hk : WfK k) : CallR Tryz.prog 99 [.pointer (some ⟨b, 0, none⟩), vK k] w (fun v w' => v = .tuple [.int .i64 ((findV K k).getD 0), .bool (findV K k).isSome].toArray ∧ Sep (trieA 211 208 3 b K most :: l) w') := by
 refine enter Tryz.func99 rfl Tryz.ntmps99 (Nat.le_of_ble_eq_true rfl) ?_; intro aa hS
 obtain ⟨T, r1, c1, r2, c2, hT, hR⟩ := hR.trieAE
 have hpos := hT.pos
 obtain ⟨f, hW, hF⟩ := hT.wf
 refine wp_seq_k ?_; intro K341 hK341
 refine wp_region_lit ?_
 refine sB (Bbox hS hR rfl (by rfl) (by decide) ?_); clear hS hR; intro aa ww bb3 hS hR
 revert aa
 refine qN hR ?_
 refine qN hR ?_
 intro aa hS
 refine wpList_nil ?_
 refine hK341 _ _ ?_
 refine wp_seq_k ?_; intro K342 hK342
 refine wp_seq_k ?_; intro K343 hK343
 refine wp_region_lit ?_
 revert aa
 refine qM hR ?_
 intro aa hS
 refine sB (Bcall hS rfl Tryz.call128 (tsome_ok (hR.pk (r := blk b _ _) pkQ) (by omega)) (by decide) ?_); clear hS; intro aa ww vv hS hp
 clear hR
 obtain ⟨rfl, hR⟩ := hp
 refine sA hS hR (Yld.not hS rfl) (by decide) ?_; clear hS; intro aa hS
 refine wpList_nil ?_
 refine hK343 _ _ ?_
 refine condF hS rfl ?_
 refine wp_skip ?_
 refine hK342 _ _ ?_
 refine wp_seq_k ?_; intro K344 hK344
 refine wp_region_lit ?_
 revert aa
 refine qM hR ?_
 intro aa hS
 refine sA hS hR (Yld.loadAgg hS rfl Tryz.underlying160 rfl info160 rdsQ5 (by rfl)) (by decide) ?_; clear hS; intro aa hS
 refine sB (Bcall hS rfl Tryz.call129 (find_ok hW (by assumption) (by omega) ((hR.pk (r := sls r1 _ _ _ _ _) pkQ).pk (r := blk b _ _) pkQ)) (by decide) ?_); clear hS; intro aa ww vv hS hp
 clear hR
 obtain ⟨rfl, hR⟩ := hp
 have hfi := has_iff hk hT.keys
 have hfs := findV_some (K := K) (k := k)
 have htk : (dl k).take 26 = dl k := List.take_of_length_le (by rw [dl_len]; omega)
 revert aa
 refine qM hR ?_
 refine qX hR ?_
 refine qX hR ?_
 refine qN hR ?_
 refine qN hR ?_
 intro aa hS
 refine wpList_nil ?_
 refine hK344 _ _ ?_
 refine wp_seq_k ?_; intro K345 hK345
 refine wp_seq_k ?_; intro K346 hK346
 refine wp_region_lit ?_
 revert aa
 refine qM hR ?_
 refine qA hR rfl (fun _ hS => Yld.lss hS rfl rfl) ?_
 intro aa hS
 refine wpList_nil ?_
 refine hK346 _ _ ?_
 refine hS.splitB (t := 18) rfl ?_ ?_ <;> clear hS
 ·
  intro hg hS
  have hno : ¬ has K k := fun h => by rw [show (26 : Int).toNat = 26 from rfl, find_yes (hfi.2 h)] at hg; omega
  have hfn : findV K k = none := by cases h : findV K k with
   | none => rfl
   | some x => exact absurd (hfs.1 (by rw [h]; rfl)) hno
  refine condT hS rfl ?_
  refine wp_seq_k ?_; intro K347 hK347
  refine wp_region_lit ?_
  revert aa
  refine qN hR ?_
  refine qN hR ?_
  intro aa hS
  refine wpList_nil ?_
  refine hK347 _ _ ?_
  refine wp_ret ?_
  repeat first | with_reducible refine thenR ?_ | with_reducible refine blockR ?_ | with_reducible refine scopeR ?_
  refine retN (fn := Tryz.f99) (e := .ret) (.inl rfl) Tryz.results99 hS hR ⟨_, .cons (.tmp rfl) (.cons (.tmp rfl) (.nil)), rfl, ?_⟩
  refine ⟨?_, Sep.trieAI (TA := 211) (TN := 208) (TI := 3) (b := b) (T := T)  hT (by rfl) (by rfl) (hR.sub exQ)⟩
  first | (rw [hfn]; rfl) | (rw [hsm, ← hvl])
 ·
  intro hg hS
  have hde : dep (cK K) (dl k) 26 = 26 := by
   by_cases h : dep (cK K) (dl k) 26 = 26
   ·
    exact h
   ·
    rw [show (26 : Int).toNat = 26 from rfl, findAt, if_neg h] at hg; omega
  rw [show (26 : Int).toNat = 26 from rfl, find_yes hde, htk] at hS
  have hD := hW.at hde
  rw [htk] at hD
  have hlt := hW.lt _ hD
  have hvl := hW.val _ _ hD (dl_len k) (List.getElem?_eq_getElem hlt)
  rw [vK2_eq hk hT.keys] at hvl
  have hsm := hfs.2 (hfi.1 hde)
  refine condF hS rfl ?_
  refine wp_skip ?_
  refine hK345 _ _ ?_
  refine wp_seq_k ?_; intro K348 hK348
  refine wp_region_lit ?_
  revert aa
  refine qM hR ?_
  refine qA hR rfl (fun _ hS => Yld.nilCheck hS rfl) ?_
  refine qA hR rfl (fun _ hS => Yld.fieldAddr hS rfl 0 Tryz.underlying211 rfl rfl info209 (by decide)) ?_
  refine qA hR rfl (fun _ hS => Yld.load1 hS rfl Tryz.underlying209 rfl rdQ) ?_
  refine qM hR ?_
  refine qA hR rfl (fun _ hS => ilQ 18 (f (dl k)) Tryz.underlying209 info208) ?_
  refine qA hR rfl (fun _ hS => Yld.fieldAddr hS rfl 17 Tryz.underlying208 rfl rfl info3 (by decide)) ?_
  refine qA hR rfl (fun _ hS => Yld.load1 hS rfl Tryz.underlying3 rfl (Rd.rec (j := 17) (v := .int .i64 ((T.nodes[f (dl k)]'hlt).2.2)) pkQ (by intro _; exact eN_len _) hlt (by rfl))) ?_
  refine qN hR ?_
  refine qN hR ?_
  intro aa hS
  refine wpList_nil ?_
  refine hK348 _ _ ?_
  refine wp_ret ?_
  repeat first | with_reducible refine thenR ?_ | with_reducible refine blockR ?_ | with_reducible refine scopeR ?_
  refine retN (fn := Tryz.f99) (e := .ret) (.inl rfl) Tryz.results99 hS hR ⟨_, .cons (.tmp rfl) (.cons (.tmp rfl) (.nil)), rfl, ?_⟩
  refine ⟨?_, Sep.trieAI (TA := 211) (TN := 208) (TI := 3) (b := b) (T := T)  hT (by rfl) (by rfl) (hR.sub exQ)⟩
  first | (rw [hfn]; rfl) | (rw [hsm, ← hvl])
end Go.Proofs.YtkhdejjompbklaaGreat.Sx
