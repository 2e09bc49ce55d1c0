/-
  
-/
import Derived.Test.YtmcfmhiadlkglaaTrB
import Derived.Test.YtmcfmhiadlkglaaPc
namespace Go.Proofs.Ytmcfmhiadlkglaa.Sx
open Go
set_option linter.unusedVariables false
set_option linter.unusedSimpArgs false

theorem info56 : Try.prog.info? 56 = some Try.t56 := by kernel_rfl
theorem bld34_  (w : World) : (Instr.build 34 [].toArray).run Try.prog w = .ok (.agg [.int .u8 0, .int .u32 0, .int .u32 0, .int .u16 0, .int .u16 0].toArray) w := by kernel_rfl
theorem bld69_0_2 (x0_a : Option Addr) (x0_n x0_c : Nat) (x2 : Int) (w : World) : (Instr.build 69 [(0, .slice x0_a x0_n x0_c), (2, .int .i64 x2)].toArray).run Try.prog w = .ok (.agg [.slice x0_a x0_n x0_c, .slice none 0 0, .int .i64 x2].toArray) w := by kernel_rfl

set_option maxRecDepth 20000 in
theorem tsome_ok {T : Tr} {b : Nat} {r1 r2 : Option Addr} {c1 c2 : Nat} {l : List HP} {w : World} (hR : Sep (blk b [.slice r1 T.nodes.length c1, .slice r2 T.frees.length c2, .int .i64 T.most] 69 :: l) w) (hp : 0 < T.nodes.length) : CallR Try.prog 32 [.pointer (some ⟨b, 0, none⟩)] w (fun v w' => v = .bool true ∧ Sep (blk b [.slice r1 T.nodes.length c1, .slice r2 T.frees.length c2, .int .i64 T.most] 69 :: l) w') := by
  refine enter Try.func32 rfl Try.ntmps32 (Nat.le_of_ble_eq_true rfl) ?_; intro aa hS
  refine wp_seq_k ?_; intro K30 hK30
  refine wp_region_lit ?_
  refine sA hS hR (Yld.assign hS rfl) (by decide) ?_; clear hS; intro aa hS
  refine wpList_nil ?_
  refine hK30 _ _ ?_
  refine wp_seq_k ?_; intro K31 hK31
  refine wp_region_lit ?_
  refine sA hS hR (Yld.move hS rfl) (by decide) ?_; clear hS; intro aa hS
  refine sA hS hR (Yld.neqNil hS rfl rfl Try.underlying26) (by decide) ?_; clear hS; intro aa hS
  replace hS := hS.sayB (t := 4) true rfl (by rfl)
  refine sA hS hR (Yld.move hS rfl) (by decide) ?_; clear hS; intro aa hS
  refine sAg hS hR rfl rfl (Yld.move hS rfl) (by decide) ?_; clear hS; intro aa hS
  refine sAg hS hR rfl rfl (Yld.nilCheck hS rfl) (by decide) ?_; clear hS; intro aa hS
  refine sAg hS hR rfl rfl (Yld.fieldAddr hS rfl 0 Try.underlying69 rfl rfl info67 (by decide)) (by decide) ?_; clear hS; intro aa hS
  refine sAg hS hR rfl rfl (Yld.load1 hS rfl Try.underlying67 rfl (by first | exact Rd.blk pkQ (by rfl) | exact Rd.rec pkQ (by intro _; rfl) (by omega) rfl | exact Rd.rec0 pkQ (by intro _; rfl) (by omega) rfl | exact Rd.flatJ pkQ (by intro _; rfl) (by omega) rfl | exact Rd.flat0 pkQ (by intro _; rfl) (by omega) rfl)) (by decide) ?_; clear hS; intro aa hS
  refine sAg hS hR rfl rfl (Yld.len hS rfl Try.underlying67) (by decide) ?_; clear hS; intro aa hS
  refine sAg hS hR rfl rfl (Yld.gtr hS rfl rfl) (by decide) ?_; clear hS; intro aa hS
  replace hS := hS.sayB (t := 11) true rfl (by exact decide_eq_true (by omega))
  refine sA hS hR (Yld.pickT hS rfl rfl) (by decide) ?_; clear hS; intro aa hS
  refine sA hS hR (Yld.assign hS rfl) (by decide) ?_; clear hS; intro aa hS
  refine wpList_nil ?_
  refine hK31 _ _ ?_
  refine wp_ret ?_
  repeat (first | with_reducible refine thenR ?_ | with_reducible refine blockR ?_ | with_reducible refine scopeR ?_)
  refine ret1 (fn := Try.f32) (e := .ret) (.inl rfl) Try.results32 hS hR ⟨_, (.tmp rfl), ?_⟩
  exact ⟨rfl, (hR.sub exQ)⟩
set_option maxRecDepth 20000 in
theorem TNew_bad {n : Int} {l : List HP} {w : World} (hR : Sep l w) (hn : n < 1 ∨ 8192 < n) : CallR Try.prog 11 [.int .i64 n] w (fun v w' => v = .tuple [.pointer none, .int .i64 2].toArray ∧ Sep l w') := by
  refine enter Try.func11 rfl Try.ntmps11 (Nat.le_of_ble_eq_true rfl) ?_; intro aa hS
  refine wp_seq_k ?_; intro K32 hK32
  refine wp_region_lit ?_
  refine sA hS hR (Yld.assign hS rfl) (by decide) ?_; clear hS; intro aa hS
  refine sA hS hR (Yld.assign hS rfl) (by decide) ?_; clear hS; intro aa hS
  refine wpList_nil ?_
  refine hK32 _ _ ?_
  refine wp_seq_k ?_; intro K33 hK33
  refine wp_seq_k ?_; intro K34 hK34
  refine wp_region_lit ?_
  refine sA hS hR (Yld.move hS rfl) (by decide) ?_; clear hS; intro aa hS
  refine sA hS hR (Yld.lss hS rfl rfl) (by decide) ?_; clear hS; intro aa hS
  refine sA hS hR (Yld.move hS rfl) (by decide) ?_; clear hS; intro aa hS
  refine hS.splitB (t := 6) rfl ?_ ?_ <;> clear hS
  · intro hg hS
    refine sSkip hS rfl rfl rfl (by decide) ?_; clear hS; intro aa hS
    refine sSkip hS rfl rfl rfl (by decide) ?_; clear hS; intro aa hS
    refine sA hS hR (Yld.pickT hS rfl rfl) (by decide) ?_; clear hS; intro aa hS
    refine wpList_nil ?_
    refine hK34 _ _ ?_
    refine condT hS rfl ?_
    refine wp_seq_k ?_; intro K35 hK35
    refine wp_region_lit ?_
    refine sA hS hR (Yld.assign hS rfl) (by decide) ?_; clear hS; intro aa hS
    refine sA hS hR (Yld.assign hS rfl) (by decide) ?_; clear hS; intro aa hS
    refine wpList_nil ?_
    refine hK35 _ _ ?_
    refine wp_ret ?_
    repeat (first | with_reducible refine thenR ?_ | with_reducible refine blockR ?_ | with_reducible refine scopeR ?_)
    refine retN (fn := Try.f11) (e := .ret) (.inl rfl) Try.results11 hS hR ⟨_, .cons (.tmp rfl) (.cons (.tmp rfl) (.nil)), rfl, ?_⟩
    exact ⟨rfl, (hR.sub exQ)⟩
  · intro hg hS
    refine sAg hS hR rfl rfl (Yld.move hS rfl) (by decide) ?_; clear hS; intro aa hS
    refine sAg hS hR rfl rfl (Yld.gtr hS rfl rfl) (by decide) ?_; clear hS; intro aa hS
    replace hS := hS.sayB (t := 8) true rfl (by exact decide_eq_true (by omega))
    refine sA hS hR (Yld.pickF hS rfl rfl) (by decide) ?_; clear hS; intro aa hS
    refine wpList_nil ?_
    refine hK34 _ _ ?_
    refine condT hS rfl ?_
    refine wp_seq_k ?_; intro K36 hK36
    refine wp_region_lit ?_
    refine sA hS hR (Yld.assign hS rfl) (by decide) ?_; clear hS; intro aa hS
    refine sA hS hR (Yld.assign hS rfl) (by decide) ?_; clear hS; intro aa hS
    refine wpList_nil ?_
    refine hK36 _ _ ?_
    refine wp_ret ?_
    repeat (first | with_reducible refine thenR ?_ | with_reducible refine blockR ?_ | with_reducible refine scopeR ?_)
    refine retN (fn := Try.f11) (e := .ret) (.inl rfl) Try.results11 hS hR ⟨_, .cons (.tmp rfl) (.cons (.tmp rfl) (.nil)), rfl, ?_⟩
    exact ⟨rfl, (hR.sub exQ)⟩
set_option maxRecDepth 20000 in
theorem TNew_ok {n : Int} {l : List HP} {w : World} (hR : Sep l w) (hn : 1 ≤ n ∧ n ≤ 8192) : CallR Try.prog 11 [.int .i64 n] w (fun v w' => ∃ b, v = .tuple [.pointer (some ⟨b, 0, none⟩), .int .i64 0].toArray ∧ Sep (trieA 69 79 3 b [] n :: l) w') := by
  refine enter Try.func11 rfl Try.ntmps11 (Nat.le_of_ble_eq_true rfl) ?_; intro aa hS
  refine wp_seq_k ?_; intro K37 hK37
  refine wp_region_lit ?_
  refine sA hS hR (Yld.assign hS rfl) (by decide) ?_; clear hS; intro aa hS
  refine sA hS hR (Yld.assign hS rfl) (by decide) ?_; clear hS; intro aa hS
  refine wpList_nil ?_
  refine hK37 _ _ ?_
  refine wp_seq_k ?_; intro K38 hK38
  refine wp_seq_k ?_; intro K39 hK39
  refine wp_region_lit ?_
  refine sA hS hR (Yld.move hS rfl) (by decide) ?_; clear hS; intro aa hS
  refine sA hS hR (Yld.lss hS rfl rfl) (by decide) ?_; clear hS; intro aa hS
  replace hS := hS.sayB (t := 5) false rfl (by exact decide_eq_false (by omega))
  refine sA hS hR (Yld.move hS rfl) (by decide) ?_; clear hS; intro aa hS
  refine sAg hS hR rfl rfl (Yld.move hS rfl) (by decide) ?_; clear hS; intro aa hS
  refine sAg hS hR rfl rfl (Yld.gtr hS rfl rfl) (by decide) ?_; clear hS; intro aa hS
  replace hS := hS.sayB (t := 8) false rfl (by exact decide_eq_false (by omega))
  refine sA hS hR (Yld.pickF hS rfl rfl) (by decide) ?_; clear hS; intro aa hS
  refine wpList_nil ?_
  refine hK39 _ _ ?_
  refine condF hS rfl ?_
  refine wp_skip ?_
  refine hK38 _ _ ?_
  refine wp_seq_k ?_; intro K40 hK40
  refine wp_region_lit ?_
  refine sB (Bmake (zc := [.int .i64 0, .int .i64 0, .int .i64 0, .int .i64 0, .int .i64 0, .int .i64 0, .int .i64 0, .int .i64 0, .int .i64 0, .int .i64 0, .int .i64 0, .int .i64 0, .int .i64 0, .int .i64 0, .int .i64 0, .int .i64 0, .int .i64 0, .int .i64 0]) hS hR rfl rfl Try.underlying67 info79 rfl (by rfl) (by rfl) (by decide) (by omega) (by show ((144 : Nat) : Int) * _ ≤ _; omega) (by omega) (by decide) ?_); clear hS hR; intro aa ww bb10 hS hR
  replace hR := hR.pk (r := blk bb10 _ _) pkQ
  replace hR := Sep.toRecs (m := 1) (sz := 18) (enc := eN) [z0] hR rfl (by intro _; exact eN_len _) rfl
  replace hR := hR.slsNil (T := 3) (sz := 1)
  refine sA hS hR (Yld.move hS rfl) (by decide) ?_; clear hS; intro aa hS
  refine sA hS hR (Yld.build hS rfl (bld69_0_2 _ _ _ _)) (by decide) ?_; clear hS; intro aa hS
  refine sB (Bbox hS hR rfl (by rfl) (by decide) ?_); clear hS hR; intro aa ww bb13 hS hR
  refine sA hS hR (Yld.assign hS rfl) (by decide) ?_; clear hS; intro aa hS
  refine sA hS hR (Yld.assign hS rfl) (by decide) ?_; clear hS; intro aa hS
  refine wpList_nil ?_
  refine hK40 _ _ ?_
  refine wp_ret ?_
  repeat (first | with_reducible refine thenR ?_ | with_reducible refine blockR ?_ | with_reducible refine scopeR ?_)
  refine retN (fn := Try.f11) (e := .ret) (.inl rfl) Try.results11 hS hR ⟨_, .cons (.tmp rfl) (.cons (.tmp rfl) (.nil)), rfl, ?_⟩
  refine ⟨_, rfl, Sep.trieAI (TA := 69) (TN := 79) (TI := 3) (b := bb13) (T := { nodes := [z0], free := [], most := n }) (r1 := some ⟨bb10, 0, none⟩) (r2 := none) (c1 := 1) (c2 := 0) (n1 := 1) (n2 := 0) (TW.new hn.1 hn.2) rfl rfl ?_⟩
  have h9 := (hR.pk (r := sls (some ⟨bb10, 0, none⟩) _ _ _ _ _) pkQ).pk (r := blk bb13 _ _) pkQ
  exact h9
set_option maxRecDepth 20000 in
theorem Get_ok {K : List (Ky × Int)} {most : Int} {b : Nat} {l : List HP} {w : World} {k : Ky} (hR : Sep (trieA 69 79 3 b K most :: l) w) (hk : WfK k) : CallR Try.prog 16 [.pointer (some ⟨b, 0, none⟩), vK k] w (fun v w' => v = .tuple [.int .i64 ((findV K k).getD 0), .bool (findV K k).isSome].toArray ∧ Sep (trieA 69 79 3 b K most :: l) w') := by
  refine enter Try.func16 rfl Try.ntmps16 (Nat.le_of_ble_eq_true rfl) ?_; intro aa hS
  obtain ⟨T, r1, c1, r2, c2, hT, hR⟩ := hR.trieAE
  have hpos := hT.pos
  obtain ⟨f, hW, hF⟩ := hT.wf
  refine wp_seq_k ?_; intro K41 hK41
  refine wp_region_lit ?_
  refine sB (Bbox hS hR rfl (by rfl) (by decide) ?_); clear hS hR; intro aa ww bb3 hS hR
  refine sA hS hR (Yld.assign hS rfl) (by decide) ?_; clear hS; intro aa hS
  refine sA hS hR (Yld.assign hS rfl) (by decide) ?_; clear hS; intro aa hS
  refine wpList_nil ?_
  refine hK41 _ _ ?_
  refine wp_seq_k ?_; intro K42 hK42
  refine wp_seq_k ?_; intro K43 hK43
  refine wp_region_lit ?_
  refine sA hS hR (Yld.move hS rfl) (by decide) ?_; clear hS; intro aa hS
  refine sB (Bcall hS rfl Try.call32 (tsome_ok (hR.pk (r := blk b _ _) pkQ) (by omega)) (by decide) ?_); clear hS; intro aa ww vv hS hp
  clear hR
  obtain ⟨rfl, hR⟩ := hp
  refine sA hS hR (Yld.not hS rfl) (by decide) ?_; clear hS; intro aa hS
  refine wpList_nil ?_
  refine hK43 _ _ ?_
  refine condF hS rfl ?_
  refine wp_skip ?_
  refine hK42 _ _ ?_
  refine wp_seq_k ?_; intro K44 hK44
  refine wp_region_lit ?_
  refine sA hS hR (Yld.move hS rfl) (by decide) ?_; clear hS; intro aa hS
  refine sA hS hR (Yld.loadAgg hS rfl Try.underlying34 rfl info34 (by first | exact Rds.cons (Rd.blk pkQ (by rfl)) (Rds.cons (Rd.blk pkQ (by rfl)) (Rds.cons (Rd.blk pkQ (by rfl)) (Rds.cons (Rd.blk pkQ (by rfl)) (Rds.cons (Rd.blk pkQ (by rfl)) (Rds.nil))))) | exact Rds.rec pkQ (by intro _; rfl) (by omega) | exact Rds.flat1 pkQ (by intro _; rfl) (by omega)) (by rfl)) (by decide) ?_; clear hS; intro aa hS
  refine sB (Bcall hS rfl Try.call33 (find_ok hW (by assumption) (by omega) ((hR.pk (r := sls r1 _ _ _ _ _) pkQ).pk (r := blk b _ _) pkQ)) (by decide) ?_); clear hS; intro aa ww vv hS hp
  clear hR
  obtain ⟨rfl, hR⟩ := hp
  have hfi := has_iff hk hT.keys
  have hfs := findV_some (K := K) (k := k)
  have htk : (dl k).take 26 = dl k := List.take_of_length_le (by rw [dl_len]; omega)
  refine sA hS hR (Yld.move hS rfl) (by decide) ?_; clear hS; intro aa hS
  refine sA hS hR (Yld.extract hS rfl rfl) (by decide) ?_; clear hS; intro aa hS
  refine sA hS hR (Yld.extract hS rfl rfl) (by decide) ?_; clear hS; intro aa hS
  refine sA hS hR (Yld.assign hS rfl) (by decide) ?_; clear hS; intro aa hS
  refine sA hS hR (Yld.assign hS rfl) (by decide) ?_; clear hS; intro aa hS
  refine wpList_nil ?_
  refine hK44 _ _ ?_
  refine wp_seq_k ?_; intro K45 hK45
  refine wp_seq_k ?_; intro K46 hK46
  refine wp_region_lit ?_
  refine sA hS hR (Yld.move hS rfl) (by decide) ?_; clear hS; intro aa hS
  refine sA hS hR (Yld.lss hS rfl rfl) (by decide) ?_; clear hS; intro aa hS
  refine wpList_nil ?_
  refine hK46 _ _ ?_
  refine hS.splitB (t := 18) rfl ?_ ?_ <;> clear hS
  · intro hg hS
    have hno : ¬ has K k := fun h => by rw [show (26 : Int).toNat = 26 from rfl, find_yes (hfi.2 h)] at hg; omega
    have hfn : findV K k = none := by cases h : findV K k with
      | none => rfl
      | some x => exact absurd (hfs.1 (by rw [h]; rfl)) hno
    refine condT hS rfl ?_
    refine wp_seq_k ?_; intro K47 hK47
    refine wp_region_lit ?_
    refine sA hS hR (Yld.assign hS rfl) (by decide) ?_; clear hS; intro aa hS
    refine sA hS hR (Yld.assign hS rfl) (by decide) ?_; clear hS; intro aa hS
    refine wpList_nil ?_
    refine hK47 _ _ ?_
    refine wp_ret ?_
    repeat (first | with_reducible refine thenR ?_ | with_reducible refine blockR ?_ | with_reducible refine scopeR ?_)
    refine retN (fn := Try.f16) (e := .ret) (.inl rfl) Try.results16 hS hR ⟨_, .cons (.tmp rfl) (.cons (.tmp rfl) (.nil)), rfl, ?_⟩
    refine ⟨?_, Sep.trieAI (TA := 69) (TN := 79) (TI := 3) (b := b) (T := T)  hT (by rfl) (by rfl) (hR.sub exQ)⟩
    first | (rw [hfn]; rfl) | (rw [hsm, ← hvl])
  · intro hg hS
    have hde : dep (cK K) (dl k) 26 = 26 := by
      by_cases h : dep (cK K) (dl k) 26 = 26
      · exact h
      · rw [show (26 : Int).toNat = 26 from rfl, findAt, if_neg h] at hg; omega
    rw [show (26 : Int).toNat = 26 from rfl, find_yes hde, htk] at hS
    have hD := hW.at hde
    rw [htk] at hD
    have hlt := hW.lt _ hD
    have hvl := hW.val _ _ hD (dl_len k) (List.getElem?_eq_getElem hlt)
    rw [vK2_eq hk hT.keys] at hvl
    have hsm := hfs.2 (hfi.1 hde)
    refine condF hS rfl ?_
    refine wp_skip ?_
    refine hK45 _ _ ?_
    refine wp_seq_k ?_; intro K48 hK48
    refine wp_region_lit ?_
    refine sA hS hR (Yld.move hS rfl) (by decide) ?_; clear hS; intro aa hS
    refine sA hS hR (Yld.nilCheck hS rfl) (by decide) ?_; clear hS; intro aa hS
    refine sA hS hR (Yld.fieldAddr hS rfl 0 Try.underlying69 rfl rfl info67 (by decide)) (by decide) ?_; clear hS; intro aa hS
    refine sA hS hR (Yld.load1 hS rfl Try.underlying67 rfl (by first | exact Rd.blk pkQ (by rfl) | exact Rd.rec pkQ (by intro _; rfl) (by omega) rfl | exact Rd.rec0 pkQ (by intro _; rfl) (by omega) rfl | exact Rd.flatJ pkQ (by intro _; rfl) (by omega) rfl | exact Rd.flat0 pkQ (by intro _; rfl) (by omega) rfl)) (by decide) ?_; clear hS; intro aa hS
    refine sA hS hR (Yld.move hS rfl) (by decide) ?_; clear hS; intro aa hS
    refine sA hS hR ((by first | exact Yld.indexL (sz := 18) (f (dl k)) hS rfl rfl Try.underlying67 info79 pkQ rfl (by first | rfl | omega) (by omega) | exact Yld.indexB (sz := 18) (f (dl k)) hS rfl rfl Try.underlying67 info79 rfl (by first | rfl | omega) (by omega))) (by decide) ?_; clear hS; intro aa hS
    refine sA hS hR (Yld.fieldAddr hS rfl 17 Try.underlying79 rfl rfl info3 (by decide)) (by decide) ?_; clear hS; intro aa hS
    refine sA hS hR (Yld.load1 hS rfl Try.underlying3 rfl (Rd.rec (j := 17) (v := .int .i64 ((T.nodes[f (dl k)]'hlt).2.2)) pkQ (by intro _; exact eN_len _) hlt (by rfl))) (by decide) ?_; clear hS; intro aa hS
    refine sA hS hR (Yld.assign hS rfl) (by decide) ?_; clear hS; intro aa hS
    refine sA hS hR (Yld.assign hS rfl) (by decide) ?_; clear hS; intro aa hS
    refine wpList_nil ?_
    refine hK48 _ _ ?_
    refine wp_ret ?_
    repeat (first | with_reducible refine thenR ?_ | with_reducible refine blockR ?_ | with_reducible refine scopeR ?_)
    refine retN (fn := Try.f16) (e := .ret) (.inl rfl) Try.results16 hS hR ⟨_, .cons (.tmp rfl) (.cons (.tmp rfl) (.nil)), rfl, ?_⟩
    refine ⟨?_, Sep.trieAI (TA := 69) (TN := 79) (TI := 3) (b := b) (T := T)  hT (by rfl) (by rfl) (hR.sub exQ)⟩
    first | (rw [hfn]; rfl) | (rw [hsm, ← hvl])
set_option maxRecDepth 20000 in
theorem TCount_ok {K : List (Ky × Int)} {most : Int} {b : Nat} {l : List HP} {w : World} {k : Ky} {n : Int} (hR : Sep (trieA 69 79 3 b K most :: l) w) (hk : WfK k) : CallR Try.prog 23 [.pointer (some ⟨b, 0, none⟩), vK k, .int .i64 n] w (fun v w' => v = .int .i64 (if 0 ≤ n ∧ n ≤ 26 then (cK K ((dl k).take n.toNat) : Int) else 0) ∧ Sep (trieA 69 79 3 b K most :: l) w') := by
  refine enter Try.func23 rfl Try.ntmps23 (Nat.le_of_ble_eq_true rfl) ?_; intro aa hS
  obtain ⟨T, r1, c1, r2, c2, hT, hR⟩ := hR.trieAE
  have hpos := hT.pos
  obtain ⟨f, hW, hF⟩ := hT.wf
  refine wp_seq_k ?_; intro K49 hK49
  refine wp_region_lit ?_
  refine sB (Bbox hS hR rfl (by rfl) (by decide) ?_); clear hS hR; intro aa ww bb4 hS hR
  refine sA hS hR (Yld.assign hS rfl) (by decide) ?_; clear hS; intro aa hS
  refine wpList_nil ?_
  refine hK49 _ _ ?_
  refine wp_seq_k ?_; intro K50 hK50
  refine wp_seq_k ?_; intro K51 hK51
  refine wp_region_lit ?_
  refine sA hS hR (Yld.move hS rfl) (by decide) ?_; clear hS; intro aa hS
  refine sB (Bcall hS rfl Try.call32 (tsome_ok (hR.pk (r := blk b _ _) pkQ) (by omega)) (by decide) ?_); clear hS; intro aa ww vv hS hp
  clear hR
  obtain ⟨rfl, hR⟩ := hp
  refine sA hS hR (Yld.not hS rfl) (by decide) ?_; clear hS; intro aa hS
  refine sA hS hR (Yld.move hS rfl) (by decide) ?_; clear hS; intro aa hS
  refine sAg hS hR rfl rfl (Yld.move hS rfl) (by decide) ?_; clear hS; intro aa hS
  refine sAg hS hR rfl rfl (Yld.lss hS rfl rfl) (by decide) ?_; clear hS; intro aa hS
  refine sA hS hR (Yld.pickF hS rfl rfl) (by decide) ?_; clear hS; intro aa hS
  refine sA hS hR (Yld.move hS rfl) (by decide) ?_; clear hS; intro aa hS
  refine hS.splitB (t := 16) rfl ?_ ?_ <;> clear hS
  · intro hg hS
    refine sSkip hS rfl rfl rfl (by decide) ?_; clear hS; intro aa hS
    refine sSkip hS rfl rfl rfl (by decide) ?_; clear hS; intro aa hS
    refine sA hS hR (Yld.pickT hS rfl rfl) (by decide) ?_; clear hS; intro aa hS
    refine wpList_nil ?_
    refine hK51 _ _ ?_
    refine condT hS rfl ?_
    refine wp_seq_k ?_; intro K52 hK52
    refine wp_region_lit ?_
    refine sA hS hR (Yld.assign hS rfl) (by decide) ?_; clear hS; intro aa hS
    refine wpList_nil ?_
    refine hK52 _ _ ?_
    refine wp_ret ?_
    repeat (first | with_reducible refine thenR ?_ | with_reducible refine blockR ?_ | with_reducible refine scopeR ?_)
    refine ret1 (fn := Try.f23) (e := .ret) (.inl rfl) Try.results23 hS hR ⟨_, (.tmp rfl), ?_⟩
    refine ⟨?_, Sep.trieAI (TA := 69) (TN := 79) (TI := 3) (b := b) (T := T)  hT (by rfl) (by rfl) (hR.sub exQ)⟩
    first | (rw [if_neg (by omega)]) | (rw [if_pos ⟨by omega, by omega⟩, hc0]; rfl) | (rw [if_pos ⟨by omega, by omega⟩, ← hvl])
  · intro hg hS
    refine sAg hS hR rfl rfl (Yld.move hS rfl) (by decide) ?_; clear hS; intro aa hS
    refine sAg hS hR rfl rfl (Yld.gtr hS rfl rfl) (by decide) ?_; clear hS; intro aa hS
    refine sA hS hR (Yld.pickF hS rfl rfl) (by decide) ?_; clear hS; intro aa hS
    refine wpList_nil ?_
    refine hK51 _ _ ?_
    refine hS.splitB (t := 19) rfl ?_ ?_ <;> clear hS
    · intro hg hS
      refine condT hS rfl ?_
      refine wp_seq_k ?_; intro K53 hK53
      refine wp_region_lit ?_
      refine sA hS hR (Yld.assign hS rfl) (by decide) ?_; clear hS; intro aa hS
      refine wpList_nil ?_
      refine hK53 _ _ ?_
      refine wp_ret ?_
      repeat (first | with_reducible refine thenR ?_ | with_reducible refine blockR ?_ | with_reducible refine scopeR ?_)
      refine ret1 (fn := Try.f23) (e := .ret) (.inl rfl) Try.results23 hS hR ⟨_, (.tmp rfl), ?_⟩
      refine ⟨?_, Sep.trieAI (TA := 69) (TN := 79) (TI := 3) (b := b) (T := T)  hT (by rfl) (by rfl) (hR.sub exQ)⟩
      first | (rw [if_neg (by omega)]) | (rw [if_pos ⟨by omega, by omega⟩, hc0]; rfl) | (rw [if_pos ⟨by omega, by omega⟩, ← hvl])
    · intro hg hS
      refine condF hS rfl ?_
      refine wp_skip ?_
      refine hK50 _ _ ?_
      refine wp_seq_k ?_; intro K54 hK54
      refine wp_region_lit ?_
      refine sA hS hR (Yld.move hS rfl) (by decide) ?_; clear hS; intro aa hS
      refine sA hS hR (Yld.loadAgg hS rfl Try.underlying34 rfl info34 (by first | exact Rds.cons (Rd.blk pkQ (by rfl)) (Rds.cons (Rd.blk pkQ (by rfl)) (Rds.cons (Rd.blk pkQ (by rfl)) (Rds.cons (Rd.blk pkQ (by rfl)) (Rds.cons (Rd.blk pkQ (by rfl)) (Rds.nil))))) | exact Rds.rec pkQ (by intro _; rfl) (by omega) | exact Rds.flat1 pkQ (by intro _; rfl) (by omega)) (by rfl)) (by decide) ?_; clear hS; intro aa hS
      refine sA hS hR (Yld.move hS rfl) (by decide) ?_; clear hS; intro aa hS
      refine sB (Bcall hS rfl Try.call33 (find_ok hW (by assumption) (by omega) ((hR.pk (r := sls r1 _ _ _ _ _) pkQ).pk (r := blk b _ _) pkQ)) (by decide) ?_); clear hS; intro aa ww vv hS hp
      clear hR
      obtain ⟨rfl, hR⟩ := hp
      refine sA hS hR (Yld.move hS rfl) (by decide) ?_; clear hS; intro aa hS
      refine sA hS hR (Yld.extract hS rfl rfl) (by decide) ?_; clear hS; intro aa hS
      refine sA hS hR (Yld.extract hS rfl rfl) (by decide) ?_; clear hS; intro aa hS
      refine sA hS hR (Yld.assign hS rfl) (by decide) ?_; clear hS; intro aa hS
      refine sA hS hR (Yld.assign hS rfl) (by decide) ?_; clear hS; intro aa hS
      refine wpList_nil ?_
      refine hK54 _ _ ?_
      refine wp_seq_k ?_; intro K55 hK55
      refine wp_seq_k ?_; intro K56 hK56
      refine wp_region_lit ?_
      refine sA hS hR (Yld.move hS rfl) (by decide) ?_; clear hS; intro aa hS
      refine sA hS hR (Yld.lss hS rfl rfl) (by decide) ?_; clear hS; intro aa hS
      refine wpList_nil ?_
      refine hK56 _ _ ?_
      refine hS.splitB (t := 28) rfl ?_ ?_ <;> clear hS
      · intro hg hS
        have hde : ¬ dep (cK K) (dl k) n.toNat = n.toNat := fun h => by rw [find_yes h] at hg; omega
        have hn0 : 0 < n.toNat := by
          rcases Nat.eq_zero_or_pos n.toNat with h | h
          · rw [h] at hde; exact absurd rfl hde
          · exact h
        have hc0 : cK K ((dl k).take n.toNat) = 0 := by
          rcases Nat.eq_zero_or_pos (cK K ((dl k).take n.toNat)) with h | h
          · exact h
          · exact absurd ((dep_full hn0).2 h) hde
        refine condT hS rfl ?_
        refine wp_seq_k ?_; intro K57 hK57
        refine wp_region_lit ?_
        refine sA hS hR (Yld.assign hS rfl) (by decide) ?_; clear hS; intro aa hS
        refine wpList_nil ?_
        refine hK57 _ _ ?_
        refine wp_ret ?_
        repeat (first | with_reducible refine thenR ?_ | with_reducible refine blockR ?_ | with_reducible refine scopeR ?_)
        refine ret1 (fn := Try.f23) (e := .ret) (.inl rfl) Try.results23 hS hR ⟨_, (.tmp rfl), ?_⟩
        refine ⟨?_, Sep.trieAI (TA := 69) (TN := 79) (TI := 3) (b := b) (T := T)  hT (by rfl) (by rfl) (hR.sub exQ)⟩
        first | (rw [if_neg (by omega)]) | (rw [if_pos ⟨by omega, by omega⟩, hc0]; rfl) | (rw [if_pos ⟨by omega, by omega⟩, ← hvl])
      · intro hg hS
        have hde : dep (cK K) (dl k) n.toNat = n.toNat := by
          by_cases h : dep (cK K) (dl k) n.toNat = n.toNat
          · exact h
          · rw [findAt, if_neg h] at hg; omega
        rw [find_yes hde] at hS
        have hD := hW.at hde
        have hlt := hW.lt _ hD
        have hvl := hW.cnt _ _ hD (List.getElem?_eq_getElem hlt)
        refine condF hS rfl ?_
        refine wp_skip ?_
        refine hK55 _ _ ?_
        refine wp_seq_k ?_; intro K58 hK58
        refine wp_region_lit ?_
        refine sA hS hR (Yld.move hS rfl) (by decide) ?_; clear hS; intro aa hS
        refine sA hS hR (Yld.nilCheck hS rfl) (by decide) ?_; clear hS; intro aa hS
        refine sA hS hR (Yld.fieldAddr hS rfl 0 Try.underlying69 rfl rfl info67 (by decide)) (by decide) ?_; clear hS; intro aa hS
        refine sA hS hR (Yld.load1 hS rfl Try.underlying67 rfl (by first | exact Rd.blk pkQ (by rfl) | exact Rd.rec pkQ (by intro _; rfl) (by omega) rfl | exact Rd.rec0 pkQ (by intro _; rfl) (by omega) rfl | exact Rd.flatJ pkQ (by intro _; rfl) (by omega) rfl | exact Rd.flat0 pkQ (by intro _; rfl) (by omega) rfl)) (by decide) ?_; clear hS; intro aa hS
        refine sA hS hR (Yld.move hS rfl) (by decide) ?_; clear hS; intro aa hS
        refine sA hS hR ((by first | exact Yld.indexL (sz := 18) (f ((dl k).take n.toNat)) hS rfl rfl Try.underlying67 info79 pkQ rfl (by first | rfl | omega) (by omega) | exact Yld.indexB (sz := 18) (f ((dl k).take n.toNat)) hS rfl rfl Try.underlying67 info79 rfl (by first | rfl | omega) (by omega))) (by decide) ?_; clear hS; intro aa hS
        refine sA hS hR (Yld.fieldAddr hS rfl 0 Try.underlying79 rfl rfl info3 (by decide)) (by decide) ?_; clear hS; intro aa hS
        refine sA hS hR (Yld.load1 hS rfl Try.underlying3 rfl (Rd.rec0 (v := .int .i64 ((T.nodes[f ((dl k).take n.toNat)]'hlt).1)) pkQ (by intro _; exact eN_len _) hlt (by rfl))) (by decide) ?_; clear hS; intro aa hS
        refine sA hS hR (Yld.assign hS rfl) (by decide) ?_; clear hS; intro aa hS
        refine wpList_nil ?_
        refine hK58 _ _ ?_
        refine wp_ret ?_
        repeat (first | with_reducible refine thenR ?_ | with_reducible refine blockR ?_ | with_reducible refine scopeR ?_)
        refine ret1 (fn := Try.f23) (e := .ret) (.inl rfl) Try.results23 hS hR ⟨_, (.tmp rfl), ?_⟩
        refine ⟨?_, Sep.trieAI (TA := 69) (TN := 79) (TI := 3) (b := b) (T := T)  hT (by rfl) (by rfl) (hR.sub exQ)⟩
        first | (rw [if_neg (by omega)]) | (rw [if_pos ⟨by omega, by omega⟩, hc0]; rfl) | (rw [if_pos ⟨by omega, by omega⟩, ← hvl])
set_option maxRecDepth 20000 in
theorem TLen_ok {K : List (Ky × Int)} {most : Int} {b : Nat} {l : List HP} {w : World} (hR : Sep (trieA 69 79 3 b K most :: l) w) : CallR Try.prog 14 [.pointer (some ⟨b, 0, none⟩)] w (fun v w' => v = .int .i64 (K.length : Int) ∧ Sep (trieA 69 79 3 b K most :: l) w') := by
  refine enter Try.func14 rfl Try.ntmps14 (Nat.le_of_ble_eq_true rfl) ?_; intro aa hS
  refine wp_seq_k ?_; intro K59 hK59
  refine wp_region_lit ?_
  refine sA hS hR (Yld.assign hS rfl) (by decide) ?_; clear hS; intro aa hS
  refine wpList_nil ?_
  refine hK59 _ _ ?_
  refine wp_seq_k ?_; intro K60 hK60
  refine wp_region_lit ?_
  refine sA hS hR (Yld.move hS rfl) (by decide) ?_; clear hS; intro aa hS
  refine sA hS hR (Yld.build hS rfl (bld34_)) (by decide) ?_; clear hS; intro aa hS
  refine sB (Bcall hS rfl Try.call23 (TCount_ok (k := (0, 0, 0, 0, 0)) (n := 0) (hR.pk (r := trieA _ _ _ b _ _) pkQ) wfk0) (by decide) ?_); clear hS; intro aa ww vv hS hp
  clear hR
  obtain ⟨rfl, hR⟩ := hp
  refine sA hS hR (Yld.assign hS rfl) (by decide) ?_; clear hS; intro aa hS
  refine wpList_nil ?_
  refine hK60 _ _ ?_
  refine wp_ret ?_
  repeat (first | with_reducible refine thenR ?_ | with_reducible refine blockR ?_ | with_reducible refine scopeR ?_)
  refine ret1 (fn := Try.f14) (e := .ret) (.inl rfl) Try.results14 hS hR ⟨_, (.tmp rfl), ?_⟩
  refine ⟨?_, (hR.sub exQ)⟩
  rw [if_pos ⟨by omega, by omega⟩]
  show Value.int .i64 (cK K [] : Int) = _
  rw [cK_nil]
set_option maxRecDepth 20000 in
theorem TSteps_ok {K : List (Ky × Int)} {most : Int} {b : Nat} {l : List HP} {w : World} {k : Ky} (hR : Sep (trieA 69 79 3 b K most :: l) w) (hk : WfK k) : CallR Try.prog 31 [.pointer (some ⟨b, 0, none⟩), vK k] w (fun v w' => v = .int .i64 (findN (cK K) (dl k) 26) ∧ Sep (trieA 69 79 3 b K most :: l) w') := by
  refine enter Try.func31 rfl Try.ntmps31 (Nat.le_of_ble_eq_true rfl) ?_; intro aa hS
  obtain ⟨T, r1, c1, r2, c2, hT, hR⟩ := hR.trieAE
  have hpos := hT.pos
  obtain ⟨f, hW, hF⟩ := hT.wf
  refine wp_seq_k ?_; intro K61 hK61
  refine wp_region_lit ?_
  refine sB (Bbox hS hR rfl (by rfl) (by decide) ?_); clear hS hR; intro aa ww bb3 hS hR
  refine sA hS hR (Yld.assign hS rfl) (by decide) ?_; clear hS; intro aa hS
  refine wpList_nil ?_
  refine hK61 _ _ ?_
  refine wp_seq_k ?_; intro K62 hK62
  refine wp_seq_k ?_; intro K63 hK63
  refine wp_region_lit ?_
  refine sA hS hR (Yld.move hS rfl) (by decide) ?_; clear hS; intro aa hS
  refine sB (Bcall hS rfl Try.call32 (tsome_ok (hR.pk (r := blk b _ _) pkQ) (by omega)) (by decide) ?_); clear hS; intro aa ww vv hS hp
  clear hR
  obtain ⟨rfl, hR⟩ := hp
  refine sA hS hR (Yld.not hS rfl) (by decide) ?_; clear hS; intro aa hS
  refine wpList_nil ?_
  refine hK63 _ _ ?_
  refine condF hS rfl ?_
  refine wp_skip ?_
  refine hK62 _ _ ?_
  refine wp_seq_k ?_; intro K64 hK64
  refine wp_region_lit ?_
  refine sA hS hR (Yld.move hS rfl) (by decide) ?_; clear hS; intro aa hS
  refine sA hS hR (Yld.loadAgg hS rfl Try.underlying34 rfl info34 (by first | exact Rds.cons (Rd.blk pkQ (by rfl)) (Rds.cons (Rd.blk pkQ (by rfl)) (Rds.cons (Rd.blk pkQ (by rfl)) (Rds.cons (Rd.blk pkQ (by rfl)) (Rds.cons (Rd.blk pkQ (by rfl)) (Rds.nil))))) | exact Rds.rec pkQ (by intro _; rfl) (by omega) | exact Rds.flat1 pkQ (by intro _; rfl) (by omega)) (by rfl)) (by decide) ?_; clear hS; intro aa hS
  refine sB (Bcall hS rfl Try.call33 (find_ok hW (by assumption) (by omega) ((hR.pk (r := sls r1 _ _ _ _ _) pkQ).pk (r := blk b _ _) pkQ)) (by decide) ?_); clear hS; intro aa ww vv hS hp
  clear hR
  obtain ⟨rfl, hR⟩ := hp
  refine sA hS hR (Yld.move hS rfl) (by decide) ?_; clear hS; intro aa hS
  refine sA hS hR (Yld.extract hS rfl rfl) (by decide) ?_; clear hS; intro aa hS
  refine sA hS hR (Yld.extract hS rfl rfl) (by decide) ?_; clear hS; intro aa hS
  refine sA hS hR (Yld.assign hS rfl) (by decide) ?_; clear hS; intro aa hS
  refine sA hS hR (Yld.assign hS rfl) (by decide) ?_; clear hS; intro aa hS
  refine wpList_nil ?_
  refine hK64 _ _ ?_
  refine wp_seq_k ?_; intro K65 hK65
  refine wp_region_lit ?_
  refine sA hS hR (Yld.move hS rfl) (by decide) ?_; clear hS; intro aa hS
  refine sA hS hR (Yld.assign hS rfl) (by decide) ?_; clear hS; intro aa hS
  refine wpList_nil ?_
  refine hK65 _ _ ?_
  refine wp_ret ?_
  repeat (first | with_reducible refine thenR ?_ | with_reducible refine blockR ?_ | with_reducible refine scopeR ?_)
  refine ret1 (fn := Try.f31) (e := .ret) (.inl rfl) Try.results31 hS hR ⟨_, (.tmp rfl), ?_⟩
  exact ⟨rfl, Sep.trieAI (TA := 69) (TN := 79) (TI := 3) (b := b) (T := T)  hT (by rfl) (by rfl) (hR.sub exQ)⟩
set_option maxRecDepth 20000 in
theorem TNodes_ok {K : List (Ky × Int)} {most : Int} {b : Nat} {l : List HP} {w : World} (hR : Sep (trieA 69 79 3 b K most :: l) w) (hb : ∀ T, TW T K most → T.nodes.length ≤ 100000000) : CallR Try.prog 19 [.pointer (some ⟨b, 0, none⟩)] w (fun v w' => ∃ T, TW T K most ∧ v = .int .i64 ((T.nodes.length : Int) - T.free.length) ∧ Sep (trieA 69 79 3 b K most :: l) w') := by
  refine enter Try.func19 rfl Try.ntmps19 (Nat.le_of_ble_eq_true rfl) ?_; intro aa hS
  obtain ⟨T, r1, c1, r2, c2, hT, hR⟩ := hR.trieAE
  have hpos := hT.pos
  obtain ⟨f, hW, hF⟩ := hT.wf
  have hnb := hb T hT
  have hfl : T.frees.length = T.free.length := List.length_map _
  have hfb : T.free.length ≤ T.nodes.length := nodup_len hF.nodup hF.lt
  refine wp_seq_k ?_; intro K66 hK66
  refine wp_region_lit ?_
  refine sA hS hR (Yld.assign hS rfl) (by decide) ?_; clear hS; intro aa hS
  refine wpList_nil ?_
  refine hK66 _ _ ?_
  refine wp_seq_k ?_; intro K67 hK67
  refine wp_seq_k ?_; intro K68 hK68
  refine wp_region_lit ?_
  refine sA hS hR (Yld.move hS rfl) (by decide) ?_; clear hS; intro aa hS
  refine sB (Bcall hS rfl Try.call32 (tsome_ok (hR.pk (r := blk b _ _) pkQ) (by omega)) (by decide) ?_); clear hS; intro aa ww vv hS hp
  clear hR
  obtain ⟨rfl, hR⟩ := hp
  refine sA hS hR (Yld.not hS rfl) (by decide) ?_; clear hS; intro aa hS
  refine wpList_nil ?_
  refine hK68 _ _ ?_
  refine condF hS rfl ?_
  refine wp_skip ?_
  refine hK67 _ _ ?_
  refine wp_seq_k ?_; intro K69 hK69
  refine drawn (by kernel_rfl) hR Ex.refl ?_; clear hR; intro ww hR hR0
  refine dA 0 rfl (by kernel_rfl) (by kernel_rfl) (by kernel_rfl) (fun _ _ _ h => h) hS hR0 (Yld.move hS rfl) (by decide) ?_; clear hS; intro aa hS
  refine dA 1 rfl (by kernel_rfl) (by kernel_rfl) (by kernel_rfl) (fun _ _ _ h => h) hS hR0 (Yld.nilCheck hS rfl) (by decide) ?_; clear hS; intro aa hS
  refine dA 2 rfl (by kernel_rfl) (by kernel_rfl) (by kernel_rfl) (fun _ _ _ h => h) hS hR0 (Yld.fieldAddr hS rfl 0 Try.underlying69 rfl rfl info67 (by decide)) (by decide) ?_; clear hS; intro aa hS
  refine dA 3 rfl (by kernel_rfl) (by kernel_rfl) (by kernel_rfl) (fun _ _ _ h => h) hS hR0 (Yld.load1 hS rfl Try.underlying67 rfl (by first | exact Rd.blk pkQ (by rfl) | exact Rd.rec pkQ (by intro _; rfl) (by omega) rfl | exact Rd.rec0 pkQ (by intro _; rfl) (by omega) rfl | exact Rd.flatJ pkQ (by intro _; rfl) (by omega) rfl | exact Rd.flat0 pkQ (by intro _; rfl) (by omega) rfl)) (by decide) ?_; clear hS; intro aa hS
  refine dA 4 rfl (by kernel_rfl) (by kernel_rfl) (by kernel_rfl) (fun _ _ _ h => h) hS hR0 (Yld.len hS rfl Try.underlying67) (by decide) ?_; clear hS; intro aa hS
  refine dA 5 rfl (by kernel_rfl) (by kernel_rfl) (by kernel_rfl) (fun _ _ _ h => h) hS hR0 (Yld.move hS rfl) (by decide) ?_; clear hS; intro aa hS
  refine dA 6 rfl (by kernel_rfl) (by kernel_rfl) (by kernel_rfl) (fun _ _ _ h => h) hS hR0 (Yld.nilCheck hS rfl) (by decide) ?_; clear hS; intro aa hS
  refine dA 7 rfl (by kernel_rfl) (by kernel_rfl) (by kernel_rfl) (fun _ _ _ h => h) hS hR0 (Yld.fieldAddr hS rfl 1 Try.underlying69 rfl rfl info56 (by decide)) (by decide) ?_; clear hS; intro aa hS
  refine dA 8 rfl (by kernel_rfl) (by kernel_rfl) (by kernel_rfl) (fun _ _ _ h => h) hS hR0 (Yld.load1 hS rfl Try.underlying56 rfl (by first | exact Rd.blk pkQ (by rfl) | exact Rd.rec pkQ (by intro _; rfl) (by omega) rfl | exact Rd.rec0 pkQ (by intro _; rfl) (by omega) rfl | exact Rd.flatJ pkQ (by intro _; rfl) (by omega) rfl | exact Rd.flat0 pkQ (by intro _; rfl) (by omega) rfl)) (by decide) ?_; clear hS; intro aa hS
  refine dA 9 rfl (by kernel_rfl) (by kernel_rfl) (by kernel_rfl) (fun _ _ _ h => h) hS hR0 (Yld.len hS rfl Try.underlying56) (by decide) ?_; clear hS; intro aa hS
  refine dA 10 rfl (by kernel_rfl) (by kernel_rfl) (by kernel_rfl) (fun _ _ _ h => h) hS hR0 ((by first | exact Yld.sub64 hS rfl rfl (by omega) | exact Yld.sub hS rfl rfl)) (by decide) ?_; clear hS; intro aa hS
  refine dA 11 rfl (by kernel_rfl) (by kernel_rfl) (by kernel_rfl) (fun _ _ _ h => h) hS hR0 (Yld.assign hS rfl) (by decide) ?_; clear hS; intro aa hS
  refine wpAnyH_done (by kernel_rfl) ?_ _; clear hR0
  refine hK69 _ _ ?_
  refine wp_ret ?_
  repeat (first | with_reducible refine thenR ?_ | with_reducible refine blockR ?_ | with_reducible refine scopeR ?_)
  refine ret1 (fn := Try.f19) (e := .ret) (.inl rfl) Try.results19 hS hR ⟨_, (.tmp rfl), ?_⟩
  refine ⟨T, hT, by rw [hfl], Sep.trieAI (TA := 69) (TN := 79) (TI := 3) (b := b) (T := T)  hT (by rfl) (by rfl) (hR.sub exQ)⟩
end Go.Proofs.Ytmcfmhiadlkglaa.Sx
