/-
 
-/
import Derived.Test.YthhndmlfgjcgpaaZTrB
import Derived.Test.YthhndmlfgjcgpaaZPc
namespace Go.Proofs.Ythhndmlfgjcgpaa.Sx
open Go
set_option maxRecDepth 20000
set_option linter.unusedVariables false
set_option linter.unusedSimpArgs false
theorem bld147_0_2 (x0_a : Option Addr) (x0_n x0_c : Nat) (x2 : Int) (w : World) : (Instr.build 147 [(0, .slice x0_a x0_n x0_c), (2, .int .i64 x2)].toArray).run Try.prog w = .ok (.agg [.slice x0_a x0_n x0_c, .slice none 0 0, .int .i64 x2].toArray) w := by kernel_rfl
theorem tsome_ok {T : Tr} {b : Nat} {r1 r2 : Option Addr} {c1 c2 : Nat} {l : List HP} {w : World} (hR : Sep (blk b [.slice r1 T.nodes.length c1, .slice r2 T.frees.length c2, .int .i64 T.most] 147 :: l) w) (hp : 0 < T.nodes.length) : CallR Try.prog 72 [.pointer (some ⟨b, 0, none⟩)] w (fun v w' => v = .bool true ∧ Sep (blk b [.slice r1 T.nodes.length c1, .slice r2 T.frees.length c2, .int .i64 T.most] 147 :: l) w') := by
 refine enter Try.func72 rfl Try.ntmps72 (Nat.le_of_ble_eq_true rfl) ?_; intro aa hS
 refine wp_seq_k ?_; intro K219 hK219
 refine wp_region_lit ?_
 revert aa
 refine qN hR ?_
 intro aa hS
 refine wpList_nil ?_
 refine hK219 _ _ ?_
 refine wp_seq_k ?_; intro K220 hK220
 refine wp_region_lit ?_
 revert aa
 refine qM hR ?_
 refine qA hR rfl (fun _ hS => Yld.neqNil hS rfl rfl Try.underlying75) ?_
 refine qB (t := 4) true rfl (by rfl) ?_
 refine qM hR ?_
 refine qMg hR ?_
 refine qAg hR rfl rfl rfl (fun _ hS => Yld.nilCheck hS rfl) ?_
 refine qAg hR rfl rfl rfl (fun _ hS => Yld.fieldAddr hS rfl 0 Try.underlying147 rfl rfl info145 (by decide)) ?_
 refine qAg hR rfl rfl rfl (fun _ hS => Yld.load1 hS rfl Try.underlying145 rfl rdQ) ?_
 refine qAg hR rfl rfl rfl (fun _ hS => Yld.len hS rfl Try.underlying145) ?_
 refine qAg hR rfl rfl rfl (fun _ hS => Yld.gtr hS rfl rfl) ?_
 refine qB (t := 11) true rfl (by exact decide_eq_true (by omega)) ?_
 refine qA hR rfl (fun _ hS => Yld.pickT hS rfl rfl) ?_
 refine qN hR ?_
 intro aa hS
 refine wpList_nil ?_
 refine hK220 _ _ ?_
 refine wp_ret ?_
 repeat first | with_reducible refine thenR ?_ | with_reducible refine blockR ?_ | with_reducible refine scopeR ?_
 refine ret1 (fn := Try.f72) (e := .ret) (.inl rfl) Try.results72 hS hR ⟨_, (.tmp rfl), ?_⟩
 exact ⟨rfl, (hR.sub exQ)⟩
theorem TNew_ok {n : Int} {l : List HP} {w : World} (hR : Sep l w) (hn : 1 ≤ n ∧ n ≤ 8192) : CallR Try.prog 48 [.int .i64 n] w (fun v w' => ∃ b, v = .tuple [.pointer (some ⟨b, 0, none⟩), .int .i64 0].toArray ∧ Sep (trieA 147 144 3 b [] n :: l) w') := by
 refine enter Try.func48 rfl Try.ntmps48 (Nat.le_of_ble_eq_true rfl) ?_; intro aa hS
 refine wp_seq_k ?_; intro K226 hK226
 refine wp_region_lit ?_
 revert aa
 refine qN hR ?_
 refine qN hR ?_
 intro aa hS
 refine wpList_nil ?_
 refine hK226 _ _ ?_
 refine wp_seq_k ?_; intro K227 hK227
 refine wp_seq_k ?_; intro K228 hK228
 refine wp_region_lit ?_
 revert aa
 refine qM hR ?_
 refine qA hR rfl (fun _ hS => Yld.lss hS rfl rfl) ?_
 refine qB (t := 5) false rfl (by exact decide_eq_false (by omega)) ?_
 refine qM hR ?_
 refine qMg hR ?_
 refine qAg hR rfl rfl rfl (fun _ hS => Yld.gtr hS rfl rfl) ?_
 refine qB (t := 8) false rfl (by exact decide_eq_false (by omega)) ?_
 refine qA hR rfl (fun _ hS => Yld.pickF hS rfl rfl) ?_
 intro aa hS
 refine wpList_nil ?_
 refine hK228 _ _ ?_
 refine condF hS rfl ?_
 refine wp_skip ?_
 refine hK227 _ _ ?_
 refine wp_seq_k ?_; intro K229 hK229
 refine wp_region_lit ?_
 refine sB (Bmake (zc := [.int .i64 0, .int .i64 0, .int .i64 0, .int .i64 0, .int .i64 0, .int .i64 0, .int .i64 0, .int .i64 0, .int .i64 0, .int .i64 0, .int .i64 0, .int .i64 0, .int .i64 0, .int .i64 0, .int .i64 0, .int .i64 0, .int .i64 0, .int .i64 0]) hS hR rfl rfl Try.underlying145 info144 rfl (by rfl) (by rfl) (by decide) (by omega) (by show ((144 : Nat) : Int) * _ ≤ _; omega) (by omega) (by decide) ?_); clear hS hR; intro aa ww bb10 hS hR
 replace hR := hR.pk (r := blk bb10 _ _) pkQ
 replace hR := Sep.toRecs (m := 1) (sz := 18) (enc := eN) [z0] hR rfl (by intro _; exact eN_len _) rfl
 replace hR := hR.slsNil (T := 3) (sz := 1)
 revert aa
 refine qM hR ?_
 refine qA hR rfl (fun _ hS => Yld.build hS rfl (bld147_0_2 _ _ _ _)) ?_
 intro aa hS
 refine sB (Bbox hS hR rfl (by rfl) (by decide) ?_); clear hS hR; intro aa ww bb13 hS hR
 revert aa
 refine qN hR ?_
 refine qN hR ?_
 intro aa hS
 refine wpList_nil ?_
 refine hK229 _ _ ?_
 refine wp_ret ?_
 repeat first | with_reducible refine thenR ?_ | with_reducible refine blockR ?_ | with_reducible refine scopeR ?_
 refine retN (fn := Try.f48) (e := .ret) (.inl rfl) Try.results48 hS hR ⟨_, .cons (.tmp rfl) (.cons (.tmp rfl) (.nil)), rfl, ?_⟩
 refine ⟨_, rfl, Sep.trieAI (TA := 147) (TN := 144) (TI := 3) (b := bb13) (T := { nodes := [z0], free := [], most := n }) (r1 := some ⟨bb10, 0, none⟩) (r2 := none) (c1 := 1) (c2 := 0) (n1 := 1) (n2 := 0) (TW.new hn.1 hn.2) rfl rfl ?_⟩
 have h9 := (hR.pk (r := sls (some ⟨bb10, 0, none⟩) _ _ _ _ _) pkQ).pk (r := blk bb13 _ _) pkQ
 exact h9
theorem Get_ok {K : List (Ky × Int)} {most : Int} {b : Nat} {l : List HP} {w : World} {k : Ky} (hR : Sep (trieA 147 144 3 b K most :: l) w) (hk : WfK k) : CallR Try.prog 36 [.pointer (some ⟨b, 0, none⟩), vK k] w (fun v w' => v = .tuple [.int .i64 ((findV K k).getD 0), .bool (findV K k).isSome].toArray ∧ Sep (trieA 147 144 3 b K most :: l) w') := by
 refine enter Try.func36 rfl Try.ntmps36 (Nat.le_of_ble_eq_true rfl) ?_; intro aa hS
 obtain ⟨T, r1, c1, r2, c2, hT, hR⟩ := hR.trieAE
 have hpos := hT.pos
 obtain ⟨f, hW, hF⟩ := hT.wf
 refine wp_seq_k ?_; intro K230 hK230
 refine wp_region_lit ?_
 refine sB (Bbox hS hR rfl (by rfl) (by decide) ?_); clear hS hR; intro aa ww bb3 hS hR
 revert aa
 refine qN hR ?_
 refine qN hR ?_
 intro aa hS
 refine wpList_nil ?_
 refine hK230 _ _ ?_
 refine wp_seq_k ?_; intro K231 hK231
 refine wp_seq_k ?_; intro K232 hK232
 refine wp_region_lit ?_
 revert aa
 refine qM hR ?_
 intro aa hS
 refine sB (Bcall hS rfl Try.call72 (tsome_ok (hR.pk (r := blk b _ _) pkQ) (by omega)) (by decide) ?_); clear hS; intro aa ww vv hS hp
 clear hR
 obtain ⟨rfl, hR⟩ := hp
 refine sA hS hR (Yld.not hS rfl) (by decide) ?_; clear hS; intro aa hS
 refine wpList_nil ?_
 refine hK232 _ _ ?_
 refine condF hS rfl ?_
 refine wp_skip ?_
 refine hK231 _ _ ?_
 refine wp_seq_k ?_; intro K233 hK233
 refine wp_region_lit ?_
 revert aa
 refine qM hR ?_
 intro aa hS
 refine sA hS hR (Yld.loadAgg hS rfl Try.underlying35 rfl info35 rdsQ5 (by rfl)) (by decide) ?_; clear hS; intro aa hS
 refine sB (Bcall hS rfl Try.call73 (find_ok hW (by assumption) (by omega) ((hR.pk (r := sls r1 _ _ _ _ _) pkQ).pk (r := blk b _ _) pkQ)) (by decide) ?_); clear hS; intro aa ww vv hS hp
 clear hR
 obtain ⟨rfl, hR⟩ := hp
 have hfi := has_iff hk hT.keys
 have hfs := findV_some (K := K) (k := k)
 have htk : (dl k).take 26 = dl k := List.take_of_length_le (by rw [dl_len]; omega)
 revert aa
 refine qM hR ?_
 refine qX hR ?_
 refine qX hR ?_
 refine qN hR ?_
 refine qN hR ?_
 intro aa hS
 refine wpList_nil ?_
 refine hK233 _ _ ?_
 refine wp_seq_k ?_; intro K234 hK234
 refine wp_seq_k ?_; intro K235 hK235
 refine wp_region_lit ?_
 revert aa
 refine qM hR ?_
 refine qA hR rfl (fun _ hS => Yld.lss hS rfl rfl) ?_
 intro aa hS
 refine wpList_nil ?_
 refine hK235 _ _ ?_
 refine hS.splitB (t := 18) rfl ?_ ?_ <;> clear hS
 ·
  intro hg hS
  have hno : ¬ has K k := fun h => by rw [show (26 : Int).toNat = 26 from rfl, find_yes (hfi.2 h)] at hg; omega
  have hfn : findV K k = none := by cases h : findV K k with
   | none => rfl
   | some x => exact absurd (hfs.1 (by rw [h]; rfl)) hno
  refine condT hS rfl ?_
  refine wp_seq_k ?_; intro K236 hK236
  refine wp_region_lit ?_
  revert aa
  refine qN hR ?_
  refine qN hR ?_
  intro aa hS
  refine wpList_nil ?_
  refine hK236 _ _ ?_
  refine wp_ret ?_
  repeat first | with_reducible refine thenR ?_ | with_reducible refine blockR ?_ | with_reducible refine scopeR ?_
  refine retN (fn := Try.f36) (e := .ret) (.inl rfl) Try.results36 hS hR ⟨_, .cons (.tmp rfl) (.cons (.tmp rfl) (.nil)), rfl, ?_⟩
  refine ⟨?_, Sep.trieAI (TA := 147) (TN := 144) (TI := 3) (b := b) (T := T)  hT (by rfl) (by rfl) (hR.sub exQ)⟩
  first | (rw [hfn]; rfl) | (rw [hsm, ← hvl])
 ·
  intro hg hS
  have hde : dep (cK K) (dl k) 26 = 26 := by
   by_cases h : dep (cK K) (dl k) 26 = 26
   ·
    exact h
   ·
    rw [show (26 : Int).toNat = 26 from rfl, findAt, if_neg h] at hg; omega
  rw [show (26 : Int).toNat = 26 from rfl, find_yes hde, htk] at hS
  have hD := hW.at hde
  rw [htk] at hD
  have hlt := hW.lt _ hD
  have hvl := hW.val _ _ hD (dl_len k) (List.getElem?_eq_getElem hlt)
  rw [vK2_eq hk hT.keys] at hvl
  have hsm := hfs.2 (hfi.1 hde)
  refine condF hS rfl ?_
  refine wp_skip ?_
  refine hK234 _ _ ?_
  refine wp_seq_k ?_; intro K237 hK237
  refine wp_region_lit ?_
  revert aa
  refine qM hR ?_
  refine qA hR rfl (fun _ hS => Yld.nilCheck hS rfl) ?_
  refine qA hR rfl (fun _ hS => Yld.fieldAddr hS rfl 0 Try.underlying147 rfl rfl info145 (by decide)) ?_
  refine qA hR rfl (fun _ hS => Yld.load1 hS rfl Try.underlying145 rfl rdQ) ?_
  refine qM hR ?_
  refine qA hR rfl (fun _ hS => ilQ 18 (f (dl k)) Try.underlying145 info144) ?_
  refine qA hR rfl (fun _ hS => Yld.fieldAddr hS rfl 17 Try.underlying144 rfl rfl info3 (by decide)) ?_
  refine qA hR rfl (fun _ hS => Yld.load1 hS rfl Try.underlying3 rfl (Rd.rec (j := 17) (v := .int .i64 ((T.nodes[f (dl k)]'hlt).2.2)) pkQ (by intro _; exact eN_len _) hlt (by rfl))) ?_
  refine qN hR ?_
  refine qN hR ?_
  intro aa hS
  refine wpList_nil ?_
  refine hK237 _ _ ?_
  refine wp_ret ?_
  repeat first | with_reducible refine thenR ?_ | with_reducible refine blockR ?_ | with_reducible refine scopeR ?_
  refine retN (fn := Try.f36) (e := .ret) (.inl rfl) Try.results36 hS hR ⟨_, .cons (.tmp rfl) (.cons (.tmp rfl) (.nil)), rfl, ?_⟩
  refine ⟨?_, Sep.trieAI (TA := 147) (TN := 144) (TI := 3) (b := b) (T := T)  hT (by rfl) (by rfl) (hR.sub exQ)⟩
  first | (rw [hfn]; rfl) | (rw [hsm, ← hvl])
theorem TCount_ok {K : List (Ky × Int)} {most : Int} {b : Nat} {l : List HP} {w : World} {k : Ky} {n : Int} (hR : Sep (trieA 147 144 3 b K most :: l) w) (hk : WfK k) : CallR Try.prog 71 [.pointer (some ⟨b, 0, none⟩), vK k, .int .i64 n] w (fun v w' => v = .int .i64 (if 0 ≤ n ∧ n ≤ 26 then (cK K ((dl k).take n.toNat) : Int) else 0) ∧ Sep (trieA 147 144 3 b K most :: l) w') := by
 refine enter Try.func71 rfl Try.ntmps71 (Nat.le_of_ble_eq_true rfl) ?_; intro aa hS
 obtain ⟨T, r1, c1, r2, c2, hT, hR⟩ := hR.trieAE
 have hpos := hT.pos
 obtain ⟨f, hW, hF⟩ := hT.wf
 refine wp_seq_k ?_; intro K238 hK238
 refine wp_region_lit ?_
 refine sB (Bbox hS hR rfl (by rfl) (by decide) ?_); clear hS hR; intro aa ww bb4 hS hR
 revert aa
 refine qN hR ?_
 intro aa hS
 refine wpList_nil ?_
 refine hK238 _ _ ?_
 refine wp_seq_k ?_; intro K239 hK239
 refine wp_seq_k ?_; intro K240 hK240
 refine wp_region_lit ?_
 revert aa
 refine qM hR ?_
 intro aa hS
 refine sB (Bcall hS rfl Try.call72 (tsome_ok (hR.pk (r := blk b _ _) pkQ) (by omega)) (by decide) ?_); clear hS; intro aa ww vv hS hp
 clear hR
 obtain ⟨rfl, hR⟩ := hp
 revert aa
 refine qA hR rfl (fun _ hS => Yld.not hS rfl) ?_
 refine qM hR ?_
 refine qMg hR ?_
 refine qAg hR rfl rfl rfl (fun _ hS => Yld.lss hS rfl rfl) ?_
 refine qA hR rfl (fun _ hS => Yld.pickF hS rfl rfl) ?_
 refine qM hR ?_
 intro aa hS
 refine hS.splitB (t := 16) rfl ?_ ?_ <;> clear hS
 ·
  intro hg hS
  revert aa
  refine qZ ?_
  refine qZ ?_
  refine qA hR rfl (fun _ hS => Yld.pickT hS rfl rfl) ?_
  intro aa hS
  refine wpList_nil ?_
  refine hK240 _ _ ?_
  refine condT hS rfl ?_
  refine wp_seq_k ?_; intro K241 hK241
  refine wp_region_lit ?_
  revert aa
  refine qN hR ?_
  intro aa hS
  refine wpList_nil ?_
  refine hK241 _ _ ?_
  refine wp_ret ?_
  repeat first | with_reducible refine thenR ?_ | with_reducible refine blockR ?_ | with_reducible refine scopeR ?_
  refine ret1 (fn := Try.f71) (e := .ret) (.inl rfl) Try.results71 hS hR ⟨_, (.tmp rfl), ?_⟩
  refine ⟨?_, Sep.trieAI (TA := 147) (TN := 144) (TI := 3) (b := b) (T := T)  hT (by rfl) (by rfl) (hR.sub exQ)⟩
  first | (rw [if_neg (by omega)]) | (rw [if_pos ⟨by omega, by omega⟩, hc0]; rfl) | (rw [if_pos ⟨by omega, by omega⟩, ← hvl])
 ·
  intro hg hS
  revert aa
  refine qMg hR ?_
  refine qAg hR rfl rfl rfl (fun _ hS => Yld.gtr hS rfl rfl) ?_
  refine qA hR rfl (fun _ hS => Yld.pickF hS rfl rfl) ?_
  intro aa hS
  refine wpList_nil ?_
  refine hK240 _ _ ?_
  refine hS.splitB (t := 19) rfl ?_ ?_ <;> clear hS
  ·
   intro hg hS
   refine condT hS rfl ?_
   refine wp_seq_k ?_; intro K242 hK242
   refine wp_region_lit ?_
   revert aa
   refine qN hR ?_
   intro aa hS
   refine wpList_nil ?_
   refine hK242 _ _ ?_
   refine wp_ret ?_
   repeat first | with_reducible refine thenR ?_ | with_reducible refine blockR ?_ | with_reducible refine scopeR ?_
   refine ret1 (fn := Try.f71) (e := .ret) (.inl rfl) Try.results71 hS hR ⟨_, (.tmp rfl), ?_⟩
   refine ⟨?_, Sep.trieAI (TA := 147) (TN := 144) (TI := 3) (b := b) (T := T)  hT (by rfl) (by rfl) (hR.sub exQ)⟩
   first | (rw [if_neg (by omega)]) | (rw [if_pos ⟨by omega, by omega⟩, hc0]; rfl) | (rw [if_pos ⟨by omega, by omega⟩, ← hvl])
  ·
   intro hg hS
   refine condF hS rfl ?_
   refine wp_skip ?_
   refine hK239 _ _ ?_
   refine wp_seq_k ?_; intro K243 hK243
   refine wp_region_lit ?_
   revert aa
   refine qM hR ?_
   intro aa hS
   refine sA hS hR (Yld.loadAgg hS rfl Try.underlying35 rfl info35 rdsQ5 (by rfl)) (by decide) ?_; clear hS; intro aa hS
   revert aa
   refine qM hR ?_
   intro aa hS
   refine sB (Bcall hS rfl Try.call73 (find_ok hW (by assumption) (by omega) ((hR.pk (r := sls r1 _ _ _ _ _) pkQ).pk (r := blk b _ _) pkQ)) (by decide) ?_); clear hS; intro aa ww vv hS hp
   clear hR
   obtain ⟨rfl, hR⟩ := hp
   revert aa
   refine qM hR ?_
   refine qX hR ?_
   refine qX hR ?_
   refine qN hR ?_
   refine qN hR ?_
   intro aa hS
   refine wpList_nil ?_
   refine hK243 _ _ ?_
   refine wp_seq_k ?_; intro K244 hK244
   refine wp_seq_k ?_; intro K245 hK245
   refine wp_region_lit ?_
   revert aa
   refine qM hR ?_
   refine qA hR rfl (fun _ hS => Yld.lss hS rfl rfl) ?_
   intro aa hS
   refine wpList_nil ?_
   refine hK245 _ _ ?_
   refine hS.splitB (t := 28) rfl ?_ ?_ <;> clear hS
   ·
    intro hg hS
    have hde : ¬ dep (cK K) (dl k) n.toNat = n.toNat := fun h => by rw [find_yes h] at hg; omega
    have hn0 : 0 < n.toNat := by
     rcases Nat.eq_zero_or_pos n.toNat with h | h
     ·
      rw [h] at hde; exact absurd rfl hde
     ·
      exact h
    have hc0 : cK K ((dl k).take n.toNat) = 0 := by
     rcases Nat.eq_zero_or_pos (cK K ((dl k).take n.toNat)) with h | h
     ·
      exact h
     ·
      exact absurd ((dep_full hn0).2 h) hde
    refine condT hS rfl ?_
    refine wp_seq_k ?_; intro K246 hK246
    refine wp_region_lit ?_
    revert aa
    refine qN hR ?_
    intro aa hS
    refine wpList_nil ?_
    refine hK246 _ _ ?_
    refine wp_ret ?_
    repeat first | with_reducible refine thenR ?_ | with_reducible refine blockR ?_ | with_reducible refine scopeR ?_
    refine ret1 (fn := Try.f71) (e := .ret) (.inl rfl) Try.results71 hS hR ⟨_, (.tmp rfl), ?_⟩
    refine ⟨?_, Sep.trieAI (TA := 147) (TN := 144) (TI := 3) (b := b) (T := T)  hT (by rfl) (by rfl) (hR.sub exQ)⟩
    first | (rw [if_neg (by omega)]) | (rw [if_pos ⟨by omega, by omega⟩, hc0]; rfl) | (rw [if_pos ⟨by omega, by omega⟩, ← hvl])
   ·
    intro hg hS
    have hde : dep (cK K) (dl k) n.toNat = n.toNat := by
     by_cases h : dep (cK K) (dl k) n.toNat = n.toNat
     ·
      exact h
     ·
      rw [findAt, if_neg h] at hg; omega
    rw [find_yes hde] at hS
    have hD := hW.at hde
    have hlt := hW.lt _ hD
    have hvl := hW.cnt _ _ hD (List.getElem?_eq_getElem hlt)
    refine condF hS rfl ?_
    refine wp_skip ?_
    refine hK244 _ _ ?_
    refine wp_seq_k ?_; intro K247 hK247
    refine wp_region_lit ?_
    revert aa
    refine qM hR ?_
    refine qA hR rfl (fun _ hS => Yld.nilCheck hS rfl) ?_
    refine qA hR rfl (fun _ hS => Yld.fieldAddr hS rfl 0 Try.underlying147 rfl rfl info145 (by decide)) ?_
    refine qA hR rfl (fun _ hS => Yld.load1 hS rfl Try.underlying145 rfl rdQ) ?_
    refine qM hR ?_
    refine qA hR rfl (fun _ hS => ilQ 18 (f ((dl k).take n.toNat)) Try.underlying145 info144) ?_
    refine qA hR rfl (fun _ hS => Yld.fieldAddr hS rfl 0 Try.underlying144 rfl rfl info3 (by decide)) ?_
    refine qA hR rfl (fun _ hS => Yld.load1 hS rfl Try.underlying3 rfl (Rd.rec0 (v := .int .i64 ((T.nodes[f ((dl k).take n.toNat)]'hlt).1)) pkQ (by intro _; exact eN_len _) hlt (by rfl))) ?_
    refine qN hR ?_
    intro aa hS
    refine wpList_nil ?_
    refine hK247 _ _ ?_
    refine wp_ret ?_
    repeat first | with_reducible refine thenR ?_ | with_reducible refine blockR ?_ | with_reducible refine scopeR ?_
    refine ret1 (fn := Try.f71) (e := .ret) (.inl rfl) Try.results71 hS hR ⟨_, (.tmp rfl), ?_⟩
    refine ⟨?_, Sep.trieAI (TA := 147) (TN := 144) (TI := 3) (b := b) (T := T)  hT (by rfl) (by rfl) (hR.sub exQ)⟩
    first | (rw [if_neg (by omega)]) | (rw [if_pos ⟨by omega, by omega⟩, hc0]; rfl) | (rw [if_pos ⟨by omega, by omega⟩, ← hvl])
end Go.Proofs.Ythhndmlfgjcgpaa.Sx
