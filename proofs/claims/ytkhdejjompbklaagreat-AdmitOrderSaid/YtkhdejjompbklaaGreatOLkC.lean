/-
 
-/
import Derived.Test.YtkhdejjompbklaaGreatOLkB
namespace Go.Proofs.YtkhdejjompbklaaGreat.Sx
open Go
set_option maxRecDepth 20000
set_option linter.unusedVariables false
set_option linter.unusedSimpArgs false
theorem Ladd_ok {S n b : Nat} {L : Nat → List Nat} {l : List HP} {w : World} {x y : Int} {w9 : Nat} (hR : Sep (linksA 183 180 3 b S n L :: l) w) (hw : w9 < 2) : CallR Tryz.prog 131 [.pointer (some ⟨b, 0, none⟩), .int .i64 x, .int .i64 y, .int .i64 (w9 : Int)] w (fun v w' => v = .int .i64 (addE S n L x y) ∧ Sep (linksA 183 180 3 b S n (addS S n L w9 x y) :: l) w') := by
 refine enter Tryz.func131 rfl Tryz.ntmps131 (Nat.le_of_ble_eq_true rfl) ?_; intro aa hS
 obtain ⟨P, R, rg, nm, sz, r1, c1, r2, c2, r3, c3, r4, c4, hW, hR⟩ := hR.linksAE
 have hs1 := hW.s1
 have hs2 := hW.s2
 have hn1 := hW.n1
 have hn2 := hW.n2
 obtain ⟨hb1, hb2, hb3, hb4⟩ := hR.linksBk hn1
 refine wp_seq_k ?_; intro K197 hK197
 refine wp_region_lit ?_
 revert aa
 refine qN hR ?_
 intro aa hS
 refine wpList_nil ?_
 refine hK197 _ _ ?_
 refine wp_seq_k ?_; intro K198 hK198
 refine wp_block ?_
 refine wp_seq_k ?_; intro K199 hK199
 refine wp_region_lit ?_
 revert aa
 refine qM hR ?_
 intro aa hS
 refine sB (Bcall hS rfl Tryz.call130 (lsome_ok (hR.pk (r := blk b _ _) pkQ) (by omega)) (by decide) ?_); clear hS; intro aa ww vv hS hp
 clear hR
 obtain ⟨rfl, hR⟩ := hp
 revert aa
 refine qA hR rfl (fun _ hS => Yld.not hS rfl) ?_
 refine qN hR ?_
 intro aa hS
 refine wpList_nil ?_
 refine hK199 _ _ ?_
 refine condF hS rfl ?_
 refine wp_seq_k ?_; intro K200 hK200
 refine wp_region_lit ?_
 revert aa
 refine qM hR ?_
 refine qM hR ?_
 intro aa hS
 refine sB (Bcall hS rfl Tryz.call122 (llist_ok (hR.pk (r := blk b _ _) pkQ) (by omega)) (by decide) ?_); clear hS; intro aa ww vv hS hp
 clear hR
 obtain ⟨rfl, hR⟩ := hp
 revert aa
 refine qA hR rfl (fun _ hS => Yld.not hS rfl) ?_
 refine qM hR ?_
 intro aa hS
 refine hS.splitB (t := 19) rfl ?_ ?_ <;> clear hS
 ·
  intro hg hS
  revert aa
  refine qZ ?_
  refine qZ ?_
  refine qZ ?_
  refine qZ ?_
  refine qA hR rfl (fun _ hS => Yld.pickT hS rfl rfl) ?_
  refine qN hR ?_
  intro aa hS
  refine wpList_nil ?_
  refine hK200 _ _ ?_
  refine condT hS rfl ?_
  refine wp_seq_k ?_; intro K201 hK201
  refine wp_region_lit ?_
  revert aa
  refine qN hR ?_
  intro aa hS
  refine wpList_nil ?_
  refine hK201 _ _ ?_
  refine wp_ret ?_
  repeat first | with_reducible refine thenR ?_ | with_reducible refine blockR ?_ | with_reducible refine scopeR ?_
  refine ret1 (fn := Tryz.f131) (e := .ret) (.inl rfl) Tryz.results131 hS hR ⟨_, (.tmp rfl), ?_⟩
  have he : addE S n L x y = 2 := by rw [addE, if_pos (by omega)]
  refine ⟨by rw [he], ?_⟩
  exact Sep.linksAI (TL := 183) (TN := 180) (TI := 3) (b := b) hW (by rw [addS, he]; rfl) (hR.sub exQ)
 ·
  intro hg hS
  revert aa
  refine qMg hR ?_
  refine qMg hR ?_
  intro aa hS
  refine sBg hS rfl rfl (Bcall hS rfl Tryz.call111 (lslot_ok (hR.pk (r := blk b _ _) pkQ) (by omega)) (by decide) ?_); clear hS; intro aa ww vv hS hp
  clear hR
  obtain ⟨rfl, hR⟩ := hp
  revert aa
  refine qAg hR rfl rfl rfl (fun _ hS => Yld.not hS rfl) ?_
  refine qA hR rfl (fun _ hS => Yld.pickF hS rfl rfl) ?_
  refine qN hR ?_
  intro aa hS
  refine wpList_nil ?_
  refine hK200 _ _ ?_
  refine hS.splitB (t := 14) rfl ?_ ?_ <;> clear hS
  ·
   intro hg hS
   refine condT hS rfl ?_
   refine wp_seq_k ?_; intro K202 hK202
   refine wp_region_lit ?_
   revert aa
   refine qN hR ?_
   intro aa hS
   refine wpList_nil ?_
   refine hK202 _ _ ?_
   refine wp_ret ?_
   repeat first | with_reducible refine thenR ?_ | with_reducible refine blockR ?_ | with_reducible refine scopeR ?_
   refine ret1 (fn := Tryz.f131) (e := .ret) (.inl rfl) Tryz.results131 hS hR ⟨_, (.tmp rfl), ?_⟩
   have he : addE S n L x y = 2 := by rw [addE, if_pos (by omega)]
   refine ⟨by rw [he], ?_⟩
   exact Sep.linksAI (TL := 183) (TN := 180) (TI := 3) (b := b) hW (by rw [addS, he]; rfl) (hR.sub exQ)
  ·
   intro hg hS
   obtain ⟨x, rfl⟩ : ∃ z9 : Nat, x = z9 := ⟨(x).toNat, by omega⟩
   obtain ⟨y, rfl⟩ : ∃ z9 : Nat, y = z9 := ⟨(y).toNat, by omega⟩
   have hxn : x < n := by omega
   have hri := hW.hrg x hxn
   have hlen := hW.len hxn
   have hsz := hW.hsz x hxn
   have hin : 0 ≤ (x : Int) ∧ (x : Int) < n ∧ 0 ≤ (y : Int) ∧ (y : Int) < S := by omega
   have hyS : y < S := by omega
   refine condF hS rfl ?_
   refine wp_seq_k ?_; intro K203 hK203
   refine wp_region_lit ?_
   by_cases hn : (ofL n L y).isSome = true
   ·
    revert aa
    refine qM hR ?_
    refine qA hR rfl (fun _ hS => Yld.nilCheck hS rfl) ?_
    refine qA hR rfl (fun _ hS => Yld.fieldAddr hS rfl 0 Tryz.underlying183 rfl rfl info181 (by decide)) ?_
    refine qA hR rfl (fun _ hS => Yld.load1 hS rfl Tryz.underlying181 rfl rdQ) ?_
    refine qM hR ?_
    refine qA hR rfl (fun _ hS => ihQ 3 (y) Tryz.underlying181 info180) ?_
    refine qA hR rfl (fun _ hS => Yld.fieldAddr hS rfl 2 Tryz.underlying180 rfl rfl info3 (by decide)) ?_
    refine qA hR rfl (fun _ hS => Yld.load1 hS rfl Tryz.underlying3 rfl (Rd.rec (k := y) (j := 2) (v := .int .i64 (R y)) (xs := nods (S + n) P R) pkQ (by intro _; rfl) (by rw [nods_len]; omega) (by rw [nods_get]; rfl))) ?_
    refine qA hR rfl (fun _ hS => Yld.geq hS rfl rfl) ?_
    refine qB (t := 34) true rfl (by exact decide_eq_true (by obtain ⟨i, _, _, h, _⟩ := hW.hasR hyS hn; omega)) ?_
    refine qN hR ?_
    intro aa hS
    refine wpList_nil ?_
    refine hK203 _ _ ?_
    refine condT hS rfl ?_
    refine wp_seq_k ?_; intro K204 hK204
    refine wp_region_lit ?_
    revert aa
    refine qN hR ?_
    intro aa hS
    refine wpList_nil ?_
    refine hK204 _ _ ?_
    refine wp_ret ?_
    repeat first | with_reducible refine thenR ?_ | with_reducible refine blockR ?_ | with_reducible refine scopeR ?_
    refine ret1 (fn := Tryz.f131) (e := .ret) (.inl rfl) Tryz.results131 hS hR ⟨_, (.tmp rfl), ?_⟩
    have he : addE S n L x y = 140 := by rw [addE, if_neg (by omega), Int.toNat_natCast, if_pos hn]
    refine ⟨by rw [he], ?_⟩
    exact Sep.linksAI (TL := 183) (TN := 180) (TI := 3) (b := b) hW (by rw [addS, he]; rfl) (hR.sub exQ)
   ·
    revert aa
    refine qM hR ?_
    refine qA hR rfl (fun _ hS => Yld.nilCheck hS rfl) ?_
    refine qA hR rfl (fun _ hS => Yld.fieldAddr hS rfl 0 Tryz.underlying183 rfl rfl info181 (by decide)) ?_
    refine qA hR rfl (fun _ hS => Yld.load1 hS rfl Tryz.underlying181 rfl rdQ) ?_
    refine qM hR ?_
    refine qA hR rfl (fun _ hS => ihQ 3 (y) Tryz.underlying181 info180) ?_
    refine qA hR rfl (fun _ hS => Yld.fieldAddr hS rfl 2 Tryz.underlying180 rfl rfl info3 (by decide)) ?_
    refine qA hR rfl (fun _ hS => Yld.load1 hS rfl Tryz.underlying3 rfl (Rd.rec (k := y) (j := 2) (v := .int .i64 (R y)) (xs := nods (S + n) P R) pkQ (by intro _; rfl) (by rw [nods_len]; omega) (by rw [nods_get]; rfl))) ?_
    refine qA hR rfl (fun _ hS => Yld.geq hS rfl rfl) ?_
    refine qB (t := 34) false rfl (by exact decide_eq_false (by have h := (hW.noR hyS hn).1; omega)) ?_
    refine qN hR ?_
    intro aa hS
    refine wpList_nil ?_
    refine hK203 _ _ ?_
    refine condF hS rfl ?_
    refine wp_skip ?_
    refine hK198 _ _ ?_
    refine wp_seq_k ?_; intro K205 hK205
    refine wp_region_lit ?_
    have hno := hW.noR hyS hn
    revert aa
    refine qM hR ?_
    refine qA hR rfl (fun _ hS => Yld.nilCheck hS rfl) ?_
    refine qA hR rfl (fun _ hS => Yld.fieldAddr hS rfl 2 Tryz.underlying183 rfl rfl info36 (by decide)) ?_
    refine qA hR rfl (fun _ hS => Yld.load1 hS rfl Tryz.underlying36 rfl rdQ) ?_
    intro aa hS
    have hno := hW.noR hyS hn
    revert aa
    refine qM hR ?_
    refine qA hR rfl (fun _ hS => ihQ 1 (x) Tryz.underlying36 info3) ?_
    refine qA hR rfl (fun _ hS => Yld.load1 hS rfl Tryz.underlying3 rfl (Rd.rec0 (k := x) (v := .int .i64 ((rg x : Nat) : Int)) (xs := tabN n rg) pkQ (by intro _; rfl) (by rw [tabN_len]; omega) (by rw [tabN_get]; rfl))) ?_
    refine qN hR ?_
    intro aa hS
    refine wpList_nil ?_
    refine hK205 _ _ ?_
    refine wp_seq_k ?_; intro K206 hK206
    refine wp_region_lit ?_
    revert aa
    refine qM hR ?_
    refine qM hR ?_
    refine qA hR rfl (fun _ hS => Yld.nilCheck hS rfl) ?_
    refine qA hR rfl (fun _ hS => Yld.fieldAddr hS rfl 1 Tryz.underlying183 rfl rfl info3 (by decide)) ?_
    refine qA hR rfl (fun _ hS => Yld.load1 hS rfl Tryz.underlying3 rfl rdQ) ?_
    refine qM hR ?_
    intro aa hS
    refine sA hS hR adQ (by decide) ?_; clear hS; intro aa hS
    replace hS := hS.say (t := 48) (.int .i64 ((S + rg x : Nat) : Int)) rfl (by rw [Int.natCast_add])
    revert aa
    refine qM hR ?_
    refine qM hR ?_
    intro aa hS
    refine sB (Bcall hS rfl Tryz.call141 (lput_ok ((hR.pk (r := sls r1 _ _ _ _ _) pkQ).pk (r := blk b _ _) pkQ) hb1 (by omega) (by omega) (hW.bnd hw hxn List.mem_cons_self) hw) (by decide) ?_); clear hS; intro aa ww vv hS hp
    clear hR
    obtain ⟨rfl, hR⟩ := hp
    refine wpList_nil ?_
    refine hK206 _ _ ?_
    refine wp_seq_k ?_; intro K207 hK207
    refine wp_region_lit ?_
    revert aa
    refine qM hR ?_
    refine qA hR rfl (fun _ hS => Yld.nilCheck hS rfl) ?_
    refine qA hR rfl (fun _ hS => Yld.fieldAddr hS rfl 0 Tryz.underlying183 rfl rfl info181 (by decide)) ?_
    refine qA hR rfl (fun _ hS => Yld.load1 hS rfl Tryz.underlying181 rfl rdQ) ?_
    refine qM hR ?_
    refine qM hR ?_
    refine qA hR rfl (fun _ hS => ihQ 3 (y) Tryz.underlying181 info180) ?_
    refine qA hR rfl (fun _ hS => Yld.fieldAddr hS rfl 2 Tryz.underlying180 rfl rfl info3 (by decide)) ?_
    intro aa hS
    refine sB (BstoreNR hS hR rfl rfl info3 rfl pkQ (by omega) ?_); clear hR; intro ww hR
    refine wpList_nil ?_
    refine hK207 _ _ ?_
    refine wp_seq_k ?_; intro K208 hK208
    refine wp_region_lit ?_
    revert aa
    refine qM hR ?_
    refine qA hR rfl (fun _ hS => Yld.nilCheck hS rfl) ?_
    refine qA hR rfl (fun _ hS => Yld.fieldAddr hS rfl 4 Tryz.underlying183 rfl rfl info36 (by decide)) ?_
    intro aa hS
    refine sA hS hR (Yld.load1 hS rfl Tryz.underlying36 rfl rdQ) (by decide) ?_; clear hS; intro aa hS
    revert aa
    refine qM hR ?_
    refine qA hR rfl (fun _ hS => ihQ 1 (rg x) Tryz.underlying36 info3) ?_
    refine qA hR rfl (fun _ hS => Yld.load1 hS rfl Tryz.underlying3 rfl (Rd.rec0 (k := (rg x)) (v := .int .i64 ((sz (rg x) : Nat) : Int)) (xs := tabN n sz) pkQ (by intro _; rfl) (by rw [tabN_len]; omega) (by rw [tabN_get]; rfl))) ?_
    intro aa hS
    refine sA hS hR adQ (by decide) ?_; clear hS; intro aa hS
    replace hS := hS.say (t := 67) (.int .i64 ((sz (rg x) + 1 : Nat) : Int)) rfl (by rw [Int.natCast_add]; rfl)
    refine sA hS hR ((ihQ 1 (rg x) Tryz.underlying36 info3)) (by decide) ?_; clear hS; intro aa hS
    refine sB (BstoreT hS hR rfl rfl info3 rfl pkQ (by omega) ?_); clear hR; intro ww hR
    refine wpList_nil ?_
    refine hK208 _ _ ?_
    refine wp_seq_k ?_; intro K209 hK209
    refine wp_region_lit ?_
    revert aa
    refine qN hR ?_
    intro aa hS
    refine wpList_nil ?_
    refine hK209 _ _ ?_
    refine wp_ret ?_
    repeat first | with_reducible refine thenR ?_ | with_reducible refine blockR ?_ | with_reducible refine scopeR ?_
    refine ret1 (fn := Tryz.f131) (e := .ret) (.inl rfl) Tryz.results131 hS hR ⟨_, (.tmp rfl), ?_⟩
    have he : addE S n L x y = 0 := by rw [addE, if_neg (by omega), Int.toNat_natCast, if_neg hn]
    refine ⟨by rw [he], ?_⟩
    exact Sep.linksAI (TL := 183) (TN := 180) (TI := 3) (b := b) (hW.add hw hxn hyS hno.2.2) (by rw [addS, he, if_pos rfl]; rfl) (hR.sub exQ)
theorem LBack_ok {S n b : Nat} {L : Nat → List Nat} {l : List HP} {w : World} {x y : Int} (hR : Sep (linksA 183 180 3 b S n L :: l) w) : CallR Tryz.prog 104 [.pointer (some ⟨b, 0, none⟩), .int .i64 x, .int .i64 y] w (fun v w' => v = .int .i64 (addE S n L x y) ∧ Sep (linksA 183 180 3 b S n (addS S n L 1 x y) :: l) w') := by
 refine enter Tryz.func104 rfl Tryz.ntmps104 (Nat.le_of_ble_eq_true rfl) ?_; intro aa hS
 refine wp_seq_k ?_; intro K210 hK210
 refine wp_region_lit ?_
 revert aa
 refine qN hR ?_
 intro aa hS
 refine wpList_nil ?_
 refine hK210 _ _ ?_
 refine wp_seq_k ?_; intro K211 hK211
 refine wp_region_lit ?_
 revert aa
 refine qM hR ?_
 refine qM hR ?_
 refine qM hR ?_
 intro aa hS
 refine sB (Bcall hS rfl Tryz.call131 (Ladd_ok (w9 := 1) (hR.pk (r := linksA _ _ _ _ _ _ _) pkQ) (by omega)) (by decide) ?_); clear hS; intro aa ww vv hS hp
 clear hR
 obtain ⟨rfl, hR⟩ := hp
 revert aa
 refine qN hR ?_
 intro aa hS
 refine wpList_nil ?_
 refine hK211 _ _ ?_
 refine wp_ret ?_
 repeat first | with_reducible refine thenR ?_ | with_reducible refine blockR ?_ | with_reducible refine scopeR ?_
 refine ret1 (fn := Tryz.f104) (e := .ret) (.inl rfl) Tryz.results104 hS hR ⟨_, (.tmp rfl), ?_⟩
 exact ⟨rfl, (hR.sub exQ)⟩
theorem LOut_ok {S n b : Nat} {L : Nat → List Nat} {l : List HP} {w : World} {x : Int} (hR : Sep (linksA 183 180 3 b S n L :: l) w) : CallR Tryz.prog 103 [.pointer (some ⟨b, 0, none⟩), .int .i64 x] w (fun v w' => v = .int .i64 (outE S n L x) ∧ Sep (linksA 183 180 3 b S n (outS S n L x) :: l) w') := by
 refine enter Tryz.func103 rfl Tryz.ntmps103 (Nat.le_of_ble_eq_true rfl) ?_; intro aa hS
 obtain ⟨P, R, rg, nm, sz, r1, c1, r2, c2, r3, c3, r4, c4, hW, hR⟩ := hR.linksAE
 have hs1 := hW.s1
 have hs2 := hW.s2
 have hn1 := hW.n1
 have hn2 := hW.n2
 obtain ⟨hb1, hb2, hb3, hb4⟩ := hR.linksBk hn1
 refine wp_seq_k ?_; intro K212 hK212
 refine wp_region_lit ?_
 revert aa
 refine qN hR ?_
 intro aa hS
 refine wpList_nil ?_
 refine hK212 _ _ ?_
 refine wp_seq_k ?_; intro K213 hK213
 refine wp_block ?_
 refine wp_seq_k ?_; intro K214 hK214
 refine wp_region_lit ?_
 revert aa
 refine qM hR ?_
 intro aa hS
 refine sB (Bcall hS rfl Tryz.call130 (lsome_ok (hR.pk (r := blk b _ _) pkQ) (by omega)) (by decide) ?_); clear hS; intro aa ww vv hS hp
 clear hR
 obtain ⟨rfl, hR⟩ := hp
 revert aa
 refine qA hR rfl (fun _ hS => Yld.not hS rfl) ?_
 refine qN hR ?_
 intro aa hS
 refine wpList_nil ?_
 refine hK214 _ _ ?_
 refine condF hS rfl ?_
 refine wp_seq_k ?_; intro K215 hK215
 refine wp_region_lit ?_
 revert aa
 refine qM hR ?_
 refine qM hR ?_
 intro aa hS
 refine sB (Bcall hS rfl Tryz.call111 (lslot_ok (hR.pk (r := blk b _ _) pkQ) (by omega)) (by decide) ?_); clear hS; intro aa ww vv hS hp
 clear hR
 obtain ⟨rfl, hR⟩ := hp
 revert aa
 refine qA hR rfl (fun _ hS => Yld.not hS rfl) ?_
 refine qN hR ?_
 intro aa hS
 refine wpList_nil ?_
 refine hK215 _ _ ?_
 refine hS.splitB (t := 10) rfl ?_ ?_ <;> clear hS
 ·
  intro hg hS
  refine condT hS rfl ?_
  refine wp_seq_k ?_; intro K216 hK216
  refine wp_region_lit ?_
  revert aa
  refine qN hR ?_
  intro aa hS
  refine wpList_nil ?_
  refine hK216 _ _ ?_
  refine wp_ret ?_
  repeat first | with_reducible refine thenR ?_ | with_reducible refine blockR ?_ | with_reducible refine scopeR ?_
  refine ret1 (fn := Tryz.f103) (e := .ret) (.inl rfl) Tryz.results103 hS hR ⟨_, (.tmp rfl), ?_⟩
  refine ⟨by rw [outE, if_pos (by omega)], ?_⟩
  exact Sep.linksAI (TL := 183) (TN := 180) (TI := 3) (b := b) hW (by rw [outS, if_pos (by omega)]) (hR.sub exQ)
 ·
  intro hg hS
  obtain ⟨x, rfl⟩ : ∃ z9 : Nat, x = z9 := ⟨(x).toNat, by omega⟩
  have hxS : x < S := by omega
  refine condF hS rfl ?_
  refine wp_seq_k ?_; intro K217 hK217
  refine wp_region_lit ?_
  by_cases hn : (ofL n L x).isSome = true
  ·
   revert aa
   refine qM hR ?_
   refine qA hR rfl (fun _ hS => Yld.nilCheck hS rfl) ?_
   refine qA hR rfl (fun _ hS => Yld.fieldAddr hS rfl 0 Tryz.underlying183 rfl rfl info181 (by decide)) ?_
   intro aa hS
   refine sA hS hR (Yld.load1 hS rfl Tryz.underlying181 rfl rdQ) (by decide) ?_; clear hS; intro aa hS
   revert aa
   refine qM hR ?_
   refine qA hR rfl (fun _ hS => ihQ 3 (x) Tryz.underlying181 info180) ?_
   refine qA hR rfl (fun _ hS => Yld.fieldAddr hS rfl 2 Tryz.underlying180 rfl rfl info3 (by decide)) ?_
   refine qA hR rfl (fun _ hS => Yld.load1 hS rfl Tryz.underlying3 rfl (Rd.rec (k := x) (j := 2) (v := .int .i64 (R x)) (xs := nods (S + n) P R) pkQ (by intro _; rfl) (by rw [nods_len]; omega) (by rw [nods_get]; rfl))) ?_
   refine qA hR rfl (fun _ hS => Yld.lss hS rfl rfl) ?_
   refine qB (t := 24) false rfl (by exact decide_eq_false (by obtain ⟨i, _, _, h, _⟩ := hW.hasR hxS hn; omega)) ?_
   refine qN hR ?_
   intro aa hS
   refine wpList_nil ?_
   refine hK217 _ _ ?_
   refine condF hS rfl ?_
   refine wp_skip ?_
   refine hK213 _ _ ?_
   refine wp_seq_k ?_; intro K218 hK218
   refine wp_region_lit ?_
   revert aa
   refine qM hR ?_
   intro aa hS
   obtain ⟨i, hi, hx, hRx, hof⟩ := hW.hasR hxS hn
   have hri := hW.hrg i hi
   have hlen := hW.len hi
   have hsz := hW.hsz i hi
   have hpos := List.length_pos_of_mem hx
   have hm := List.mem_cons_of_mem (S + rg i) hx
   have hp0 := hW.bnd (d := 0) (by omega) hi hm
   have hp1 := hW.bnd (d := 1) (by omega) hi hm
   have hne := hW.outNe hi hx
   revert aa
   refine qA hR rfl (fun _ hS => Yld.nilCheck hS rfl) ?_
   refine qA hR rfl (fun _ hS => Yld.fieldAddr hS rfl 0 Tryz.underlying183 rfl rfl info181 (by decide)) ?_
   refine qA hR rfl (fun _ hS => Yld.load1 hS rfl Tryz.underlying181 rfl rdQ) ?_
   refine qM hR ?_
   refine qA hR rfl (fun _ hS => ihQ 3 (x) Tryz.underlying181 info180) ?_
   refine qN hR ?_
   intro aa hS
   refine wpList_nil ?_
   refine hK218 _ _ ?_
   refine wp_seq_k ?_; intro K219 hK219
   refine drawn krQ hR (Ex.of_pk (r := sls r1 _ _ _ _ _) pkQ) ?_; clear hR; intro ww hR hR0
   revert aa
   refine eA 0 rfl krQ (fun _ _ _ h => h) hR0 rfl (fun _ hS => Yld.move hS rfl) ?_
   refine eA 1 rfl krQ (fun _ _ _ h => h) hR0 rfl (fun _ hS => Yld.nilCheck hS rfl) ?_
   refine eA 2 rfl krQ (fun _ _ _ h => h) hR0 rfl (fun _ hS => Yld.fieldAddr hS rfl 0 Tryz.underlying183 rfl rfl info181 (by decide)) ?_
   intro aa hS
   refine dA 3 rfl krQ krQ krQ (fun _ _ _ h => h) hS hR0 (Yld.load1 hS rfl Tryz.underlying181 rfl rdQ) (by decide) ?_; clear hS; intro aa hS
   revert aa
   refine eA 4 rfl krQ (fun _ _ _ h => h) hR0 rfl (fun _ hS => Yld.move hS rfl) ?_
   refine eA 5 rfl krQ (fun _ _ _ h => h) hR0 rfl (fun _ hS => Yld.nilCheck hS rfl) ?_
   refine eA 6 rfl krQ (fun _ _ _ h => h) hR0 rfl (fun _ hS => Yld.fieldAddr hS rfl 0 Tryz.underlying180 rfl rfl info178 (by decide)) ?_
   refine eA 7 rfl krQ (fun _ _ _ h => h) hR0 rfl (fun _ hS => Yld.to (u := .pointer (some ⟨blkOf r1, x * 3 + 1, none⟩)) (Yld.indexArr hS rfl rfl Tryz.underlying178 info3 (by omega) (by omega)) (by have h1 : (Tryz.t3).size = 1 := rfl; rw [h1]; congr 3 <;> omega)) ?_
   refine eA 9 rfl krQ (fun _ _ _ h => h) hR0 rfl (fun _ hS => Yld.move hS rfl) ?_
   refine eA 10 rfl krQ (fun _ _ _ h => h) hR0 rfl (fun _ hS => Yld.nilCheck hS rfl) ?_
   refine eA 11 rfl krQ (fun _ _ _ h => h) hR0 rfl (fun _ hS => Yld.fieldAddr hS rfl 0 Tryz.underlying180 rfl rfl info178 (by decide)) ?_
   refine eA 12 rfl krQ (fun _ _ _ h => h) hR0 rfl (fun _ hS => Yld.to (u := .pointer (some ⟨blkOf r1, x * 3 + 0, none⟩)) (Yld.indexArr hS rfl rfl Tryz.underlying178 info3 (by omega) (by omega)) (by have h1 : (Tryz.t3).size = 1 := rfl; rw [h1]; congr 3 <;> omega)) ?_
   intro aa hS
   refine dTwo (i := 8) (j := 13) krQ ?_ ?_
   ·
    refine dop rfl (BA hS hR (Yld.load1 hS rfl Tryz.underlying3 rfl (Rd.rec (k := x) (j := 1) (v := .int .i64 ((P 1 x : Nat) : Int)) (xs := nods (S + n) P R) pkQ (by intro _; rfl) (by rw [nods_len]; omega) (by rw [nods_get]; exact eL_get (r := (fun d => ((P d x : Nat) : Int), R x)) (by omega)))) (by decide) ?_); clear hS; intro aa hS; refine ⟨hR0, ?_⟩
    revert aa
    refine eA 14 rfl krQ (fun _ _ _ h => h) hR0 rfl (fun _ hS => ihQ 3 (P 1 x) Tryz.underlying181 info180) ?_
    refine eA 15 rfl krQ (fun _ _ _ h => h) hR0 rfl (fun _ hS => Yld.fieldAddr hS rfl 0 Tryz.underlying180 rfl rfl info178 (by decide)) ?_
    intro aa hS
    refine dOne (i := 13) krQ ?_
    refine dop rfl (BA hS hR (Yld.load1 hS rfl Tryz.underlying3 rfl (Rd.rec (k := x) (j := 0) (v := .int .i64 ((P 0 x : Nat) : Int)) (xs := nods (S + n) P R) pkQ (by intro _; rfl) (by rw [nods_len]; omega) (by rw [nods_get]; exact eL_get (r := (fun d => ((P d x : Nat) : Int), R x)) (by omega)))) (by decide) ?_); clear hS; intro aa hS; refine ⟨hR0, ?_⟩
    revert aa
    refine eA 16 rfl krQ (fun _ _ _ h => h) hR0 rfl (fun _ hS => Yld.to (u := .pointer (some ⟨blkOf r1, (P 1 x) * 3 + 0, none⟩)) (Yld.indexArr hS rfl rfl Tryz.underlying178 info3 (by omega) (by omega)) (by have h1 : (Tryz.t3).size = 1 := rfl; rw [h1]; congr 3 <;> omega)) ?_
    intro aa hS
    refine dOne (i := 17) krQ ?_
    refine dop rfl (BstoreN hS hR rfl rfl info3 rfl pkQ (by omega) (by omega) ?_); clear hR hR0; intro ww hR
    refine dnext (hR.sub exQ) ?_; intro hR0
    obtain ⟨P1, hP1⟩ : ∃ y, updP P 0 (P 1 x) (P 0 x) = y := ⟨_, rfl⟩
    rw [hP1] at hR
    have q0 : P1 0 x = P 0 x := by rw [← hP1]; unfold updP; rw [if_neg fun h => hne.2 h.2.symm]
    have q1 : P1 1 x = P 1 x := by rw [← hP1]; unfold updP; rw [if_neg fun h => hne.2 h.2.symm]
    refine wpAnyH_done krQ ?_ _; clear hR0
    refine hK219 _ _ ?_
    refine wp_seq_k ?_; intro K220 hK220
    refine drawn krQ hR (Ex.of_pk (r := sls r1 _ _ _ _ _) pkQ) ?_; clear hR; intro ww hR hR0
    revert aa
    refine eA 0 rfl krQ (fun _ _ _ h => h) hR0 rfl (fun _ hS => Yld.move hS rfl) ?_
    refine eA 1 rfl krQ (fun _ _ _ h => h) hR0 rfl (fun _ hS => Yld.nilCheck hS rfl) ?_
    refine eA 2 rfl krQ (fun _ _ _ h => h) hR0 rfl (fun _ hS => Yld.fieldAddr hS rfl 0 Tryz.underlying183 rfl rfl info181 (by decide)) ?_
    intro aa hS
    refine dA 3 rfl krQ krQ krQ (fun _ _ _ h => h) hS hR0 (Yld.load1 hS rfl Tryz.underlying181 rfl rdQ) (by decide) ?_; clear hS; intro aa hS
    revert aa
    refine eA 4 rfl krQ (fun _ _ _ h => h) hR0 rfl (fun _ hS => Yld.move hS rfl) ?_
    refine eA 5 rfl krQ (fun _ _ _ h => h) hR0 rfl (fun _ hS => Yld.nilCheck hS rfl) ?_
    refine eA 6 rfl krQ (fun _ _ _ h => h) hR0 rfl (fun _ hS => Yld.fieldAddr hS rfl 0 Tryz.underlying180 rfl rfl info178 (by decide)) ?_
    refine eA 7 rfl krQ (fun _ _ _ h => h) hR0 rfl (fun _ hS => Yld.to (u := .pointer (some ⟨blkOf r1, x * 3 + 0, none⟩)) (Yld.indexArr hS rfl rfl Tryz.underlying178 info3 (by omega) (by omega)) (by have h1 : (Tryz.t3).size = 1 := rfl; rw [h1]; congr 3 <;> omega)) ?_
    refine eA 9 rfl krQ (fun _ _ _ h => h) hR0 rfl (fun _ hS => Yld.move hS rfl) ?_
    refine eA 10 rfl krQ (fun _ _ _ h => h) hR0 rfl (fun _ hS => Yld.nilCheck hS rfl) ?_
    refine eA 11 rfl krQ (fun _ _ _ h => h) hR0 rfl (fun _ hS => Yld.fieldAddr hS rfl 0 Tryz.underlying180 rfl rfl info178 (by decide)) ?_
    refine eA 12 rfl krQ (fun _ _ _ h => h) hR0 rfl (fun _ hS => Yld.to (u := .pointer (some ⟨blkOf r1, x * 3 + 1, none⟩)) (Yld.indexArr hS rfl rfl Tryz.underlying178 info3 (by omega) (by omega)) (by have h1 : (Tryz.t3).size = 1 := rfl; rw [h1]; congr 3 <;> omega)) ?_
    intro aa hS
    refine dTwo (i := 8) (j := 13) krQ ?_ ?_
    ·
     refine dop rfl (BA hS hR (Yld.load1 hS rfl Tryz.underlying3 rfl (Rd.rec (k := x) (j := 0) (v := .int .i64 ((P1 0 x : Nat) : Int)) (xs := nods (S + n) P1 R) pkQ (by intro _; rfl) (by rw [nods_len]; omega) (by rw [nods_get]; exact eL_get (r := (fun d => ((P1 d x : Nat) : Int), R x)) (by omega)))) (by decide) ?_); clear hS; intro aa hS; refine ⟨hR0, ?_⟩
     rw [q0] at hS
     revert aa
     refine eA 14 rfl krQ (fun _ _ _ h => h) hR0 rfl (fun _ hS => ihQ 3 (P 0 x) Tryz.underlying181 info180) ?_
     refine eA 15 rfl krQ (fun _ _ _ h => h) hR0 rfl (fun _ hS => Yld.fieldAddr hS rfl 0 Tryz.underlying180 rfl rfl info178 (by decide)) ?_
     intro aa hS
     refine dOne (i := 13) krQ ?_
     refine dop rfl (BA hS hR (Yld.load1 hS rfl Tryz.underlying3 rfl (Rd.rec (k := x) (j := 1) (v := .int .i64 ((P1 1 x : Nat) : Int)) (xs := nods (S + n) P1 R) pkQ (by intro _; rfl) (by rw [nods_len]; omega) (by rw [nods_get]; exact eL_get (r := (fun d => ((P1 d x : Nat) : Int), R x)) (by omega)))) (by decide) ?_); clear hS; intro aa hS; refine ⟨hR0, ?_⟩
     rw [q1] at hS
     revert aa
     refine eA 16 rfl krQ (fun _ _ _ h => h) hR0 rfl (fun _ hS => Yld.to (u := .pointer (some ⟨blkOf r1, (P 0 x) * 3 + 1, none⟩)) (Yld.indexArr hS rfl rfl Tryz.underlying178 info3 (by omega) (by omega)) (by have h1 : (Tryz.t3).size = 1 := rfl; rw [h1]; congr 3 <;> omega)) ?_
     intro aa hS
     refine dOne (i := 17) krQ ?_
     refine dop rfl (BstoreN hS hR rfl rfl info3 rfl pkQ (by omega) (by omega) ?_); clear hR hR0; intro ww hR
     refine dnext (hR.sub exQ) ?_; intro hR0
     obtain ⟨P2, hP2⟩ : ∃ y, updP P1 1 (P 0 x) (P 1 x) = y := ⟨_, rfl⟩
     rw [hP2] at hR
     have hPo : P2 = outP P x := by rw [← hP2, ← hP1]; rfl
     refine wpAnyH_done krQ ?_ _; clear hR0
     refine hK220 _ _ ?_
     refine wp_seq_k ?_; intro K221 hK221
     refine drawn krQ hR (Ex.of_pk (r := sls r4 _ _ _ _ _) pkQ) ?_; clear hR; intro ww hR hR0
     revert aa
     refine eA 0 rfl krQ (fun _ _ _ h => h) hR0 rfl (fun _ hS => Yld.move hS rfl) ?_
     refine eA 1 rfl krQ (fun _ _ _ h => h) hR0 rfl (fun _ hS => Yld.nilCheck hS rfl) ?_
     refine eA 2 rfl krQ (fun _ _ _ h => h) hR0 rfl (fun _ hS => Yld.fieldAddr hS rfl 4 Tryz.underlying183 rfl rfl info36 (by decide)) ?_
     intro aa hS
     refine dA 3 rfl krQ krQ krQ (fun _ _ _ h => h) hS hR0 (Yld.load1 hS rfl Tryz.underlying36 rfl rdQ) (by decide) ?_; clear hS; intro aa hS
     revert aa
     refine eA 4 rfl krQ (fun _ _ _ h => h) hR0 rfl (fun _ hS => Yld.move hS rfl) ?_
     refine eA 5 rfl krQ (fun _ _ _ h => h) hR0 rfl (fun _ hS => Yld.nilCheck hS rfl) ?_
     refine eA 6 rfl krQ (fun _ _ _ h => h) hR0 rfl (fun _ hS => Yld.fieldAddr hS rfl 2 Tryz.underlying180 rfl rfl info3 (by decide)) ?_
     refine eA 7 rfl krQ (fun _ _ _ h => h) hR0 rfl (fun _ hS => Yld.load1 hS rfl Tryz.underlying3 rfl (Rd.rec (k := x) (j := 2) (v := .int .i64 (R x)) (xs := nods (S + n) P2 R) pkQ (by intro _; rfl) (by rw [nods_len]; omega) (by rw [nods_get]; rfl))) ?_
     intro aa hS
     replace hS := hS.say (t := 72) (.int .i64 ((rg i : Nat) : Int)) rfl (by rw [hRx])
     revert aa
     refine eA 8 rfl krQ (fun _ _ _ h => h) hR0 rfl (fun _ hS => ihQ 1 (rg i) Tryz.underlying36 info3) ?_
     intro aa hS
     refine dOne (i := 9) krQ ?_
     refine dop rfl (BA hS hR (Yld.load1 hS rfl Tryz.underlying3 rfl (Rd.rec0 (k := (rg i)) (v := .int .i64 ((sz (rg i) : Nat) : Int)) (xs := tabN n sz) pkQ (by intro _; rfl) (by rw [tabN_len]; omega) (by rw [tabN_get]; rfl))) (by decide) ?_); clear hS; intro aa hS; refine ⟨hR0, ?_⟩
     refine dA 10 rfl krQ krQ krQ (fun _ _ _ h => h) hS hR0 suQ (by decide) ?_; clear hS; intro aa hS
     replace hS := hS.say (t := 75) (.int .i64 ((sz (rg i) - 1 : Nat) : Int)) rfl (by rw [show ((sz (rg i) - 1 : Nat) : Int) = ((sz (rg i) : Nat) : Int) - 1 from by omega])
     revert aa
     refine eA 11 rfl krQ (fun _ _ _ h => h) hR0 rfl (fun _ hS => ihQ 1 (rg i) Tryz.underlying36 info3) ?_
     intro aa hS
     refine dOne (i := 12) krQ ?_
     refine dop rfl (BstoreT hS hR rfl rfl info3 rfl pkQ (by omega) ?_); clear hR hR0; intro ww hR
     refine dnext (hR.sub exQ) ?_; intro hR0
     refine wpAnyH_done krQ ?_ _; clear hR0
     refine hK221 _ _ ?_
     refine wp_seq_k ?_; intro K222 hK222
     refine wp_region_lit ?_
     revert aa
     refine qM hR ?_
     refine qA hR rfl (fun _ hS => Yld.nilCheck hS rfl) ?_
     refine qA hR rfl (fun _ hS => Yld.fieldAddr hS rfl 2 Tryz.underlying180 rfl rfl info3 (by decide)) ?_
     intro aa hS
     refine sB (BstoreNR hS hR rfl rfl info3 rfl pkQ (by omega) ?_); clear hR; intro ww hR
     refine wpList_nil ?_
     refine hK222 _ _ ?_
     refine wp_seq_k ?_; intro K223 hK223
     refine wp_region_lit ?_
     revert aa
     refine qN hR ?_
     intro aa hS
     refine wpList_nil ?_
     refine hK223 _ _ ?_
     refine wp_ret ?_
     repeat first | with_reducible refine thenR ?_ | with_reducible refine blockR ?_ | with_reducible refine scopeR ?_
     refine ret1 (fn := Tryz.f103) (e := .ret) (.inl rfl) Tryz.results103 hS hR ⟨_, (.tmp rfl), ?_⟩
     refine ⟨by rw [outE, if_neg (by omega), Int.toNat_natCast, if_pos hn], ?_⟩
     rw [hPo] at hR
     exact Sep.linksAI (TL := 183) (TN := 180) (TI := 3) (b := b) (hW.out hi hx) (by rw [outS, if_neg (by omega), Int.toNat_natCast, hof]) (hR.sub exQ)
    ·
     refine dop rfl (BA hS hR (Yld.load1 hS rfl Tryz.underlying3 rfl (Rd.rec (k := x) (j := 1) (v := .int .i64 ((P1 1 x : Nat) : Int)) (xs := nods (S + n) P1 R) pkQ (by intro _; rfl) (by rw [nods_len]; omega) (by rw [nods_get]; exact eL_get (r := (fun d => ((P1 d x : Nat) : Int), R x)) (by omega)))) (by decide) ?_); clear hS; intro aa hS; refine ⟨hR0, ?_⟩
     rw [q1] at hS
     refine dOne (i := 8) krQ ?_
     refine dop rfl (BA hS hR (Yld.load1 hS rfl Tryz.underlying3 rfl (Rd.rec (k := x) (j := 0) (v := .int .i64 ((P1 0 x : Nat) : Int)) (xs := nods (S + n) P1 R) pkQ (by intro _; rfl) (by rw [nods_len]; omega) (by rw [nods_get]; exact eL_get (r := (fun d => ((P1 d x : Nat) : Int), R x)) (by omega)))) (by decide) ?_); clear hS; intro aa hS; refine ⟨hR0, ?_⟩
     rw [q0] at hS
     revert aa
     refine eA 14 rfl krQ (fun _ _ _ h => h) hR0 rfl (fun _ hS => ihQ 3 (P 0 x) Tryz.underlying181 info180) ?_
     refine eA 15 rfl krQ (fun _ _ _ h => h) hR0 rfl (fun _ hS => Yld.fieldAddr hS rfl 0 Tryz.underlying180 rfl rfl info178 (by decide)) ?_
     refine eA 16 rfl krQ (fun _ _ _ h => h) hR0 rfl (fun _ hS => Yld.to (u := .pointer (some ⟨blkOf r1, (P 0 x) * 3 + 1, none⟩)) (Yld.indexArr hS rfl rfl Tryz.underlying178 info3 (by omega) (by omega)) (by have h1 : (Tryz.t3).size = 1 := rfl; rw [h1]; congr 3 <;> omega)) ?_
     intro aa hS
     refine dOne (i := 17) krQ ?_
     refine dop rfl (BstoreN hS hR rfl rfl info3 rfl pkQ (by omega) (by omega) ?_); clear hR hR0; intro ww hR
     refine dnext (hR.sub exQ) ?_; intro hR0
     obtain ⟨P2, hP2⟩ : ∃ y, updP P1 1 (P 0 x) (P 1 x) = y := ⟨_, rfl⟩
     rw [hP2] at hR
     have hPo : P2 = outP P x := by rw [← hP2, ← hP1]; rfl
     refine wpAnyH_done krQ ?_ _; clear hR0
     refine hK220 _ _ ?_
     refine wp_seq_k ?_; intro K224 hK224
     refine drawn krQ hR (Ex.of_pk (r := sls r4 _ _ _ _ _) pkQ) ?_; clear hR; intro ww hR hR0
     revert aa
     refine eA 0 rfl krQ (fun _ _ _ h => h) hR0 rfl (fun _ hS => Yld.move hS rfl) ?_
     refine eA 1 rfl krQ (fun _ _ _ h => h) hR0 rfl (fun _ hS => Yld.nilCheck hS rfl) ?_
     refine eA 2 rfl krQ (fun _ _ _ h => h) hR0 rfl (fun _ hS => Yld.fieldAddr hS rfl 4 Tryz.underlying183 rfl rfl info36 (by decide)) ?_
     intro aa hS
     refine dA 3 rfl krQ krQ krQ (fun _ _ _ h => h) hS hR0 (Yld.load1 hS rfl Tryz.underlying36 rfl rdQ) (by decide) ?_; clear hS; intro aa hS
     revert aa
     refine eA 4 rfl krQ (fun _ _ _ h => h) hR0 rfl (fun _ hS => Yld.move hS rfl) ?_
     refine eA 5 rfl krQ (fun _ _ _ h => h) hR0 rfl (fun _ hS => Yld.nilCheck hS rfl) ?_
     refine eA 6 rfl krQ (fun _ _ _ h => h) hR0 rfl (fun _ hS => Yld.fieldAddr hS rfl 2 Tryz.underlying180 rfl rfl info3 (by decide)) ?_
     refine eA 7 rfl krQ (fun _ _ _ h => h) hR0 rfl (fun _ hS => Yld.load1 hS rfl Tryz.underlying3 rfl (Rd.rec (k := x) (j := 2) (v := .int .i64 (R x)) (xs := nods (S + n) P2 R) pkQ (by intro _; rfl) (by rw [nods_len]; omega) (by rw [nods_get]; rfl))) ?_
     intro aa hS
     replace hS := hS.say (t := 72) (.int .i64 ((rg i : Nat) : Int)) rfl (by rw [hRx])
     revert aa
     refine eA 8 rfl krQ (fun _ _ _ h => h) hR0 rfl (fun _ hS => ihQ 1 (rg i) Tryz.underlying36 info3) ?_
     intro aa hS
     refine dOne (i := 9) krQ ?_
     refine dop rfl (BA hS hR (Yld.load1 hS rfl Tryz.underlying3 rfl (Rd.rec0 (k := (rg i)) (v := .int .i64 ((sz (rg i) : Nat) : Int)) (xs := tabN n sz) pkQ (by intro _; rfl) (by rw [tabN_len]; omega) (by rw [tabN_get]; rfl))) (by decide) ?_); clear hS; intro aa hS; refine ⟨hR0, ?_⟩
     refine dA 10 rfl krQ krQ krQ (fun _ _ _ h => h) hS hR0 suQ (by decide) ?_; clear hS; intro aa hS
     replace hS := hS.say (t := 75) (.int .i64 ((sz (rg i) - 1 : Nat) : Int)) rfl (by rw [show ((sz (rg i) - 1 : Nat) : Int) = ((sz (rg i) : Nat) : Int) - 1 from by omega])
     revert aa
     refine eA 11 rfl krQ (fun _ _ _ h => h) hR0 rfl (fun _ hS => ihQ 1 (rg i) Tryz.underlying36 info3) ?_
     intro aa hS
     refine dOne (i := 12) krQ ?_
     refine dop rfl (BstoreT hS hR rfl rfl info3 rfl pkQ (by omega) ?_); clear hR hR0; intro ww hR
     refine dnext (hR.sub exQ) ?_; intro hR0
     refine wpAnyH_done krQ ?_ _; clear hR0
     refine hK224 _ _ ?_
     refine wp_seq_k ?_; intro K225 hK225
     refine wp_region_lit ?_
     revert aa
     refine qM hR ?_
     refine qA hR rfl (fun _ hS => Yld.nilCheck hS rfl) ?_
     refine qA hR rfl (fun _ hS => Yld.fieldAddr hS rfl 2 Tryz.underlying180 rfl rfl info3 (by decide)) ?_
     intro aa hS
     refine sB (BstoreNR hS hR rfl rfl info3 rfl pkQ (by omega) ?_); clear hR; intro ww hR
     refine wpList_nil ?_
     refine hK225 _ _ ?_
     refine wp_seq_k ?_; intro K226 hK226
     refine wp_region_lit ?_
     revert aa
     refine qN hR ?_
     intro aa hS
     refine wpList_nil ?_
     refine hK226 _ _ ?_
     refine wp_ret ?_
     repeat first | with_reducible refine thenR ?_ | with_reducible refine blockR ?_ | with_reducible refine scopeR ?_
     refine ret1 (fn := Tryz.f103) (e := .ret) (.inl rfl) Tryz.results103 hS hR ⟨_, (.tmp rfl), ?_⟩
     refine ⟨by rw [outE, if_neg (by omega), Int.toNat_natCast, if_pos hn], ?_⟩
     rw [hPo] at hR
     exact Sep.linksAI (TL := 183) (TN := 180) (TI := 3) (b := b) (hW.out hi hx) (by rw [outS, if_neg (by omega), Int.toNat_natCast, hof]) (hR.sub exQ)
   ·
    refine dop rfl (BA hS hR (Yld.load1 hS rfl Tryz.underlying3 rfl (Rd.rec (k := x) (j := 0) (v := .int .i64 ((P 0 x : Nat) : Int)) (xs := nods (S + n) P R) pkQ (by intro _; rfl) (by rw [nods_len]; omega) (by rw [nods_get]; exact eL_get (r := (fun d => ((P d x : Nat) : Int), R x)) (by omega)))) (by decide) ?_); clear hS; intro aa hS; refine ⟨hR0, ?_⟩
    refine dOne (i := 8) krQ ?_
    refine dop rfl (BA hS hR (Yld.load1 hS rfl Tryz.underlying3 rfl (Rd.rec (k := x) (j := 1) (v := .int .i64 ((P 1 x : Nat) : Int)) (xs := nods (S + n) P R) pkQ (by intro _; rfl) (by rw [nods_len]; omega) (by rw [nods_get]; exact eL_get (r := (fun d => ((P d x : Nat) : Int), R x)) (by omega)))) (by decide) ?_); clear hS; intro aa hS; refine ⟨hR0, ?_⟩
    revert aa
    refine eA 14 rfl krQ (fun _ _ _ h => h) hR0 rfl (fun _ hS => ihQ 3 (P 1 x) Tryz.underlying181 info180) ?_
    refine eA 15 rfl krQ (fun _ _ _ h => h) hR0 rfl (fun _ hS => Yld.fieldAddr hS rfl 0 Tryz.underlying180 rfl rfl info178 (by decide)) ?_
    refine eA 16 rfl krQ (fun _ _ _ h => h) hR0 rfl (fun _ hS => Yld.to (u := .pointer (some ⟨blkOf r1, (P 1 x) * 3 + 0, none⟩)) (Yld.indexArr hS rfl rfl Tryz.underlying178 info3 (by omega) (by omega)) (by have h1 : (Tryz.t3).size = 1 := rfl; rw [h1]; congr 3 <;> omega)) ?_
    intro aa hS
    refine dOne (i := 17) krQ ?_
    refine dop rfl (BstoreN hS hR rfl rfl info3 rfl pkQ (by omega) (by omega) ?_); clear hR hR0; intro ww hR
    refine dnext (hR.sub exQ) ?_; intro hR0
    obtain ⟨P1, hP1⟩ : ∃ y, updP P 0 (P 1 x) (P 0 x) = y := ⟨_, rfl⟩
    rw [hP1] at hR
    have q0 : P1 0 x = P 0 x := by rw [← hP1]; unfold updP; rw [if_neg fun h => hne.2 h.2.symm]
    have q1 : P1 1 x = P 1 x := by rw [← hP1]; unfold updP; rw [if_neg fun h => hne.2 h.2.symm]
    refine wpAnyH_done krQ ?_ _; clear hR0
    refine hK219 _ _ ?_
    refine wp_seq_k ?_; intro K227 hK227
    refine drawn krQ hR (Ex.of_pk (r := sls r1 _ _ _ _ _) pkQ) ?_; clear hR; intro ww hR hR0
    revert aa
    refine eA 0 rfl krQ (fun _ _ _ h => h) hR0 rfl (fun _ hS => Yld.move hS rfl) ?_
    refine eA 1 rfl krQ (fun _ _ _ h => h) hR0 rfl (fun _ hS => Yld.nilCheck hS rfl) ?_
    refine eA 2 rfl krQ (fun _ _ _ h => h) hR0 rfl (fun _ hS => Yld.fieldAddr hS rfl 0 Tryz.underlying183 rfl rfl info181 (by decide)) ?_
    intro aa hS
    refine dA 3 rfl krQ krQ krQ (fun _ _ _ h => h) hS hR0 (Yld.load1 hS rfl Tryz.underlying181 rfl rdQ) (by decide) ?_; clear hS; intro aa hS
    revert aa
    refine eA 4 rfl krQ (fun _ _ _ h => h) hR0 rfl (fun _ hS => Yld.move hS rfl) ?_
    refine eA 5 rfl krQ (fun _ _ _ h => h) hR0 rfl (fun _ hS => Yld.nilCheck hS rfl) ?_
    refine eA 6 rfl krQ (fun _ _ _ h => h) hR0 rfl (fun _ hS => Yld.fieldAddr hS rfl 0 Tryz.underlying180 rfl rfl info178 (by decide)) ?_
    refine eA 7 rfl krQ (fun _ _ _ h => h) hR0 rfl (fun _ hS => Yld.to (u := .pointer (some ⟨blkOf r1, x * 3 + 0, none⟩)) (Yld.indexArr hS rfl rfl Tryz.underlying178 info3 (by omega) (by omega)) (by have h1 : (Tryz.t3).size = 1 := rfl; rw [h1]; congr 3 <;> omega)) ?_
    refine eA 9 rfl krQ (fun _ _ _ h => h) hR0 rfl (fun _ hS => Yld.move hS rfl) ?_
    refine eA 10 rfl krQ (fun _ _ _ h => h) hR0 rfl (fun _ hS => Yld.nilCheck hS rfl) ?_
    refine eA 11 rfl krQ (fun _ _ _ h => h) hR0 rfl (fun _ hS => Yld.fieldAddr hS rfl 0 Tryz.underlying180 rfl rfl info178 (by decide)) ?_
    refine eA 12 rfl krQ (fun _ _ _ h => h) hR0 rfl (fun _ hS => Yld.to (u := .pointer (some ⟨blkOf r1, x * 3 + 1, none⟩)) (Yld.indexArr hS rfl rfl Tryz.underlying178 info3 (by omega) (by omega)) (by have h1 : (Tryz.t3).size = 1 := rfl; rw [h1]; congr 3 <;> omega)) ?_
    intro aa hS
    refine dTwo (i := 8) (j := 13) krQ ?_ ?_
    ·
     refine dop rfl (BA hS hR (Yld.load1 hS rfl Tryz.underlying3 rfl (Rd.rec (k := x) (j := 0) (v := .int .i64 ((P1 0 x : Nat) : Int)) (xs := nods (S + n) P1 R) pkQ (by intro _; rfl) (by rw [nods_len]; omega) (by rw [nods_get]; exact eL_get (r := (fun d => ((P1 d x : Nat) : Int), R x)) (by omega)))) (by decide) ?_); clear hS; intro aa hS; refine ⟨hR0, ?_⟩
     rw [q0] at hS
     revert aa
     refine eA 14 rfl krQ (fun _ _ _ h => h) hR0 rfl (fun _ hS => ihQ 3 (P 0 x) Tryz.underlying181 info180) ?_
     refine eA 15 rfl krQ (fun _ _ _ h => h) hR0 rfl (fun _ hS => Yld.fieldAddr hS rfl 0 Tryz.underlying180 rfl rfl info178 (by decide)) ?_
     intro aa hS
     refine dOne (i := 13) krQ ?_
     refine dop rfl (BA hS hR (Yld.load1 hS rfl Tryz.underlying3 rfl (Rd.rec (k := x) (j := 1) (v := .int .i64 ((P1 1 x : Nat) : Int)) (xs := nods (S + n) P1 R) pkQ (by intro _; rfl) (by rw [nods_len]; omega) (by rw [nods_get]; exact eL_get (r := (fun d => ((P1 d x : Nat) : Int), R x)) (by omega)))) (by decide) ?_); clear hS; intro aa hS; refine ⟨hR0, ?_⟩
     rw [q1] at hS
     revert aa
     refine eA 16 rfl krQ (fun _ _ _ h => h) hR0 rfl (fun _ hS => Yld.to (u := .pointer (some ⟨blkOf r1, (P 0 x) * 3 + 1, none⟩)) (Yld.indexArr hS rfl rfl Tryz.underlying178 info3 (by omega) (by omega)) (by have h1 : (Tryz.t3).size = 1 := rfl; rw [h1]; congr 3 <;> omega)) ?_
     intro aa hS
     refine dOne (i := 17) krQ ?_
     refine dop rfl (BstoreN hS hR rfl rfl info3 rfl pkQ (by omega) (by omega) ?_); clear hR hR0; intro ww hR
     refine dnext (hR.sub exQ) ?_; intro hR0
     obtain ⟨P2, hP2⟩ : ∃ y, updP P1 1 (P 0 x) (P 1 x) = y := ⟨_, rfl⟩
     rw [hP2] at hR
     have hPo : P2 = outP P x := by rw [← hP2, ← hP1]; rfl
     refine wpAnyH_done krQ ?_ _; clear hR0
     refine hK227 _ _ ?_
     refine wp_seq_k ?_; intro K228 hK228
     refine drawn krQ hR (Ex.of_pk (r := sls r4 _ _ _ _ _) pkQ) ?_; clear hR; intro ww hR hR0
     revert aa
     refine eA 0 rfl krQ (fun _ _ _ h => h) hR0 rfl (fun _ hS => Yld.move hS rfl) ?_
     refine eA 1 rfl krQ (fun _ _ _ h => h) hR0 rfl (fun _ hS => Yld.nilCheck hS rfl) ?_
     refine eA 2 rfl krQ (fun _ _ _ h => h) hR0 rfl (fun _ hS => Yld.fieldAddr hS rfl 4 Tryz.underlying183 rfl rfl info36 (by decide)) ?_
     intro aa hS
     refine dA 3 rfl krQ krQ krQ (fun _ _ _ h => h) hS hR0 (Yld.load1 hS rfl Tryz.underlying36 rfl rdQ) (by decide) ?_; clear hS; intro aa hS
     revert aa
     refine eA 4 rfl krQ (fun _ _ _ h => h) hR0 rfl (fun _ hS => Yld.move hS rfl) ?_
     refine eA 5 rfl krQ (fun _ _ _ h => h) hR0 rfl (fun _ hS => Yld.nilCheck hS rfl) ?_
     refine eA 6 rfl krQ (fun _ _ _ h => h) hR0 rfl (fun _ hS => Yld.fieldAddr hS rfl 2 Tryz.underlying180 rfl rfl info3 (by decide)) ?_
     refine eA 7 rfl krQ (fun _ _ _ h => h) hR0 rfl (fun _ hS => Yld.load1 hS rfl Tryz.underlying3 rfl (Rd.rec (k := x) (j := 2) (v := .int .i64 (R x)) (xs := nods (S + n) P2 R) pkQ (by intro _; rfl) (by rw [nods_len]; omega) (by rw [nods_get]; rfl))) ?_
     intro aa hS
     replace hS := hS.say (t := 72) (.int .i64 ((rg i : Nat) : Int)) rfl (by rw [hRx])
     revert aa
     refine eA 8 rfl krQ (fun _ _ _ h => h) hR0 rfl (fun _ hS => ihQ 1 (rg i) Tryz.underlying36 info3) ?_
     intro aa hS
     refine dOne (i := 9) krQ ?_
     refine dop rfl (BA hS hR (Yld.load1 hS rfl Tryz.underlying3 rfl (Rd.rec0 (k := (rg i)) (v := .int .i64 ((sz (rg i) : Nat) : Int)) (xs := tabN n sz) pkQ (by intro _; rfl) (by rw [tabN_len]; omega) (by rw [tabN_get]; rfl))) (by decide) ?_); clear hS; intro aa hS; refine ⟨hR0, ?_⟩
     refine dA 10 rfl krQ krQ krQ (fun _ _ _ h => h) hS hR0 suQ (by decide) ?_; clear hS; intro aa hS
     replace hS := hS.say (t := 75) (.int .i64 ((sz (rg i) - 1 : Nat) : Int)) rfl (by rw [show ((sz (rg i) - 1 : Nat) : Int) = ((sz (rg i) : Nat) : Int) - 1 from by omega])
     revert aa
     refine eA 11 rfl krQ (fun _ _ _ h => h) hR0 rfl (fun _ hS => ihQ 1 (rg i) Tryz.underlying36 info3) ?_
     intro aa hS
     refine dOne (i := 12) krQ ?_
     refine dop rfl (BstoreT hS hR rfl rfl info3 rfl pkQ (by omega) ?_); clear hR hR0; intro ww hR
     refine dnext (hR.sub exQ) ?_; intro hR0
     refine wpAnyH_done krQ ?_ _; clear hR0
     refine hK228 _ _ ?_
     refine wp_seq_k ?_; intro K229 hK229
     refine wp_region_lit ?_
     revert aa
     refine qM hR ?_
     refine qA hR rfl (fun _ hS => Yld.nilCheck hS rfl) ?_
     refine qA hR rfl (fun _ hS => Yld.fieldAddr hS rfl 2 Tryz.underlying180 rfl rfl info3 (by decide)) ?_
     intro aa hS
     refine sB (BstoreNR hS hR rfl rfl info3 rfl pkQ (by omega) ?_); clear hR; intro ww hR
     refine wpList_nil ?_
     refine hK229 _ _ ?_
     refine wp_seq_k ?_; intro K230 hK230
     refine wp_region_lit ?_
     revert aa
     refine qN hR ?_
     intro aa hS
     refine wpList_nil ?_
     refine hK230 _ _ ?_
     refine wp_ret ?_
     repeat first | with_reducible refine thenR ?_ | with_reducible refine blockR ?_ | with_reducible refine scopeR ?_
     refine ret1 (fn := Tryz.f103) (e := .ret) (.inl rfl) Tryz.results103 hS hR ⟨_, (.tmp rfl), ?_⟩
     refine ⟨by rw [outE, if_neg (by omega), Int.toNat_natCast, if_pos hn], ?_⟩
     rw [hPo] at hR
     exact Sep.linksAI (TL := 183) (TN := 180) (TI := 3) (b := b) (hW.out hi hx) (by rw [outS, if_neg (by omega), Int.toNat_natCast, hof]) (hR.sub exQ)
    ·
     refine dop rfl (BA hS hR (Yld.load1 hS rfl Tryz.underlying3 rfl (Rd.rec (k := x) (j := 1) (v := .int .i64 ((P1 1 x : Nat) : Int)) (xs := nods (S + n) P1 R) pkQ (by intro _; rfl) (by rw [nods_len]; omega) (by rw [nods_get]; exact eL_get (r := (fun d => ((P1 d x : Nat) : Int), R x)) (by omega)))) (by decide) ?_); clear hS; intro aa hS; refine ⟨hR0, ?_⟩
     rw [q1] at hS
     refine dOne (i := 8) krQ ?_
     refine dop rfl (BA hS hR (Yld.load1 hS rfl Tryz.underlying3 rfl (Rd.rec (k := x) (j := 0) (v := .int .i64 ((P1 0 x : Nat) : Int)) (xs := nods (S + n) P1 R) pkQ (by intro _; rfl) (by rw [nods_len]; omega) (by rw [nods_get]; exact eL_get (r := (fun d => ((P1 d x : Nat) : Int), R x)) (by omega)))) (by decide) ?_); clear hS; intro aa hS; refine ⟨hR0, ?_⟩
     rw [q0] at hS
     revert aa
     refine eA 14 rfl krQ (fun _ _ _ h => h) hR0 rfl (fun _ hS => ihQ 3 (P 0 x) Tryz.underlying181 info180) ?_
     refine eA 15 rfl krQ (fun _ _ _ h => h) hR0 rfl (fun _ hS => Yld.fieldAddr hS rfl 0 Tryz.underlying180 rfl rfl info178 (by decide)) ?_
     refine eA 16 rfl krQ (fun _ _ _ h => h) hR0 rfl (fun _ hS => Yld.to (u := .pointer (some ⟨blkOf r1, (P 0 x) * 3 + 1, none⟩)) (Yld.indexArr hS rfl rfl Tryz.underlying178 info3 (by omega) (by omega)) (by have h1 : (Tryz.t3).size = 1 := rfl; rw [h1]; congr 3 <;> omega)) ?_
     intro aa hS
     refine dOne (i := 17) krQ ?_
     refine dop rfl (BstoreN hS hR rfl rfl info3 rfl pkQ (by omega) (by omega) ?_); clear hR hR0; intro ww hR
     refine dnext (hR.sub exQ) ?_; intro hR0
     obtain ⟨P2, hP2⟩ : ∃ y, updP P1 1 (P 0 x) (P 1 x) = y := ⟨_, rfl⟩
     rw [hP2] at hR
     have hPo : P2 = outP P x := by rw [← hP2, ← hP1]; rfl
     refine wpAnyH_done krQ ?_ _; clear hR0
     refine hK227 _ _ ?_
     refine wp_seq_k ?_; intro K231 hK231
     refine drawn krQ hR (Ex.of_pk (r := sls r4 _ _ _ _ _) pkQ) ?_; clear hR; intro ww hR hR0
     revert aa
     refine eA 0 rfl krQ (fun _ _ _ h => h) hR0 rfl (fun _ hS => Yld.move hS rfl) ?_
     refine eA 1 rfl krQ (fun _ _ _ h => h) hR0 rfl (fun _ hS => Yld.nilCheck hS rfl) ?_
     refine eA 2 rfl krQ (fun _ _ _ h => h) hR0 rfl (fun _ hS => Yld.fieldAddr hS rfl 4 Tryz.underlying183 rfl rfl info36 (by decide)) ?_
     intro aa hS
     refine dA 3 rfl krQ krQ krQ (fun _ _ _ h => h) hS hR0 (Yld.load1 hS rfl Tryz.underlying36 rfl rdQ) (by decide) ?_; clear hS; intro aa hS
     revert aa
     refine eA 4 rfl krQ (fun _ _ _ h => h) hR0 rfl (fun _ hS => Yld.move hS rfl) ?_
     refine eA 5 rfl krQ (fun _ _ _ h => h) hR0 rfl (fun _ hS => Yld.nilCheck hS rfl) ?_
     refine eA 6 rfl krQ (fun _ _ _ h => h) hR0 rfl (fun _ hS => Yld.fieldAddr hS rfl 2 Tryz.underlying180 rfl rfl info3 (by decide)) ?_
     refine eA 7 rfl krQ (fun _ _ _ h => h) hR0 rfl (fun _ hS => Yld.load1 hS rfl Tryz.underlying3 rfl (Rd.rec (k := x) (j := 2) (v := .int .i64 (R x)) (xs := nods (S + n) P2 R) pkQ (by intro _; rfl) (by rw [nods_len]; omega) (by rw [nods_get]; rfl))) ?_
     intro aa hS
     replace hS := hS.say (t := 72) (.int .i64 ((rg i : Nat) : Int)) rfl (by rw [hRx])
     revert aa
     refine eA 8 rfl krQ (fun _ _ _ h => h) hR0 rfl (fun _ hS => ihQ 1 (rg i) Tryz.underlying36 info3) ?_
     intro aa hS
     refine dOne (i := 9) krQ ?_
     refine dop rfl (BA hS hR (Yld.load1 hS rfl Tryz.underlying3 rfl (Rd.rec0 (k := (rg i)) (v := .int .i64 ((sz (rg i) : Nat) : Int)) (xs := tabN n sz) pkQ (by intro _; rfl) (by rw [tabN_len]; omega) (by rw [tabN_get]; rfl))) (by decide) ?_); clear hS; intro aa hS; refine ⟨hR0, ?_⟩
     refine dA 10 rfl krQ krQ krQ (fun _ _ _ h => h) hS hR0 suQ (by decide) ?_; clear hS; intro aa hS
     replace hS := hS.say (t := 75) (.int .i64 ((sz (rg i) - 1 : Nat) : Int)) rfl (by rw [show ((sz (rg i) - 1 : Nat) : Int) = ((sz (rg i) : Nat) : Int) - 1 from by omega])
     revert aa
     refine eA 11 rfl krQ (fun _ _ _ h => h) hR0 rfl (fun _ hS => ihQ 1 (rg i) Tryz.underlying36 info3) ?_
     intro aa hS
     refine dOne (i := 12) krQ ?_
     refine dop rfl (BstoreT hS hR rfl rfl info3 rfl pkQ (by omega) ?_); clear hR hR0; intro ww hR
     refine dnext (hR.sub exQ) ?_; intro hR0
     refine wpAnyH_done krQ ?_ _; clear hR0
     refine hK231 _ _ ?_
     refine wp_seq_k ?_; intro K232 hK232
     refine wp_region_lit ?_
     revert aa
     refine qM hR ?_
     refine qA hR rfl (fun _ hS => Yld.nilCheck hS rfl) ?_
     refine qA hR rfl (fun _ hS => Yld.fieldAddr hS rfl 2 Tryz.underlying180 rfl rfl info3 (by decide)) ?_
     intro aa hS
     refine sB (BstoreNR hS hR rfl rfl info3 rfl pkQ (by omega) ?_); clear hR; intro ww hR
     refine wpList_nil ?_
     refine hK232 _ _ ?_
     refine wp_seq_k ?_; intro K233 hK233
     refine wp_region_lit ?_
     revert aa
     refine qN hR ?_
     intro aa hS
     refine wpList_nil ?_
     refine hK233 _ _ ?_
     refine wp_ret ?_
     repeat first | with_reducible refine thenR ?_ | with_reducible refine blockR ?_ | with_reducible refine scopeR ?_
     refine ret1 (fn := Tryz.f103) (e := .ret) (.inl rfl) Tryz.results103 hS hR ⟨_, (.tmp rfl), ?_⟩
     refine ⟨by rw [outE, if_neg (by omega), Int.toNat_natCast, if_pos hn], ?_⟩
     rw [hPo] at hR
     exact Sep.linksAI (TL := 183) (TN := 180) (TI := 3) (b := b) (hW.out hi hx) (by rw [outS, if_neg (by omega), Int.toNat_natCast, hof]) (hR.sub exQ)
  ·
   revert aa
   refine qM hR ?_
   refine qA hR rfl (fun _ hS => Yld.nilCheck hS rfl) ?_
   refine qA hR rfl (fun _ hS => Yld.fieldAddr hS rfl 0 Tryz.underlying183 rfl rfl info181 (by decide)) ?_
   intro aa hS
   refine sA hS hR (Yld.load1 hS rfl Tryz.underlying181 rfl rdQ) (by decide) ?_; clear hS; intro aa hS
   revert aa
   refine qM hR ?_
   refine qA hR rfl (fun _ hS => ihQ 3 (x) Tryz.underlying181 info180) ?_
   refine qA hR rfl (fun _ hS => Yld.fieldAddr hS rfl 2 Tryz.underlying180 rfl rfl info3 (by decide)) ?_
   refine qA hR rfl (fun _ hS => Yld.load1 hS rfl Tryz.underlying3 rfl (Rd.rec (k := x) (j := 2) (v := .int .i64 (R x)) (xs := nods (S + n) P R) pkQ (by intro _; rfl) (by rw [nods_len]; omega) (by rw [nods_get]; rfl))) ?_
   refine qA hR rfl (fun _ hS => Yld.lss hS rfl rfl) ?_
   refine qB (t := 24) true rfl (by exact decide_eq_true (by have h := (hW.noR hxS hn).1; omega)) ?_
   refine qN hR ?_
   intro aa hS
   refine wpList_nil ?_
   refine hK217 _ _ ?_
   refine condT hS rfl ?_
   refine wp_seq_k ?_; intro K234 hK234
   refine wp_region_lit ?_
   revert aa
   refine qN hR ?_
   intro aa hS
   refine wpList_nil ?_
   refine hK234 _ _ ?_
   refine wp_ret ?_
   repeat first | with_reducible refine thenR ?_ | with_reducible refine blockR ?_ | with_reducible refine scopeR ?_
   refine ret1 (fn := Tryz.f103) (e := .ret) (.inl rfl) Tryz.results103 hS hR ⟨_, (.tmp rfl), ?_⟩
   refine ⟨by rw [outE, if_neg (by omega), Int.toNat_natCast, if_neg hn], ?_⟩
   exact Sep.linksAI (TL := 183) (TN := 180) (TI := 3) (b := b) hW (by rw [outS, if_neg (by omega), Int.toNat_natCast, (hW.noR hxS hn).2.1]) (hR.sub exQ)
end Go.Proofs.YtkhdejjompbklaaGreat.Sx
