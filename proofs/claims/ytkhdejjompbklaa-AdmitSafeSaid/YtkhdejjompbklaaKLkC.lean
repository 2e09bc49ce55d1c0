/-
 
-/
import Derived.Test.YtkhdejjompbklaaKLkB
namespace Go.Proofs.Ytkhdejjompbklaa.Sx
open Go
set_option maxRecDepth 20000
set_option linter.unusedVariables false
set_option linter.unusedSimpArgs false
theorem Ladd_ok {S n b : Nat} {L : Nat → List Nat} {l : List HP} {w : World} {x y : Int} {w9 : Nat} (hR : Sep (linksA 142 160 3 b S n L :: l) w) (hw : w9 < 2) : CallR Try.prog 94 [.pointer (some ⟨b, 0, none⟩), .int .i64 x, .int .i64 y, .int .i64 (w9 : Int)] w (fun v w' => v = .int .i64 (addE S n L x y) ∧ Sep (linksA 142 160 3 b S n (addS S n L w9 x y) :: l) w') := by
 refine enter Try.func94 rfl Try.ntmps94 (Nat.le_of_ble_eq_true rfl) ?_; intro aa hS
 obtain ⟨P, R, rg, nm, sz, r1, c1, r2, c2, r3, c3, r4, c4, hW, hR⟩ := hR.linksAE
 have hs1 := hW.s1
 have hs2 := hW.s2
 have hn1 := hW.n1
 have hn2 := hW.n2
 obtain ⟨hb1, hb2, hb3, hb4⟩ := hR.linksBk hn1
 refine wp_seq_k ?_; intro K144 hK144
 refine wp_region_lit ?_
 revert aa
 refine qN hR ?_
 intro aa hS
 refine wpList_nil ?_
 refine hK144 _ _ ?_
 refine wp_seq_k ?_; intro K145 hK145
 refine wp_block ?_
 refine wp_seq_k ?_; intro K146 hK146
 refine wp_region_lit ?_
 revert aa
 refine qM hR ?_
 intro aa hS
 refine sB (Bcall hS rfl Try.call92 (lsome_ok (hR.pk (r := blk b _ _) pkQ) (by omega)) (by decide) ?_); clear hS; intro aa ww vv hS hp
 clear hR
 obtain ⟨rfl, hR⟩ := hp
 revert aa
 refine qA hR rfl (fun _ hS => Yld.not hS rfl) ?_
 refine qN hR ?_
 intro aa hS
 refine wpList_nil ?_
 refine hK146 _ _ ?_
 refine condF hS rfl ?_
 refine wp_seq_k ?_; intro K147 hK147
 refine wp_region_lit ?_
 revert aa
 refine qM hR ?_
 refine qM hR ?_
 intro aa hS
 refine sB (Bcall hS rfl Try.call82 (llist_ok (hR.pk (r := blk b _ _) pkQ) (by omega)) (by decide) ?_); clear hS; intro aa ww vv hS hp
 clear hR
 obtain ⟨rfl, hR⟩ := hp
 revert aa
 refine qA hR rfl (fun _ hS => Yld.not hS rfl) ?_
 refine qM hR ?_
 intro aa hS
 refine hS.splitB (t := 19) rfl ?_ ?_ <;> clear hS
 ·
  intro hg hS
  revert aa
  refine qZ ?_
  refine qZ ?_
  refine qZ ?_
  refine qZ ?_
  refine qA hR rfl (fun _ hS => Yld.pickT hS rfl rfl) ?_
  refine qN hR ?_
  intro aa hS
  refine wpList_nil ?_
  refine hK147 _ _ ?_
  refine condT hS rfl ?_
  refine wp_seq_k ?_; intro K148 hK148
  refine wp_region_lit ?_
  revert aa
  refine qN hR ?_
  intro aa hS
  refine wpList_nil ?_
  refine hK148 _ _ ?_
  refine wp_ret ?_
  repeat first | with_reducible refine thenR ?_ | with_reducible refine blockR ?_ | with_reducible refine scopeR ?_
  refine ret1 (fn := Try.f94) (e := .ret) (.inl rfl) Try.results94 hS hR ⟨_, (.tmp rfl), ?_⟩
  have he : addE S n L x y = 2 := by rw [addE, if_pos (by omega)]
  refine ⟨by rw [he], ?_⟩
  exact Sep.linksAI (TL := 142) (TN := 160) (TI := 3) (b := b) hW (by rw [addS, he]; rfl) (hR.sub exQ)
 ·
  intro hg hS
  revert aa
  refine qMg hR ?_
  refine qMg hR ?_
  intro aa hS
  refine sBg hS rfl rfl (Bcall hS rfl Try.call93 (lslot_ok (hR.pk (r := blk b _ _) pkQ) (by omega)) (by decide) ?_); clear hS; intro aa ww vv hS hp
  clear hR
  obtain ⟨rfl, hR⟩ := hp
  revert aa
  refine qAg hR rfl rfl rfl (fun _ hS => Yld.not hS rfl) ?_
  refine qA hR rfl (fun _ hS => Yld.pickF hS rfl rfl) ?_
  refine qN hR ?_
  intro aa hS
  refine wpList_nil ?_
  refine hK147 _ _ ?_
  refine hS.splitB (t := 14) rfl ?_ ?_ <;> clear hS
  ·
   intro hg hS
   refine condT hS rfl ?_
   refine wp_seq_k ?_; intro K149 hK149
   refine wp_region_lit ?_
   revert aa
   refine qN hR ?_
   intro aa hS
   refine wpList_nil ?_
   refine hK149 _ _ ?_
   refine wp_ret ?_
   repeat first | with_reducible refine thenR ?_ | with_reducible refine blockR ?_ | with_reducible refine scopeR ?_
   refine ret1 (fn := Try.f94) (e := .ret) (.inl rfl) Try.results94 hS hR ⟨_, (.tmp rfl), ?_⟩
   have he : addE S n L x y = 2 := by rw [addE, if_pos (by omega)]
   refine ⟨by rw [he], ?_⟩
   exact Sep.linksAI (TL := 142) (TN := 160) (TI := 3) (b := b) hW (by rw [addS, he]; rfl) (hR.sub exQ)
  ·
   intro hg hS
   obtain ⟨x, rfl⟩ : ∃ z9 : Nat, x = z9 := ⟨(x).toNat, by omega⟩
   obtain ⟨y, rfl⟩ : ∃ z9 : Nat, y = z9 := ⟨(y).toNat, by omega⟩
   have hxn : x < n := by omega
   have hri := hW.hrg x hxn
   have hlen := hW.len hxn
   have hsz := hW.hsz x hxn
   have hin : 0 ≤ (x : Int) ∧ (x : Int) < n ∧ 0 ≤ (y : Int) ∧ (y : Int) < S := by omega
   have hyS : y < S := by omega
   refine condF hS rfl ?_
   refine wp_seq_k ?_; intro K150 hK150
   refine wp_region_lit ?_
   by_cases hn : (ofL n L y).isSome = true
   ·
    revert aa
    refine qM hR ?_
    refine qA hR rfl (fun _ hS => Yld.nilCheck hS rfl) ?_
    refine qA hR rfl (fun _ hS => Yld.fieldAddr hS rfl 0 Try.underlying142 rfl rfl info140 (by decide)) ?_
    refine qA hR rfl (fun _ hS => Yld.load1 hS rfl Try.underlying140 rfl rdQ) ?_
    refine qM hR ?_
    refine qA hR rfl (fun _ hS => ihQ 3 (y) Try.underlying140 info160) ?_
    refine qA hR rfl (fun _ hS => Yld.fieldAddr hS rfl 2 Try.underlying160 rfl rfl info3 (by decide)) ?_
    refine qA hR rfl (fun _ hS => Yld.load1 hS rfl Try.underlying3 rfl (Rd.rec (k := y) (j := 2) (v := .int .i64 (R y)) (xs := nods (S + n) P R) pkQ (by intro _; rfl) (by rw [nods_len]; omega) (by rw [nods_get]; rfl))) ?_
    refine qA hR rfl (fun _ hS => Yld.geq hS rfl rfl) ?_
    refine qB (t := 34) true rfl (by exact decide_eq_true (by obtain ⟨i, _, _, h, _⟩ := hW.hasR hyS hn; omega)) ?_
    refine qN hR ?_
    intro aa hS
    refine wpList_nil ?_
    refine hK150 _ _ ?_
    refine condT hS rfl ?_
    refine wp_seq_k ?_; intro K151 hK151
    refine wp_region_lit ?_
    revert aa
    refine qN hR ?_
    intro aa hS
    refine wpList_nil ?_
    refine hK151 _ _ ?_
    refine wp_ret ?_
    repeat first | with_reducible refine thenR ?_ | with_reducible refine blockR ?_ | with_reducible refine scopeR ?_
    refine ret1 (fn := Try.f94) (e := .ret) (.inl rfl) Try.results94 hS hR ⟨_, (.tmp rfl), ?_⟩
    have he : addE S n L x y = 140 := by rw [addE, if_neg (by omega), Int.toNat_natCast, if_pos hn]
    refine ⟨by rw [he], ?_⟩
    exact Sep.linksAI (TL := 142) (TN := 160) (TI := 3) (b := b) hW (by rw [addS, he]; rfl) (hR.sub exQ)
   ·
    revert aa
    refine qM hR ?_
    refine qA hR rfl (fun _ hS => Yld.nilCheck hS rfl) ?_
    refine qA hR rfl (fun _ hS => Yld.fieldAddr hS rfl 0 Try.underlying142 rfl rfl info140 (by decide)) ?_
    refine qA hR rfl (fun _ hS => Yld.load1 hS rfl Try.underlying140 rfl rdQ) ?_
    refine qM hR ?_
    refine qA hR rfl (fun _ hS => ihQ 3 (y) Try.underlying140 info160) ?_
    refine qA hR rfl (fun _ hS => Yld.fieldAddr hS rfl 2 Try.underlying160 rfl rfl info3 (by decide)) ?_
    refine qA hR rfl (fun _ hS => Yld.load1 hS rfl Try.underlying3 rfl (Rd.rec (k := y) (j := 2) (v := .int .i64 (R y)) (xs := nods (S + n) P R) pkQ (by intro _; rfl) (by rw [nods_len]; omega) (by rw [nods_get]; rfl))) ?_
    refine qA hR rfl (fun _ hS => Yld.geq hS rfl rfl) ?_
    refine qB (t := 34) false rfl (by exact decide_eq_false (by have h := (hW.noR hyS hn).1; omega)) ?_
    refine qN hR ?_
    intro aa hS
    refine wpList_nil ?_
    refine hK150 _ _ ?_
    refine condF hS rfl ?_
    refine wp_skip ?_
    refine hK145 _ _ ?_
    refine wp_seq_k ?_; intro K152 hK152
    refine wp_region_lit ?_
    have hno := hW.noR hyS hn
    revert aa
    refine qM hR ?_
    refine qA hR rfl (fun _ hS => Yld.nilCheck hS rfl) ?_
    refine qA hR rfl (fun _ hS => Yld.fieldAddr hS rfl 2 Try.underlying142 rfl rfl info41 (by decide)) ?_
    refine qA hR rfl (fun _ hS => Yld.load1 hS rfl Try.underlying41 rfl rdQ) ?_
    intro aa hS
    have hno := hW.noR hyS hn
    revert aa
    refine qM hR ?_
    refine qA hR rfl (fun _ hS => ihQ 1 (x) Try.underlying41 info3) ?_
    refine qA hR rfl (fun _ hS => Yld.load1 hS rfl Try.underlying3 rfl (Rd.rec0 (k := x) (v := .int .i64 ((rg x : Nat) : Int)) (xs := tabN n rg) pkQ (by intro _; rfl) (by rw [tabN_len]; omega) (by rw [tabN_get]; rfl))) ?_
    refine qN hR ?_
    intro aa hS
    refine wpList_nil ?_
    refine hK152 _ _ ?_
    refine wp_seq_k ?_; intro K153 hK153
    refine wp_region_lit ?_
    revert aa
    refine qM hR ?_
    refine qM hR ?_
    refine qA hR rfl (fun _ hS => Yld.nilCheck hS rfl) ?_
    refine qA hR rfl (fun _ hS => Yld.fieldAddr hS rfl 1 Try.underlying142 rfl rfl info3 (by decide)) ?_
    refine qA hR rfl (fun _ hS => Yld.load1 hS rfl Try.underlying3 rfl rdQ) ?_
    refine qM hR ?_
    intro aa hS
    refine sA hS hR adQ (by decide) ?_; clear hS; intro aa hS
    replace hS := hS.say (t := 48) (.int .i64 ((S + rg x : Nat) : Int)) rfl (by rw [Int.natCast_add])
    revert aa
    refine qM hR ?_
    refine qM hR ?_
    intro aa hS
    refine sB (Bcall hS rfl Try.call101 (lput_ok ((hR.pk (r := sls r1 _ _ _ _ _) pkQ).pk (r := blk b _ _) pkQ) hb1 (by omega) (by omega) (hW.bnd hw hxn List.mem_cons_self) hw) (by decide) ?_); clear hS; intro aa ww vv hS hp
    clear hR
    obtain ⟨rfl, hR⟩ := hp
    refine wpList_nil ?_
    refine hK153 _ _ ?_
    refine wp_seq_k ?_; intro K154 hK154
    refine wp_region_lit ?_
    revert aa
    refine qM hR ?_
    refine qA hR rfl (fun _ hS => Yld.nilCheck hS rfl) ?_
    refine qA hR rfl (fun _ hS => Yld.fieldAddr hS rfl 0 Try.underlying142 rfl rfl info140 (by decide)) ?_
    refine qA hR rfl (fun _ hS => Yld.load1 hS rfl Try.underlying140 rfl rdQ) ?_
    refine qM hR ?_
    refine qM hR ?_
    refine qA hR rfl (fun _ hS => ihQ 3 (y) Try.underlying140 info160) ?_
    refine qA hR rfl (fun _ hS => Yld.fieldAddr hS rfl 2 Try.underlying160 rfl rfl info3 (by decide)) ?_
    intro aa hS
    refine sB (BstoreNR hS hR rfl rfl info3 rfl pkQ (by omega) ?_); clear hR; intro ww hR
    refine wpList_nil ?_
    refine hK154 _ _ ?_
    refine wp_seq_k ?_; intro K155 hK155
    refine wp_region_lit ?_
    revert aa
    refine qM hR ?_
    refine qA hR rfl (fun _ hS => Yld.nilCheck hS rfl) ?_
    refine qA hR rfl (fun _ hS => Yld.fieldAddr hS rfl 4 Try.underlying142 rfl rfl info41 (by decide)) ?_
    intro aa hS
    refine sA hS hR (Yld.load1 hS rfl Try.underlying41 rfl rdQ) (by decide) ?_; clear hS; intro aa hS
    revert aa
    refine qM hR ?_
    refine qA hR rfl (fun _ hS => ihQ 1 (rg x) Try.underlying41 info3) ?_
    refine qA hR rfl (fun _ hS => Yld.load1 hS rfl Try.underlying3 rfl (Rd.rec0 (k := (rg x)) (v := .int .i64 ((sz (rg x) : Nat) : Int)) (xs := tabN n sz) pkQ (by intro _; rfl) (by rw [tabN_len]; omega) (by rw [tabN_get]; rfl))) ?_
    intro aa hS
    refine sA hS hR adQ (by decide) ?_; clear hS; intro aa hS
    replace hS := hS.say (t := 67) (.int .i64 ((sz (rg x) + 1 : Nat) : Int)) rfl (by rw [Int.natCast_add]; rfl)
    refine sA hS hR ((ihQ 1 (rg x) Try.underlying41 info3)) (by decide) ?_; clear hS; intro aa hS
    refine sB (BstoreT hS hR rfl rfl info3 rfl pkQ (by omega) ?_); clear hR; intro ww hR
    refine wpList_nil ?_
    refine hK155 _ _ ?_
    refine wp_seq_k ?_; intro K156 hK156
    refine wp_region_lit ?_
    revert aa
    refine qN hR ?_
    intro aa hS
    refine wpList_nil ?_
    refine hK156 _ _ ?_
    refine wp_ret ?_
    repeat first | with_reducible refine thenR ?_ | with_reducible refine blockR ?_ | with_reducible refine scopeR ?_
    refine ret1 (fn := Try.f94) (e := .ret) (.inl rfl) Try.results94 hS hR ⟨_, (.tmp rfl), ?_⟩
    have he : addE S n L x y = 0 := by rw [addE, if_neg (by omega), Int.toNat_natCast, if_neg hn]
    refine ⟨by rw [he], ?_⟩
    exact Sep.linksAI (TL := 142) (TN := 160) (TI := 3) (b := b) (hW.add hw hxn hyS hno.2.2) (by rw [addS, he, if_pos rfl]; rfl) (hR.sub exQ)
theorem LBack_ok {S n b : Nat} {L : Nat → List Nat} {l : List HP} {w : World} {x y : Int} (hR : Sep (linksA 142 160 3 b S n L :: l) w) : CallR Try.prog 79 [.pointer (some ⟨b, 0, none⟩), .int .i64 x, .int .i64 y] w (fun v w' => v = .int .i64 (addE S n L x y) ∧ Sep (linksA 142 160 3 b S n (addS S n L 1 x y) :: l) w') := by
 refine enter Try.func79 rfl Try.ntmps79 (Nat.le_of_ble_eq_true rfl) ?_; intro aa hS
 refine wp_seq_k ?_; intro K157 hK157
 refine wp_region_lit ?_
 revert aa
 refine qN hR ?_
 intro aa hS
 refine wpList_nil ?_
 refine hK157 _ _ ?_
 refine wp_seq_k ?_; intro K158 hK158
 refine wp_region_lit ?_
 revert aa
 refine qM hR ?_
 refine qM hR ?_
 refine qM hR ?_
 intro aa hS
 refine sB (Bcall hS rfl Try.call94 (Ladd_ok (w9 := 1) (hR.pk (r := linksA _ _ _ _ _ _ _) pkQ) (by omega)) (by decide) ?_); clear hS; intro aa ww vv hS hp
 clear hR
 obtain ⟨rfl, hR⟩ := hp
 revert aa
 refine qN hR ?_
 intro aa hS
 refine wpList_nil ?_
 refine hK158 _ _ ?_
 refine wp_ret ?_
 repeat first | with_reducible refine thenR ?_ | with_reducible refine blockR ?_ | with_reducible refine scopeR ?_
 refine ret1 (fn := Try.f79) (e := .ret) (.inl rfl) Try.results79 hS hR ⟨_, (.tmp rfl), ?_⟩
 exact ⟨rfl, (hR.sub exQ)⟩
theorem LOut_ok {S n b : Nat} {L : Nat → List Nat} {l : List HP} {w : World} {x : Int} (hR : Sep (linksA 142 160 3 b S n L :: l) w) : CallR Try.prog 77 [.pointer (some ⟨b, 0, none⟩), .int .i64 x] w (fun v w' => v = .int .i64 (outE S n L x) ∧ Sep (linksA 142 160 3 b S n (outS S n L x) :: l) w') := by
 refine enter Try.func77 rfl Try.ntmps77 (Nat.le_of_ble_eq_true rfl) ?_; intro aa hS
 obtain ⟨P, R, rg, nm, sz, r1, c1, r2, c2, r3, c3, r4, c4, hW, hR⟩ := hR.linksAE
 have hs1 := hW.s1
 have hs2 := hW.s2
 have hn1 := hW.n1
 have hn2 := hW.n2
 obtain ⟨hb1, hb2, hb3, hb4⟩ := hR.linksBk hn1
 refine wp_seq_k ?_; intro K159 hK159
 refine wp_region_lit ?_
 revert aa
 refine qN hR ?_
 intro aa hS
 refine wpList_nil ?_
 refine hK159 _ _ ?_
 refine wp_seq_k ?_; intro K160 hK160
 refine wp_block ?_
 refine wp_seq_k ?_; intro K161 hK161
 refine wp_region_lit ?_
 revert aa
 refine qM hR ?_
 intro aa hS
 refine sB (Bcall hS rfl Try.call92 (lsome_ok (hR.pk (r := blk b _ _) pkQ) (by omega)) (by decide) ?_); clear hS; intro aa ww vv hS hp
 clear hR
 obtain ⟨rfl, hR⟩ := hp
 revert aa
 refine qA hR rfl (fun _ hS => Yld.not hS rfl) ?_
 refine qN hR ?_
 intro aa hS
 refine wpList_nil ?_
 refine hK161 _ _ ?_
 refine condF hS rfl ?_
 refine wp_seq_k ?_; intro K162 hK162
 refine wp_region_lit ?_
 revert aa
 refine qM hR ?_
 refine qM hR ?_
 intro aa hS
 refine sB (Bcall hS rfl Try.call93 (lslot_ok (hR.pk (r := blk b _ _) pkQ) (by omega)) (by decide) ?_); clear hS; intro aa ww vv hS hp
 clear hR
 obtain ⟨rfl, hR⟩ := hp
 revert aa
 refine qA hR rfl (fun _ hS => Yld.not hS rfl) ?_
 refine qN hR ?_
 intro aa hS
 refine wpList_nil ?_
 refine hK162 _ _ ?_
 refine hS.splitB (t := 10) rfl ?_ ?_ <;> clear hS
 ·
  intro hg hS
  refine condT hS rfl ?_
  refine wp_seq_k ?_; intro K163 hK163
  refine wp_region_lit ?_
  revert aa
  refine qN hR ?_
  intro aa hS
  refine wpList_nil ?_
  refine hK163 _ _ ?_
  refine wp_ret ?_
  repeat first | with_reducible refine thenR ?_ | with_reducible refine blockR ?_ | with_reducible refine scopeR ?_
  refine ret1 (fn := Try.f77) (e := .ret) (.inl rfl) Try.results77 hS hR ⟨_, (.tmp rfl), ?_⟩
  refine ⟨by rw [outE, if_pos (by omega)], ?_⟩
  exact Sep.linksAI (TL := 142) (TN := 160) (TI := 3) (b := b) hW (by rw [outS, if_pos (by omega)]) (hR.sub exQ)
 ·
  intro hg hS
  obtain ⟨x, rfl⟩ : ∃ z9 : Nat, x = z9 := ⟨(x).toNat, by omega⟩
  have hxS : x < S := by omega
  refine condF hS rfl ?_
  refine wp_seq_k ?_; intro K164 hK164
  refine wp_region_lit ?_
  by_cases hn : (ofL n L x).isSome = true
  ·
   revert aa
   refine qM hR ?_
   refine qA hR rfl (fun _ hS => Yld.nilCheck hS rfl) ?_
   refine qA hR rfl (fun _ hS => Yld.fieldAddr hS rfl 0 Try.underlying142 rfl rfl info140 (by decide)) ?_
   intro aa hS
   refine sA hS hR (Yld.load1 hS rfl Try.underlying140 rfl rdQ) (by decide) ?_; clear hS; intro aa hS
   revert aa
   refine qM hR ?_
   refine qA hR rfl (fun _ hS => ihQ 3 (x) Try.underlying140 info160) ?_
   refine qA hR rfl (fun _ hS => Yld.fieldAddr hS rfl 2 Try.underlying160 rfl rfl info3 (by decide)) ?_
   refine qA hR rfl (fun _ hS => Yld.load1 hS rfl Try.underlying3 rfl (Rd.rec (k := x) (j := 2) (v := .int .i64 (R x)) (xs := nods (S + n) P R) pkQ (by intro _; rfl) (by rw [nods_len]; omega) (by rw [nods_get]; rfl))) ?_
   refine qA hR rfl (fun _ hS => Yld.lss hS rfl rfl) ?_
   refine qB (t := 24) false rfl (by exact decide_eq_false (by obtain ⟨i, _, _, h, _⟩ := hW.hasR hxS hn; omega)) ?_
   refine qN hR ?_
   intro aa hS
   refine wpList_nil ?_
   refine hK164 _ _ ?_
   refine condF hS rfl ?_
   refine wp_skip ?_
   refine hK160 _ _ ?_
   refine wp_seq_k ?_; intro K165 hK165
   refine wp_region_lit ?_
   revert aa
   refine qM hR ?_
   intro aa hS
   obtain ⟨i, hi, hx, hRx, hof⟩ := hW.hasR hxS hn
   have hri := hW.hrg i hi
   have hlen := hW.len hi
   have hsz := hW.hsz i hi
   have hpos := List.length_pos_of_mem hx
   have hm := List.mem_cons_of_mem (S + rg i) hx
   have hp0 := hW.bnd (d := 0) (by omega) hi hm
   have hp1 := hW.bnd (d := 1) (by omega) hi hm
   have hne := hW.outNe hi hx
   revert aa
   refine qA hR rfl (fun _ hS => Yld.nilCheck hS rfl) ?_
   refine qA hR rfl (fun _ hS => Yld.fieldAddr hS rfl 0 Try.underlying142 rfl rfl info140 (by decide)) ?_
   refine qA hR rfl (fun _ hS => Yld.load1 hS rfl Try.underlying140 rfl rdQ) ?_
   refine qM hR ?_
   refine qA hR rfl (fun _ hS => ihQ 3 (x) Try.underlying140 info160) ?_
   refine qN hR ?_
   intro aa hS
   refine wpList_nil ?_
   refine hK165 _ _ ?_
   refine wp_seq_k ?_; intro K166 hK166
   refine drawn krQ hR (Ex.of_pk (r := sls r1 _ _ _ _ _) pkQ) ?_; clear hR; intro ww hR hR0
   revert aa
   refine eA 0 rfl krQ (fun _ _ _ h => h) hR0 rfl (fun _ hS => Yld.move hS rfl) ?_
   refine eA 1 rfl krQ (fun _ _ _ h => h) hR0 rfl (fun _ hS => Yld.nilCheck hS rfl) ?_
   refine eA 2 rfl krQ (fun _ _ _ h => h) hR0 rfl (fun _ hS => Yld.fieldAddr hS rfl 0 Try.underlying142 rfl rfl info140 (by decide)) ?_
   intro aa hS
   refine dA 3 rfl krQ krQ krQ (fun _ _ _ h => h) hS hR0 (Yld.load1 hS rfl Try.underlying140 rfl rdQ) (by decide) ?_; clear hS; intro aa hS
   revert aa
   refine eA 4 rfl krQ (fun _ _ _ h => h) hR0 rfl (fun _ hS => Yld.move hS rfl) ?_
   refine eA 5 rfl krQ (fun _ _ _ h => h) hR0 rfl (fun _ hS => Yld.nilCheck hS rfl) ?_
   refine eA 6 rfl krQ (fun _ _ _ h => h) hR0 rfl (fun _ hS => Yld.fieldAddr hS rfl 0 Try.underlying160 rfl rfl info59 (by decide)) ?_
   refine eA 7 rfl krQ (fun _ _ _ h => h) hR0 rfl (fun _ hS => Yld.to (u := .pointer (some ⟨blkOf r1, x * 3 + 1, none⟩)) (Yld.indexArr hS rfl rfl Try.underlying59 info3 (by omega) (by omega)) (by have h1 : (Try.t3).size = 1 := rfl; rw [h1]; congr 3 <;> omega)) ?_
   refine eA 9 rfl krQ (fun _ _ _ h => h) hR0 rfl (fun _ hS => Yld.move hS rfl) ?_
   refine eA 10 rfl krQ (fun _ _ _ h => h) hR0 rfl (fun _ hS => Yld.nilCheck hS rfl) ?_
   refine eA 11 rfl krQ (fun _ _ _ h => h) hR0 rfl (fun _ hS => Yld.fieldAddr hS rfl 0 Try.underlying160 rfl rfl info59 (by decide)) ?_
   refine eA 12 rfl krQ (fun _ _ _ h => h) hR0 rfl (fun _ hS => Yld.to (u := .pointer (some ⟨blkOf r1, x * 3 + 0, none⟩)) (Yld.indexArr hS rfl rfl Try.underlying59 info3 (by omega) (by omega)) (by have h1 : (Try.t3).size = 1 := rfl; rw [h1]; congr 3 <;> omega)) ?_
   intro aa hS
   refine dTwo (i := 8) (j := 13) krQ ?_ ?_
   ·
    refine dop rfl (BA hS hR (Yld.load1 hS rfl Try.underlying3 rfl (Rd.rec (k := x) (j := 1) (v := .int .i64 ((P 1 x : Nat) : Int)) (xs := nods (S + n) P R) pkQ (by intro _; rfl) (by rw [nods_len]; omega) (by rw [nods_get]; exact eL_get (r := (fun d => ((P d x : Nat) : Int), R x)) (by omega)))) (by decide) ?_); clear hS; intro aa hS; refine ⟨hR0, ?_⟩
    revert aa
    refine eA 14 rfl krQ (fun _ _ _ h => h) hR0 rfl (fun _ hS => ihQ 3 (P 1 x) Try.underlying140 info160) ?_
    refine eA 15 rfl krQ (fun _ _ _ h => h) hR0 rfl (fun _ hS => Yld.fieldAddr hS rfl 0 Try.underlying160 rfl rfl info59 (by decide)) ?_
    intro aa hS
    refine dOne (i := 13) krQ ?_
    refine dop rfl (BA hS hR (Yld.load1 hS rfl Try.underlying3 rfl (Rd.rec (k := x) (j := 0) (v := .int .i64 ((P 0 x : Nat) : Int)) (xs := nods (S + n) P R) pkQ (by intro _; rfl) (by rw [nods_len]; omega) (by rw [nods_get]; exact eL_get (r := (fun d => ((P d x : Nat) : Int), R x)) (by omega)))) (by decide) ?_); clear hS; intro aa hS; refine ⟨hR0, ?_⟩
    revert aa
    refine eA 16 rfl krQ (fun _ _ _ h => h) hR0 rfl (fun _ hS => Yld.to (u := .pointer (some ⟨blkOf r1, (P 1 x) * 3 + 0, none⟩)) (Yld.indexArr hS rfl rfl Try.underlying59 info3 (by omega) (by omega)) (by have h1 : (Try.t3).size = 1 := rfl; rw [h1]; congr 3 <;> omega)) ?_
    intro aa hS
    refine dOne (i := 17) krQ ?_
    refine dop rfl (BstoreN hS hR rfl rfl info3 rfl pkQ (by omega) (by omega) ?_); clear hR hR0; intro ww hR
    refine dnext (hR.sub exQ) ?_; intro hR0
    obtain ⟨P1, hP1⟩ : ∃ y, updP P 0 (P 1 x) (P 0 x) = y := ⟨_, rfl⟩
    rw [hP1] at hR
    have q0 : P1 0 x = P 0 x := by rw [← hP1]; unfold updP; rw [if_neg fun h => hne.2 h.2.symm]
    have q1 : P1 1 x = P 1 x := by rw [← hP1]; unfold updP; rw [if_neg fun h => hne.2 h.2.symm]
    refine wpAnyH_done krQ ?_ _; clear hR0
    refine hK166 _ _ ?_
    refine wp_seq_k ?_; intro K167 hK167
    refine drawn krQ hR (Ex.of_pk (r := sls r1 _ _ _ _ _) pkQ) ?_; clear hR; intro ww hR hR0
    revert aa
    refine eA 0 rfl krQ (fun _ _ _ h => h) hR0 rfl (fun _ hS => Yld.move hS rfl) ?_
    refine eA 1 rfl krQ (fun _ _ _ h => h) hR0 rfl (fun _ hS => Yld.nilCheck hS rfl) ?_
    refine eA 2 rfl krQ (fun _ _ _ h => h) hR0 rfl (fun _ hS => Yld.fieldAddr hS rfl 0 Try.underlying142 rfl rfl info140 (by decide)) ?_
    intro aa hS
    refine dA 3 rfl krQ krQ krQ (fun _ _ _ h => h) hS hR0 (Yld.load1 hS rfl Try.underlying140 rfl rdQ) (by decide) ?_; clear hS; intro aa hS
    revert aa
    refine eA 4 rfl krQ (fun _ _ _ h => h) hR0 rfl (fun _ hS => Yld.move hS rfl) ?_
    refine eA 5 rfl krQ (fun _ _ _ h => h) hR0 rfl (fun _ hS => Yld.nilCheck hS rfl) ?_
    refine eA 6 rfl krQ (fun _ _ _ h => h) hR0 rfl (fun _ hS => Yld.fieldAddr hS rfl 0 Try.underlying160 rfl rfl info59 (by decide)) ?_
    refine eA 7 rfl krQ (fun _ _ _ h => h) hR0 rfl (fun _ hS => Yld.to (u := .pointer (some ⟨blkOf r1, x * 3 + 0, none⟩)) (Yld.indexArr hS rfl rfl Try.underlying59 info3 (by omega) (by omega)) (by have h1 : (Try.t3).size = 1 := rfl; rw [h1]; congr 3 <;> omega)) ?_
    refine eA 9 rfl krQ (fun _ _ _ h => h) hR0 rfl (fun _ hS => Yld.move hS rfl) ?_
    refine eA 10 rfl krQ (fun _ _ _ h => h) hR0 rfl (fun _ hS => Yld.nilCheck hS rfl) ?_
    refine eA 11 rfl krQ (fun _ _ _ h => h) hR0 rfl (fun _ hS => Yld.fieldAddr hS rfl 0 Try.underlying160 rfl rfl info59 (by decide)) ?_
    refine eA 12 rfl krQ (fun _ _ _ h => h) hR0 rfl (fun _ hS => Yld.to (u := .pointer (some ⟨blkOf r1, x * 3 + 1, none⟩)) (Yld.indexArr hS rfl rfl Try.underlying59 info3 (by omega) (by omega)) (by have h1 : (Try.t3).size = 1 := rfl; rw [h1]; congr 3 <;> omega)) ?_
    intro aa hS
    refine dTwo (i := 8) (j := 13) krQ ?_ ?_
    ·
     refine dop rfl (BA hS hR (Yld.load1 hS rfl Try.underlying3 rfl (Rd.rec (k := x) (j := 0) (v := .int .i64 ((P1 0 x : Nat) : Int)) (xs := nods (S + n) P1 R) pkQ (by intro _; rfl) (by rw [nods_len]; omega) (by rw [nods_get]; exact eL_get (r := (fun d => ((P1 d x : Nat) : Int), R x)) (by omega)))) (by decide) ?_); clear hS; intro aa hS; refine ⟨hR0, ?_⟩
     rw [q0] at hS
     revert aa
     refine eA 14 rfl krQ (fun _ _ _ h => h) hR0 rfl (fun _ hS => ihQ 3 (P 0 x) Try.underlying140 info160) ?_
     refine eA 15 rfl krQ (fun _ _ _ h => h) hR0 rfl (fun _ hS => Yld.fieldAddr hS rfl 0 Try.underlying160 rfl rfl info59 (by decide)) ?_
     intro aa hS
     refine dOne (i := 13) krQ ?_
     refine dop rfl (BA hS hR (Yld.load1 hS rfl Try.underlying3 rfl (Rd.rec (k := x) (j := 1) (v := .int .i64 ((P1 1 x : Nat) : Int)) (xs := nods (S + n) P1 R) pkQ (by intro _; rfl) (by rw [nods_len]; omega) (by rw [nods_get]; exact eL_get (r := (fun d => ((P1 d x : Nat) : Int), R x)) (by omega)))) (by decide) ?_); clear hS; intro aa hS; refine ⟨hR0, ?_⟩
     rw [q1] at hS
     revert aa
     refine eA 16 rfl krQ (fun _ _ _ h => h) hR0 rfl (fun _ hS => Yld.to (u := .pointer (some ⟨blkOf r1, (P 0 x) * 3 + 1, none⟩)) (Yld.indexArr hS rfl rfl Try.underlying59 info3 (by omega) (by omega)) (by have h1 : (Try.t3).size = 1 := rfl; rw [h1]; congr 3 <;> omega)) ?_
     intro aa hS
     refine dOne (i := 17) krQ ?_
     refine dop rfl (BstoreN hS hR rfl rfl info3 rfl pkQ (by omega) (by omega) ?_); clear hR hR0; intro ww hR
     refine dnext (hR.sub exQ) ?_; intro hR0
     obtain ⟨P2, hP2⟩ : ∃ y, updP P1 1 (P 0 x) (P 1 x) = y := ⟨_, rfl⟩
     rw [hP2] at hR
     have hPo : P2 = outP P x := by rw [← hP2, ← hP1]; rfl
     refine wpAnyH_done krQ ?_ _; clear hR0
     refine hK167 _ _ ?_
     refine wp_seq_k ?_; intro K168 hK168
     refine drawn krQ hR (Ex.of_pk (r := sls r4 _ _ _ _ _) pkQ) ?_; clear hR; intro ww hR hR0
     revert aa
     refine eA 0 rfl krQ (fun _ _ _ h => h) hR0 rfl (fun _ hS => Yld.move hS rfl) ?_
     refine eA 1 rfl krQ (fun _ _ _ h => h) hR0 rfl (fun _ hS => Yld.nilCheck hS rfl) ?_
     refine eA 2 rfl krQ (fun _ _ _ h => h) hR0 rfl (fun _ hS => Yld.fieldAddr hS rfl 4 Try.underlying142 rfl rfl info41 (by decide)) ?_
     intro aa hS
     refine dA 3 rfl krQ krQ krQ (fun _ _ _ h => h) hS hR0 (Yld.load1 hS rfl Try.underlying41 rfl rdQ) (by decide) ?_; clear hS; intro aa hS
     revert aa
     refine eA 4 rfl krQ (fun _ _ _ h => h) hR0 rfl (fun _ hS => Yld.move hS rfl) ?_
     refine eA 5 rfl krQ (fun _ _ _ h => h) hR0 rfl (fun _ hS => Yld.nilCheck hS rfl) ?_
     refine eA 6 rfl krQ (fun _ _ _ h => h) hR0 rfl (fun _ hS => Yld.fieldAddr hS rfl 2 Try.underlying160 rfl rfl info3 (by decide)) ?_
     refine eA 7 rfl krQ (fun _ _ _ h => h) hR0 rfl (fun _ hS => Yld.load1 hS rfl Try.underlying3 rfl (Rd.rec (k := x) (j := 2) (v := .int .i64 (R x)) (xs := nods (S + n) P2 R) pkQ (by intro _; rfl) (by rw [nods_len]; omega) (by rw [nods_get]; rfl))) ?_
     intro aa hS
     replace hS := hS.say (t := 72) (.int .i64 ((rg i : Nat) : Int)) rfl (by rw [hRx])
     revert aa
     refine eA 8 rfl krQ (fun _ _ _ h => h) hR0 rfl (fun _ hS => ihQ 1 (rg i) Try.underlying41 info3) ?_
     intro aa hS
     refine dOne (i := 9) krQ ?_
     refine dop rfl (BA hS hR (Yld.load1 hS rfl Try.underlying3 rfl (Rd.rec0 (k := (rg i)) (v := .int .i64 ((sz (rg i) : Nat) : Int)) (xs := tabN n sz) pkQ (by intro _; rfl) (by rw [tabN_len]; omega) (by rw [tabN_get]; rfl))) (by decide) ?_); clear hS; intro aa hS; refine ⟨hR0, ?_⟩
     refine dA 10 rfl krQ krQ krQ (fun _ _ _ h => h) hS hR0 suQ (by decide) ?_; clear hS; intro aa hS
     replace hS := hS.say (t := 75) (.int .i64 ((sz (rg i) - 1 : Nat) : Int)) rfl (by rw [show ((sz (rg i) - 1 : Nat) : Int) = ((sz (rg i) : Nat) : Int) - 1 from by omega])
     revert aa
     refine eA 11 rfl krQ (fun _ _ _ h => h) hR0 rfl (fun _ hS => ihQ 1 (rg i) Try.underlying41 info3) ?_
     intro aa hS
     refine dOne (i := 12) krQ ?_
     refine dop rfl (BstoreT hS hR rfl rfl info3 rfl pkQ (by omega) ?_); clear hR hR0; intro ww hR
     refine dnext (hR.sub exQ) ?_; intro hR0
     refine wpAnyH_done krQ ?_ _; clear hR0
     refine hK168 _ _ ?_
     refine wp_seq_k ?_; intro K169 hK169
     refine wp_region_lit ?_
     revert aa
     refine qM hR ?_
     refine qA hR rfl (fun _ hS => Yld.nilCheck hS rfl) ?_
     refine qA hR rfl (fun _ hS => Yld.fieldAddr hS rfl 2 Try.underlying160 rfl rfl info3 (by decide)) ?_
     intro aa hS
     refine sB (BstoreNR hS hR rfl rfl info3 rfl pkQ (by omega) ?_); clear hR; intro ww hR
     refine wpList_nil ?_
     refine hK169 _ _ ?_
     refine wp_seq_k ?_; intro K170 hK170
     refine wp_region_lit ?_
     revert aa
     refine qN hR ?_
     intro aa hS
     refine wpList_nil ?_
     refine hK170 _ _ ?_
     refine wp_ret ?_
     repeat first | with_reducible refine thenR ?_ | with_reducible refine blockR ?_ | with_reducible refine scopeR ?_
     refine ret1 (fn := Try.f77) (e := .ret) (.inl rfl) Try.results77 hS hR ⟨_, (.tmp rfl), ?_⟩
     refine ⟨by rw [outE, if_neg (by omega), Int.toNat_natCast, if_pos hn], ?_⟩
     rw [hPo] at hR
     exact Sep.linksAI (TL := 142) (TN := 160) (TI := 3) (b := b) (hW.out hi hx) (by rw [outS, if_neg (by omega), Int.toNat_natCast, hof]) (hR.sub exQ)
    ·
     refine dop rfl (BA hS hR (Yld.load1 hS rfl Try.underlying3 rfl (Rd.rec (k := x) (j := 1) (v := .int .i64 ((P1 1 x : Nat) : Int)) (xs := nods (S + n) P1 R) pkQ (by intro _; rfl) (by rw [nods_len]; omega) (by rw [nods_get]; exact eL_get (r := (fun d => ((P1 d x : Nat) : Int), R x)) (by omega)))) (by decide) ?_); clear hS; intro aa hS; refine ⟨hR0, ?_⟩
     rw [q1] at hS
     refine dOne (i := 8) krQ ?_
     refine dop rfl (BA hS hR (Yld.load1 hS rfl Try.underlying3 rfl (Rd.rec (k := x) (j := 0) (v := .int .i64 ((P1 0 x : Nat) : Int)) (xs := nods (S + n) P1 R) pkQ (by intro _; rfl) (by rw [nods_len]; omega) (by rw [nods_get]; exact eL_get (r := (fun d => ((P1 d x : Nat) : Int), R x)) (by omega)))) (by decide) ?_); clear hS; intro aa hS; refine ⟨hR0, ?_⟩
     rw [q0] at hS
     revert aa
     refine eA 14 rfl krQ (fun _ _ _ h => h) hR0 rfl (fun _ hS => ihQ 3 (P 0 x) Try.underlying140 info160) ?_
     refine eA 15 rfl krQ (fun _ _ _ h => h) hR0 rfl (fun _ hS => Yld.fieldAddr hS rfl 0 Try.underlying160 rfl rfl info59 (by decide)) ?_
     refine eA 16 rfl krQ (fun _ _ _ h => h) hR0 rfl (fun _ hS => Yld.to (u := .pointer (some ⟨blkOf r1, (P 0 x) * 3 + 1, none⟩)) (Yld.indexArr hS rfl rfl Try.underlying59 info3 (by omega) (by omega)) (by have h1 : (Try.t3).size = 1 := rfl; rw [h1]; congr 3 <;> omega)) ?_
     intro aa hS
     refine dOne (i := 17) krQ ?_
     refine dop rfl (BstoreN hS hR rfl rfl info3 rfl pkQ (by omega) (by omega) ?_); clear hR hR0; intro ww hR
     refine dnext (hR.sub exQ) ?_; intro hR0
     obtain ⟨P2, hP2⟩ : ∃ y, updP P1 1 (P 0 x) (P 1 x) = y := ⟨_, rfl⟩
     rw [hP2] at hR
     have hPo : P2 = outP P x := by rw [← hP2, ← hP1]; rfl
     refine wpAnyH_done krQ ?_ _; clear hR0
     refine hK167 _ _ ?_
     refine wp_seq_k ?_; intro K171 hK171
     refine drawn krQ hR (Ex.of_pk (r := sls r4 _ _ _ _ _) pkQ) ?_; clear hR; intro ww hR hR0
     revert aa
     refine eA 0 rfl krQ (fun _ _ _ h => h) hR0 rfl (fun _ hS => Yld.move hS rfl) ?_
     refine eA 1 rfl krQ (fun _ _ _ h => h) hR0 rfl (fun _ hS => Yld.nilCheck hS rfl) ?_
     refine eA 2 rfl krQ (fun _ _ _ h => h) hR0 rfl (fun _ hS => Yld.fieldAddr hS rfl 4 Try.underlying142 rfl rfl info41 (by decide)) ?_
     intro aa hS
     refine dA 3 rfl krQ krQ krQ (fun _ _ _ h => h) hS hR0 (Yld.load1 hS rfl Try.underlying41 rfl rdQ) (by decide) ?_; clear hS; intro aa hS
     revert aa
     refine eA 4 rfl krQ (fun _ _ _ h => h) hR0 rfl (fun _ hS => Yld.move hS rfl) ?_
     refine eA 5 rfl krQ (fun _ _ _ h => h) hR0 rfl (fun _ hS => Yld.nilCheck hS rfl) ?_
     refine eA 6 rfl krQ (fun _ _ _ h => h) hR0 rfl (fun _ hS => Yld.fieldAddr hS rfl 2 Try.underlying160 rfl rfl info3 (by decide)) ?_
     refine eA 7 rfl krQ (fun _ _ _ h => h) hR0 rfl (fun _ hS => Yld.load1 hS rfl Try.underlying3 rfl (Rd.rec (k := x) (j := 2) (v := .int .i64 (R x)) (xs := nods (S + n) P2 R) pkQ (by intro _; rfl) (by rw [nods_len]; omega) (by rw [nods_get]; rfl))) ?_
     intro aa hS
     replace hS := hS.say (t := 72) (.int .i64 ((rg i : Nat) : Int)) rfl (by rw [hRx])
     revert aa
     refine eA 8 rfl krQ (fun _ _ _ h => h) hR0 rfl (fun _ hS => ihQ 1 (rg i) Try.underlying41 info3) ?_
     intro aa hS
     refine dOne (i := 9) krQ ?_
     refine dop rfl (BA hS hR (Yld.load1 hS rfl Try.underlying3 rfl (Rd.rec0 (k := (rg i)) (v := .int .i64 ((sz (rg i) : Nat) : Int)) (xs := tabN n sz) pkQ (by intro _; rfl) (by rw [tabN_len]; omega) (by rw [tabN_get]; rfl))) (by decide) ?_); clear hS; intro aa hS; refine ⟨hR0, ?_⟩
     refine dA 10 rfl krQ krQ krQ (fun _ _ _ h => h) hS hR0 suQ (by decide) ?_; clear hS; intro aa hS
     replace hS := hS.say (t := 75) (.int .i64 ((sz (rg i) - 1 : Nat) : Int)) rfl (by rw [show ((sz (rg i) - 1 : Nat) : Int) = ((sz (rg i) : Nat) : Int) - 1 from by omega])
     revert aa
     refine eA 11 rfl krQ (fun _ _ _ h => h) hR0 rfl (fun _ hS => ihQ 1 (rg i) Try.underlying41 info3) ?_
     intro aa hS
     refine dOne (i := 12) krQ ?_
     refine dop rfl (BstoreT hS hR rfl rfl info3 rfl pkQ (by omega) ?_); clear hR hR0; intro ww hR
     refine dnext (hR.sub exQ) ?_; intro hR0
     refine wpAnyH_done krQ ?_ _; clear hR0
     refine hK171 _ _ ?_
     refine wp_seq_k ?_; intro K172 hK172
     refine wp_region_lit ?_
     revert aa
     refine qM hR ?_
     refine qA hR rfl (fun _ hS => Yld.nilCheck hS rfl) ?_
     refine qA hR rfl (fun _ hS => Yld.fieldAddr hS rfl 2 Try.underlying160 rfl rfl info3 (by decide)) ?_
     intro aa hS
     refine sB (BstoreNR hS hR rfl rfl info3 rfl pkQ (by omega) ?_); clear hR; intro ww hR
     refine wpList_nil ?_
     refine hK172 _ _ ?_
     refine wp_seq_k ?_; intro K173 hK173
     refine wp_region_lit ?_
     revert aa
     refine qN hR ?_
     intro aa hS
     refine wpList_nil ?_
     refine hK173 _ _ ?_
     refine wp_ret ?_
     repeat first | with_reducible refine thenR ?_ | with_reducible refine blockR ?_ | with_reducible refine scopeR ?_
     refine ret1 (fn := Try.f77) (e := .ret) (.inl rfl) Try.results77 hS hR ⟨_, (.tmp rfl), ?_⟩
     refine ⟨by rw [outE, if_neg (by omega), Int.toNat_natCast, if_pos hn], ?_⟩
     rw [hPo] at hR
     exact Sep.linksAI (TL := 142) (TN := 160) (TI := 3) (b := b) (hW.out hi hx) (by rw [outS, if_neg (by omega), Int.toNat_natCast, hof]) (hR.sub exQ)
   ·
    refine dop rfl (BA hS hR (Yld.load1 hS rfl Try.underlying3 rfl (Rd.rec (k := x) (j := 0) (v := .int .i64 ((P 0 x : Nat) : Int)) (xs := nods (S + n) P R) pkQ (by intro _; rfl) (by rw [nods_len]; omega) (by rw [nods_get]; exact eL_get (r := (fun d => ((P d x : Nat) : Int), R x)) (by omega)))) (by decide) ?_); clear hS; intro aa hS; refine ⟨hR0, ?_⟩
    refine dOne (i := 8) krQ ?_
    refine dop rfl (BA hS hR (Yld.load1 hS rfl Try.underlying3 rfl (Rd.rec (k := x) (j := 1) (v := .int .i64 ((P 1 x : Nat) : Int)) (xs := nods (S + n) P R) pkQ (by intro _; rfl) (by rw [nods_len]; omega) (by rw [nods_get]; exact eL_get (r := (fun d => ((P d x : Nat) : Int), R x)) (by omega)))) (by decide) ?_); clear hS; intro aa hS; refine ⟨hR0, ?_⟩
    revert aa
    refine eA 14 rfl krQ (fun _ _ _ h => h) hR0 rfl (fun _ hS => ihQ 3 (P 1 x) Try.underlying140 info160) ?_
    refine eA 15 rfl krQ (fun _ _ _ h => h) hR0 rfl (fun _ hS => Yld.fieldAddr hS rfl 0 Try.underlying160 rfl rfl info59 (by decide)) ?_
    refine eA 16 rfl krQ (fun _ _ _ h => h) hR0 rfl (fun _ hS => Yld.to (u := .pointer (some ⟨blkOf r1, (P 1 x) * 3 + 0, none⟩)) (Yld.indexArr hS rfl rfl Try.underlying59 info3 (by omega) (by omega)) (by have h1 : (Try.t3).size = 1 := rfl; rw [h1]; congr 3 <;> omega)) ?_
    intro aa hS
    refine dOne (i := 17) krQ ?_
    refine dop rfl (BstoreN hS hR rfl rfl info3 rfl pkQ (by omega) (by omega) ?_); clear hR hR0; intro ww hR
    refine dnext (hR.sub exQ) ?_; intro hR0
    obtain ⟨P1, hP1⟩ : ∃ y, updP P 0 (P 1 x) (P 0 x) = y := ⟨_, rfl⟩
    rw [hP1] at hR
    have q0 : P1 0 x = P 0 x := by rw [← hP1]; unfold updP; rw [if_neg fun h => hne.2 h.2.symm]
    have q1 : P1 1 x = P 1 x := by rw [← hP1]; unfold updP; rw [if_neg fun h => hne.2 h.2.symm]
    refine wpAnyH_done krQ ?_ _; clear hR0
    refine hK166 _ _ ?_
    refine wp_seq_k ?_; intro K174 hK174
    refine drawn krQ hR (Ex.of_pk (r := sls r1 _ _ _ _ _) pkQ) ?_; clear hR; intro ww hR hR0
    revert aa
    refine eA 0 rfl krQ (fun _ _ _ h => h) hR0 rfl (fun _ hS => Yld.move hS rfl) ?_
    refine eA 1 rfl krQ (fun _ _ _ h => h) hR0 rfl (fun _ hS => Yld.nilCheck hS rfl) ?_
    refine eA 2 rfl krQ (fun _ _ _ h => h) hR0 rfl (fun _ hS => Yld.fieldAddr hS rfl 0 Try.underlying142 rfl rfl info140 (by decide)) ?_
    intro aa hS
    refine dA 3 rfl krQ krQ krQ (fun _ _ _ h => h) hS hR0 (Yld.load1 hS rfl Try.underlying140 rfl rdQ) (by decide) ?_; clear hS; intro aa hS
    revert aa
    refine eA 4 rfl krQ (fun _ _ _ h => h) hR0 rfl (fun _ hS => Yld.move hS rfl) ?_
    refine eA 5 rfl krQ (fun _ _ _ h => h) hR0 rfl (fun _ hS => Yld.nilCheck hS rfl) ?_
    refine eA 6 rfl krQ (fun _ _ _ h => h) hR0 rfl (fun _ hS => Yld.fieldAddr hS rfl 0 Try.underlying160 rfl rfl info59 (by decide)) ?_
    refine eA 7 rfl krQ (fun _ _ _ h => h) hR0 rfl (fun _ hS => Yld.to (u := .pointer (some ⟨blkOf r1, x * 3 + 0, none⟩)) (Yld.indexArr hS rfl rfl Try.underlying59 info3 (by omega) (by omega)) (by have h1 : (Try.t3).size = 1 := rfl; rw [h1]; congr 3 <;> omega)) ?_
    refine eA 9 rfl krQ (fun _ _ _ h => h) hR0 rfl (fun _ hS => Yld.move hS rfl) ?_
    refine eA 10 rfl krQ (fun _ _ _ h => h) hR0 rfl (fun _ hS => Yld.nilCheck hS rfl) ?_
    refine eA 11 rfl krQ (fun _ _ _ h => h) hR0 rfl (fun _ hS => Yld.fieldAddr hS rfl 0 Try.underlying160 rfl rfl info59 (by decide)) ?_
    refine eA 12 rfl krQ (fun _ _ _ h => h) hR0 rfl (fun _ hS => Yld.to (u := .pointer (some ⟨blkOf r1, x * 3 + 1, none⟩)) (Yld.indexArr hS rfl rfl Try.underlying59 info3 (by omega) (by omega)) (by have h1 : (Try.t3).size = 1 := rfl; rw [h1]; congr 3 <;> omega)) ?_
    intro aa hS
    refine dTwo (i := 8) (j := 13) krQ ?_ ?_
    ·
     refine dop rfl (BA hS hR (Yld.load1 hS rfl Try.underlying3 rfl (Rd.rec (k := x) (j := 0) (v := .int .i64 ((P1 0 x : Nat) : Int)) (xs := nods (S + n) P1 R) pkQ (by intro _; rfl) (by rw [nods_len]; omega) (by rw [nods_get]; exact eL_get (r := (fun d => ((P1 d x : Nat) : Int), R x)) (by omega)))) (by decide) ?_); clear hS; intro aa hS; refine ⟨hR0, ?_⟩
     rw [q0] at hS
     revert aa
     refine eA 14 rfl krQ (fun _ _ _ h => h) hR0 rfl (fun _ hS => ihQ 3 (P 0 x) Try.underlying140 info160) ?_
     refine eA 15 rfl krQ (fun _ _ _ h => h) hR0 rfl (fun _ hS => Yld.fieldAddr hS rfl 0 Try.underlying160 rfl rfl info59 (by decide)) ?_
     intro aa hS
     refine dOne (i := 13) krQ ?_
     refine dop rfl (BA hS hR (Yld.load1 hS rfl Try.underlying3 rfl (Rd.rec (k := x) (j := 1) (v := .int .i64 ((P1 1 x : Nat) : Int)) (xs := nods (S + n) P1 R) pkQ (by intro _; rfl) (by rw [nods_len]; omega) (by rw [nods_get]; exact eL_get (r := (fun d => ((P1 d x : Nat) : Int), R x)) (by omega)))) (by decide) ?_); clear hS; intro aa hS; refine ⟨hR0, ?_⟩
     rw [q1] at hS
     revert aa
     refine eA 16 rfl krQ (fun _ _ _ h => h) hR0 rfl (fun _ hS => Yld.to (u := .pointer (some ⟨blkOf r1, (P 0 x) * 3 + 1, none⟩)) (Yld.indexArr hS rfl rfl Try.underlying59 info3 (by omega) (by omega)) (by have h1 : (Try.t3).size = 1 := rfl; rw [h1]; congr 3 <;> omega)) ?_
     intro aa hS
     refine dOne (i := 17) krQ ?_
     refine dop rfl (BstoreN hS hR rfl rfl info3 rfl pkQ (by omega) (by omega) ?_); clear hR hR0; intro ww hR
     refine dnext (hR.sub exQ) ?_; intro hR0
     obtain ⟨P2, hP2⟩ : ∃ y, updP P1 1 (P 0 x) (P 1 x) = y := ⟨_, rfl⟩
     rw [hP2] at hR
     have hPo : P2 = outP P x := by rw [← hP2, ← hP1]; rfl
     refine wpAnyH_done krQ ?_ _; clear hR0
     refine hK174 _ _ ?_
     refine wp_seq_k ?_; intro K175 hK175
     refine drawn krQ hR (Ex.of_pk (r := sls r4 _ _ _ _ _) pkQ) ?_; clear hR; intro ww hR hR0
     revert aa
     refine eA 0 rfl krQ (fun _ _ _ h => h) hR0 rfl (fun _ hS => Yld.move hS rfl) ?_
     refine eA 1 rfl krQ (fun _ _ _ h => h) hR0 rfl (fun _ hS => Yld.nilCheck hS rfl) ?_
     refine eA 2 rfl krQ (fun _ _ _ h => h) hR0 rfl (fun _ hS => Yld.fieldAddr hS rfl 4 Try.underlying142 rfl rfl info41 (by decide)) ?_
     intro aa hS
     refine dA 3 rfl krQ krQ krQ (fun _ _ _ h => h) hS hR0 (Yld.load1 hS rfl Try.underlying41 rfl rdQ) (by decide) ?_; clear hS; intro aa hS
     revert aa
     refine eA 4 rfl krQ (fun _ _ _ h => h) hR0 rfl (fun _ hS => Yld.move hS rfl) ?_
     refine eA 5 rfl krQ (fun _ _ _ h => h) hR0 rfl (fun _ hS => Yld.nilCheck hS rfl) ?_
     refine eA 6 rfl krQ (fun _ _ _ h => h) hR0 rfl (fun _ hS => Yld.fieldAddr hS rfl 2 Try.underlying160 rfl rfl info3 (by decide)) ?_
     refine eA 7 rfl krQ (fun _ _ _ h => h) hR0 rfl (fun _ hS => Yld.load1 hS rfl Try.underlying3 rfl (Rd.rec (k := x) (j := 2) (v := .int .i64 (R x)) (xs := nods (S + n) P2 R) pkQ (by intro _; rfl) (by rw [nods_len]; omega) (by rw [nods_get]; rfl))) ?_
     intro aa hS
     replace hS := hS.say (t := 72) (.int .i64 ((rg i : Nat) : Int)) rfl (by rw [hRx])
     revert aa
     refine eA 8 rfl krQ (fun _ _ _ h => h) hR0 rfl (fun _ hS => ihQ 1 (rg i) Try.underlying41 info3) ?_
     intro aa hS
     refine dOne (i := 9) krQ ?_
     refine dop rfl (BA hS hR (Yld.load1 hS rfl Try.underlying3 rfl (Rd.rec0 (k := (rg i)) (v := .int .i64 ((sz (rg i) : Nat) : Int)) (xs := tabN n sz) pkQ (by intro _; rfl) (by rw [tabN_len]; omega) (by rw [tabN_get]; rfl))) (by decide) ?_); clear hS; intro aa hS; refine ⟨hR0, ?_⟩
     refine dA 10 rfl krQ krQ krQ (fun _ _ _ h => h) hS hR0 suQ (by decide) ?_; clear hS; intro aa hS
     replace hS := hS.say (t := 75) (.int .i64 ((sz (rg i) - 1 : Nat) : Int)) rfl (by rw [show ((sz (rg i) - 1 : Nat) : Int) = ((sz (rg i) : Nat) : Int) - 1 from by omega])
     revert aa
     refine eA 11 rfl krQ (fun _ _ _ h => h) hR0 rfl (fun _ hS => ihQ 1 (rg i) Try.underlying41 info3) ?_
     intro aa hS
     refine dOne (i := 12) krQ ?_
     refine dop rfl (BstoreT hS hR rfl rfl info3 rfl pkQ (by omega) ?_); clear hR hR0; intro ww hR
     refine dnext (hR.sub exQ) ?_; intro hR0
     refine wpAnyH_done krQ ?_ _; clear hR0
     refine hK175 _ _ ?_
     refine wp_seq_k ?_; intro K176 hK176
     refine wp_region_lit ?_
     revert aa
     refine qM hR ?_
     refine qA hR rfl (fun _ hS => Yld.nilCheck hS rfl) ?_
     refine qA hR rfl (fun _ hS => Yld.fieldAddr hS rfl 2 Try.underlying160 rfl rfl info3 (by decide)) ?_
     intro aa hS
     refine sB (BstoreNR hS hR rfl rfl info3 rfl pkQ (by omega) ?_); clear hR; intro ww hR
     refine wpList_nil ?_
     refine hK176 _ _ ?_
     refine wp_seq_k ?_; intro K177 hK177
     refine wp_region_lit ?_
     revert aa
     refine qN hR ?_
     intro aa hS
     refine wpList_nil ?_
     refine hK177 _ _ ?_
     refine wp_ret ?_
     repeat first | with_reducible refine thenR ?_ | with_reducible refine blockR ?_ | with_reducible refine scopeR ?_
     refine ret1 (fn := Try.f77) (e := .ret) (.inl rfl) Try.results77 hS hR ⟨_, (.tmp rfl), ?_⟩
     refine ⟨by rw [outE, if_neg (by omega), Int.toNat_natCast, if_pos hn], ?_⟩
     rw [hPo] at hR
     exact Sep.linksAI (TL := 142) (TN := 160) (TI := 3) (b := b) (hW.out hi hx) (by rw [outS, if_neg (by omega), Int.toNat_natCast, hof]) (hR.sub exQ)
    ·
     refine dop rfl (BA hS hR (Yld.load1 hS rfl Try.underlying3 rfl (Rd.rec (k := x) (j := 1) (v := .int .i64 ((P1 1 x : Nat) : Int)) (xs := nods (S + n) P1 R) pkQ (by intro _; rfl) (by rw [nods_len]; omega) (by rw [nods_get]; exact eL_get (r := (fun d => ((P1 d x : Nat) : Int), R x)) (by omega)))) (by decide) ?_); clear hS; intro aa hS; refine ⟨hR0, ?_⟩
     rw [q1] at hS
     refine dOne (i := 8) krQ ?_
     refine dop rfl (BA hS hR (Yld.load1 hS rfl Try.underlying3 rfl (Rd.rec (k := x) (j := 0) (v := .int .i64 ((P1 0 x : Nat) : Int)) (xs := nods (S + n) P1 R) pkQ (by intro _; rfl) (by rw [nods_len]; omega) (by rw [nods_get]; exact eL_get (r := (fun d => ((P1 d x : Nat) : Int), R x)) (by omega)))) (by decide) ?_); clear hS; intro aa hS; refine ⟨hR0, ?_⟩
     rw [q0] at hS
     revert aa
     refine eA 14 rfl krQ (fun _ _ _ h => h) hR0 rfl (fun _ hS => ihQ 3 (P 0 x) Try.underlying140 info160) ?_
     refine eA 15 rfl krQ (fun _ _ _ h => h) hR0 rfl (fun _ hS => Yld.fieldAddr hS rfl 0 Try.underlying160 rfl rfl info59 (by decide)) ?_
     refine eA 16 rfl krQ (fun _ _ _ h => h) hR0 rfl (fun _ hS => Yld.to (u := .pointer (some ⟨blkOf r1, (P 0 x) * 3 + 1, none⟩)) (Yld.indexArr hS rfl rfl Try.underlying59 info3 (by omega) (by omega)) (by have h1 : (Try.t3).size = 1 := rfl; rw [h1]; congr 3 <;> omega)) ?_
     intro aa hS
     refine dOne (i := 17) krQ ?_
     refine dop rfl (BstoreN hS hR rfl rfl info3 rfl pkQ (by omega) (by omega) ?_); clear hR hR0; intro ww hR
     refine dnext (hR.sub exQ) ?_; intro hR0
     obtain ⟨P2, hP2⟩ : ∃ y, updP P1 1 (P 0 x) (P 1 x) = y := ⟨_, rfl⟩
     rw [hP2] at hR
     have hPo : P2 = outP P x := by rw [← hP2, ← hP1]; rfl
     refine wpAnyH_done krQ ?_ _; clear hR0
     refine hK174 _ _ ?_
     refine wp_seq_k ?_; intro K178 hK178
     refine drawn krQ hR (Ex.of_pk (r := sls r4 _ _ _ _ _) pkQ) ?_; clear hR; intro ww hR hR0
     revert aa
     refine eA 0 rfl krQ (fun _ _ _ h => h) hR0 rfl (fun _ hS => Yld.move hS rfl) ?_
     refine eA 1 rfl krQ (fun _ _ _ h => h) hR0 rfl (fun _ hS => Yld.nilCheck hS rfl) ?_
     refine eA 2 rfl krQ (fun _ _ _ h => h) hR0 rfl (fun _ hS => Yld.fieldAddr hS rfl 4 Try.underlying142 rfl rfl info41 (by decide)) ?_
     intro aa hS
     refine dA 3 rfl krQ krQ krQ (fun _ _ _ h => h) hS hR0 (Yld.load1 hS rfl Try.underlying41 rfl rdQ) (by decide) ?_; clear hS; intro aa hS
     revert aa
     refine eA 4 rfl krQ (fun _ _ _ h => h) hR0 rfl (fun _ hS => Yld.move hS rfl) ?_
     refine eA 5 rfl krQ (fun _ _ _ h => h) hR0 rfl (fun _ hS => Yld.nilCheck hS rfl) ?_
     refine eA 6 rfl krQ (fun _ _ _ h => h) hR0 rfl (fun _ hS => Yld.fieldAddr hS rfl 2 Try.underlying160 rfl rfl info3 (by decide)) ?_
     refine eA 7 rfl krQ (fun _ _ _ h => h) hR0 rfl (fun _ hS => Yld.load1 hS rfl Try.underlying3 rfl (Rd.rec (k := x) (j := 2) (v := .int .i64 (R x)) (xs := nods (S + n) P2 R) pkQ (by intro _; rfl) (by rw [nods_len]; omega) (by rw [nods_get]; rfl))) ?_
     intro aa hS
     replace hS := hS.say (t := 72) (.int .i64 ((rg i : Nat) : Int)) rfl (by rw [hRx])
     revert aa
     refine eA 8 rfl krQ (fun _ _ _ h => h) hR0 rfl (fun _ hS => ihQ 1 (rg i) Try.underlying41 info3) ?_
     intro aa hS
     refine dOne (i := 9) krQ ?_
     refine dop rfl (BA hS hR (Yld.load1 hS rfl Try.underlying3 rfl (Rd.rec0 (k := (rg i)) (v := .int .i64 ((sz (rg i) : Nat) : Int)) (xs := tabN n sz) pkQ (by intro _; rfl) (by rw [tabN_len]; omega) (by rw [tabN_get]; rfl))) (by decide) ?_); clear hS; intro aa hS; refine ⟨hR0, ?_⟩
     refine dA 10 rfl krQ krQ krQ (fun _ _ _ h => h) hS hR0 suQ (by decide) ?_; clear hS; intro aa hS
     replace hS := hS.say (t := 75) (.int .i64 ((sz (rg i) - 1 : Nat) : Int)) rfl (by rw [show ((sz (rg i) - 1 : Nat) : Int) = ((sz (rg i) : Nat) : Int) - 1 from by omega])
     revert aa
     refine eA 11 rfl krQ (fun _ _ _ h => h) hR0 rfl (fun _ hS => ihQ 1 (rg i) Try.underlying41 info3) ?_
     intro aa hS
     refine dOne (i := 12) krQ ?_
     refine dop rfl (BstoreT hS hR rfl rfl info3 rfl pkQ (by omega) ?_); clear hR hR0; intro ww hR
     refine dnext (hR.sub exQ) ?_; intro hR0
     refine wpAnyH_done krQ ?_ _; clear hR0
     refine hK178 _ _ ?_
     refine wp_seq_k ?_; intro K179 hK179
     refine wp_region_lit ?_
     revert aa
     refine qM hR ?_
     refine qA hR rfl (fun _ hS => Yld.nilCheck hS rfl) ?_
     refine qA hR rfl (fun _ hS => Yld.fieldAddr hS rfl 2 Try.underlying160 rfl rfl info3 (by decide)) ?_
     intro aa hS
     refine sB (BstoreNR hS hR rfl rfl info3 rfl pkQ (by omega) ?_); clear hR; intro ww hR
     refine wpList_nil ?_
     refine hK179 _ _ ?_
     refine wp_seq_k ?_; intro K180 hK180
     refine wp_region_lit ?_
     revert aa
     refine qN hR ?_
     intro aa hS
     refine wpList_nil ?_
     refine hK180 _ _ ?_
     refine wp_ret ?_
     repeat first | with_reducible refine thenR ?_ | with_reducible refine blockR ?_ | with_reducible refine scopeR ?_
     refine ret1 (fn := Try.f77) (e := .ret) (.inl rfl) Try.results77 hS hR ⟨_, (.tmp rfl), ?_⟩
     refine ⟨by rw [outE, if_neg (by omega), Int.toNat_natCast, if_pos hn], ?_⟩
     rw [hPo] at hR
     exact Sep.linksAI (TL := 142) (TN := 160) (TI := 3) (b := b) (hW.out hi hx) (by rw [outS, if_neg (by omega), Int.toNat_natCast, hof]) (hR.sub exQ)
  ·
   revert aa
   refine qM hR ?_
   refine qA hR rfl (fun _ hS => Yld.nilCheck hS rfl) ?_
   refine qA hR rfl (fun _ hS => Yld.fieldAddr hS rfl 0 Try.underlying142 rfl rfl info140 (by decide)) ?_
   intro aa hS
   refine sA hS hR (Yld.load1 hS rfl Try.underlying140 rfl rdQ) (by decide) ?_; clear hS; intro aa hS
   revert aa
   refine qM hR ?_
   refine qA hR rfl (fun _ hS => ihQ 3 (x) Try.underlying140 info160) ?_
   refine qA hR rfl (fun _ hS => Yld.fieldAddr hS rfl 2 Try.underlying160 rfl rfl info3 (by decide)) ?_
   refine qA hR rfl (fun _ hS => Yld.load1 hS rfl Try.underlying3 rfl (Rd.rec (k := x) (j := 2) (v := .int .i64 (R x)) (xs := nods (S + n) P R) pkQ (by intro _; rfl) (by rw [nods_len]; omega) (by rw [nods_get]; rfl))) ?_
   refine qA hR rfl (fun _ hS => Yld.lss hS rfl rfl) ?_
   refine qB (t := 24) true rfl (by exact decide_eq_true (by have h := (hW.noR hxS hn).1; omega)) ?_
   refine qN hR ?_
   intro aa hS
   refine wpList_nil ?_
   refine hK164 _ _ ?_
   refine condT hS rfl ?_
   refine wp_seq_k ?_; intro K181 hK181
   refine wp_region_lit ?_
   revert aa
   refine qN hR ?_
   intro aa hS
   refine wpList_nil ?_
   refine hK181 _ _ ?_
   refine wp_ret ?_
   repeat first | with_reducible refine thenR ?_ | with_reducible refine blockR ?_ | with_reducible refine scopeR ?_
   refine ret1 (fn := Try.f77) (e := .ret) (.inl rfl) Try.results77 hS hR ⟨_, (.tmp rfl), ?_⟩
   refine ⟨by rw [outE, if_neg (by omega), Int.toNat_natCast, if_neg hn], ?_⟩
   exact Sep.linksAI (TL := 142) (TN := 160) (TI := 3) (b := b) hW (by rw [outS, if_neg (by omega), Int.toNat_natCast, (hW.noR hxS hn).2.1]) (hR.sub exQ)
end Go.Proofs.Ytkhdejjompbklaa.Sx
