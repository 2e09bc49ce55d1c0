/-
 
-/
import Derived.Test.YthjfclljjcpikaaLkA
namespace Go.Proofs.Ythjfclljjcpikaa.Sx
open Go
set_option linter.unusedVariables false
set_option linter.unusedSimpArgs false



set_option maxRecDepth 20000 in
theorem LOf_ok {S n b : Nat} {L : Nat → List Nat} {l : List HP} {w : World} {x : Int} (hR : Sep (linksA 123 139 3 b S n L :: l) w) : CallR Try.prog 43 [.pointer (some ⟨b, 0, none⟩), .int .i64 x] w (fun v w' => v = optV (ofS S n L x) ∧ Sep (linksA 123 139 3 b S n L :: l) w') := by
 refine enter Try.func43 rfl Try.ntmps43 (Nat.le_of_ble_eq_true rfl) ?_; intro aa hS
 obtain ⟨P, R, rg, nm, sz, r1, c1, r2, c2, r3, c3, r4, c4, hW, hR⟩ := hR.linksAE
 have hs1 := hW.s1
 have hs2 := hW.s2
 have hn1 := hW.n1
 have hn2 := hW.n2
 obtain ⟨hb1, hb2, hb3, hb4⟩ := hR.linksBk hn1
 refine wp_seq_k ?_; intro K59 hK59
 refine wp_region_lit ?_
 revert aa
 refine qN hR ?_
 refine qN hR ?_
 intro aa hS
 refine wpList_nil ?_
 refine hK59 _ _ ?_
 refine wp_seq_k ?_; intro K60 hK60
 refine wp_seq_k ?_; intro K61 hK61
 refine wp_region_lit ?_
 revert aa
 refine qM hR ?_
 refine qM hR ?_
 intro aa hS
 refine sB (Bcall hS rfl Try.call64 (lslot_ok (hR.pk (r := blk b _ _) pkQ) (by omega)) (by decide) ?_); clear hS; intro aa ww vv hS hp
 clear hR
 obtain ⟨rfl, hR⟩ := hp
 revert aa
 refine qA hR rfl (fun _ hS => Yld.not hS rfl) ?_
 refine qM hR ?_
 intro aa hS
 refine hS.splitB (t := 10) rfl ?_ ?_ <;> clear hS
 ·
  intro hg hS
  revert aa
  refine qZ ?_
  refine qZ ?_
  refine qZ ?_
  refine qZ ?_
  refine qZ ?_
  refine qZ ?_
  refine qZ ?_
  refine qZ ?_
  refine qZ ?_
  refine qA hR rfl (fun _ hS => Yld.pickT hS rfl rfl) ?_
  intro aa hS
  refine wpList_nil ?_
  refine hK61 _ _ ?_
  refine condT hS rfl ?_
  refine wp_seq_k ?_; intro K62 hK62
  refine wp_region_lit ?_
  revert aa
  refine qN hR ?_
  refine qN hR ?_
  intro aa hS
  refine wpList_nil ?_
  refine hK62 _ _ ?_
  refine wp_ret ?_
  repeat first | with_reducible refine thenR ?_ | with_reducible refine blockR ?_ | with_reducible refine scopeR ?_
  refine retN (fn := Try.f43) (e := .ret) (.inl rfl) Try.results43 hS hR ⟨_, .cons (.tmp rfl) (.cons (.tmp rfl) (.nil)), rfl, ?_⟩
  refine ⟨?_, Sep.linksAI (TL := 123) (TN := 139) (TI := 3) (b := b) hW rfl (hR.sub exQ)⟩
  first | (rw [ofS, if_neg (by omega)]; (try rfl); done) | (rw [ofS, if_pos (by omega), Int.toNat_natCast, hc2]; (try rfl); done)
 ·
  intro hg hS
  obtain ⟨x, rfl⟩ : ∃ z9 : Nat, x = z9 := ⟨(x).toNat, by omega⟩
  revert aa
  refine qMg hR ?_
  refine qAg hR rfl rfl rfl (fun _ hS => Yld.nilCheck hS rfl) ?_
  refine qAg hR rfl rfl rfl (fun _ hS => Yld.fieldAddr hS rfl 0 Try.underlying123 rfl rfl info121 (by decide)) ?_
  refine qAg hR rfl rfl rfl (fun _ hS => Yld.load1 hS rfl Try.underlying121 rfl rdQ) ?_
  refine qMg hR ?_
  refine qAg hR rfl rfl rfl (fun _ hS => ihQ 3 (x) Try.underlying121 info139) ?_
  refine qAg hR rfl rfl rfl (fun _ hS => Yld.fieldAddr hS rfl 2 Try.underlying139 rfl rfl info3 (by decide)) ?_
  refine qAg hR rfl rfl rfl (fun _ hS => Yld.load1 hS rfl Try.underlying3 rfl (Rd.rec (k := x) (j := 2) (v := .int .i64 (R x)) (xs := nods (S + n) P R) pkQ (by intro _; rfl) (by rw [nods_len]; omega) (by rw [nods_get]; rfl))) ?_
  refine qAg hR rfl rfl rfl (fun _ hS => Yld.lss hS rfl rfl) ?_
  refine qA hR rfl (fun _ hS => Yld.pickF hS rfl rfl) ?_
  intro aa hS
  refine wpList_nil ?_
  refine hK61 _ _ ?_
  refine hS.splitB (t := 20) rfl ?_ ?_ <;> clear hS
  ·
   intro hg hS
   rcases hW.cases (x := x) (by omega) with ⟨hc1, hc2, hc3⟩ | ⟨i, hi, hx, hc1, hc2⟩; rotate_left; · exfalso; omega
   refine condT hS rfl ?_
   refine wp_seq_k ?_; intro K63 hK63
   refine wp_region_lit ?_
   revert aa
   refine qN hR ?_
   refine qN hR ?_
   intro aa hS
   refine wpList_nil ?_
   refine hK63 _ _ ?_
   refine wp_ret ?_
   repeat first | with_reducible refine thenR ?_ | with_reducible refine blockR ?_ | with_reducible refine scopeR ?_
   refine retN (fn := Try.f43) (e := .ret) (.inl rfl) Try.results43 hS hR ⟨_, .cons (.tmp rfl) (.cons (.tmp rfl) (.nil)), rfl, ?_⟩
   refine ⟨?_, Sep.linksAI (TL := 123) (TN := 139) (TI := 3) (b := b) hW rfl (hR.sub exQ)⟩
   first | (rw [ofS, if_neg (by omega)]; (try rfl); done) | (rw [ofS, if_pos (by omega), Int.toNat_natCast, hc2]; (try rfl); done)
  ·
   intro hg hS
   rcases hW.cases (x := x) (by omega) with ⟨hc1, hc2, hc3⟩ | ⟨i, hi, hx, hc1, hc2⟩; · exfalso; omega
   have hri := hW.hrg i hi
   have hnm := hW.hnm i hi
   refine condF hS rfl ?_
   refine wp_skip ?_
   refine hK60 _ _ ?_
   refine wp_seq_k ?_; intro K64 hK64
   refine drawn (by kernel_rfl) hR Ex.refl ?_; clear hR; intro ww hR hR0
   revert aa
   refine eA 0 rfl (by kernel_rfl) (fun _ _ _ h => h) hR0 rfl (fun _ hS => Yld.move hS rfl) ?_
   refine eA 1 rfl (by kernel_rfl) (fun _ _ _ h => h) hR0 rfl (fun _ hS => Yld.nilCheck hS rfl) ?_
   refine eA 2 rfl (by kernel_rfl) (fun _ _ _ h => h) hR0 rfl (fun _ hS => Yld.fieldAddr hS rfl 3 Try.underlying123 rfl rfl info40 (by decide)) ?_
   refine eA 3 rfl (by kernel_rfl) (fun _ _ _ h => h) hR0 rfl (fun _ hS => Yld.load1 hS rfl Try.underlying40 rfl rdQ) ?_
   refine eA 4 rfl (by kernel_rfl) (fun _ _ _ h => h) hR0 rfl (fun _ hS => Yld.move hS rfl) ?_
   refine eA 5 rfl (by kernel_rfl) (fun _ _ _ h => h) hR0 rfl (fun _ hS => Yld.nilCheck hS rfl) ?_
   refine eA 6 rfl (by kernel_rfl) (fun _ _ _ h => h) hR0 rfl (fun _ hS => Yld.fieldAddr hS rfl 0 Try.underlying123 rfl rfl info121 (by decide)) ?_
   refine eA 7 rfl (by kernel_rfl) (fun _ _ _ h => h) hR0 rfl (fun _ hS => Yld.load1 hS rfl Try.underlying121 rfl rdQ) ?_
   refine eA 8 rfl (by kernel_rfl) (fun _ _ _ h => h) hR0 rfl (fun _ hS => Yld.move hS rfl) ?_
   refine eA 9 rfl (by kernel_rfl) (fun _ _ _ h => h) hR0 rfl (fun _ hS => ihQ 3 (x) Try.underlying121 info139) ?_
   refine eA 10 rfl (by kernel_rfl) (fun _ _ _ h => h) hR0 rfl (fun _ hS => Yld.fieldAddr hS rfl 2 Try.underlying139 rfl rfl info3 (by decide)) ?_
   refine eA 11 rfl (by kernel_rfl) (fun _ _ _ h => h) hR0 rfl (fun _ hS => Yld.load1 hS rfl Try.underlying3 rfl (Rd.rec (k := x) (j := 2) (v := .int .i64 (R x)) (xs := nods (S + n) P R) pkQ (by intro _; rfl) (by rw [nods_len]; omega) (by rw [nods_get]; rfl))) ?_
   intro aa hS
   replace hS := hS.say (t := 32) (.int .i64 ((rg i : Nat) : Int)) rfl (by rw [hc1])
   revert aa
   refine eA 12 rfl (by kernel_rfl) (fun _ _ _ h => h) hR0 rfl (fun _ hS => ihQ 1 (rg i) Try.underlying40 info3) ?_
   refine eA 13 rfl (by kernel_rfl) (fun _ _ _ h => h) hR0 rfl (fun _ hS => Yld.load1 hS rfl Try.underlying3 rfl (Rd.rec0 (k := (rg i)) (v := .int .i64 ((nm (rg i) : Nat) : Int)) (xs := tabN n nm) pkQ (by intro _; rfl) (by rw [tabN_len]; omega) (by rw [tabN_get]; rfl))) ?_
   intro aa hS
   rw [hnm] at hS
   revert aa
   refine eA 14 rfl (by kernel_rfl) (fun _ _ _ h => h) hR0 rfl (fun _ hS => Yld.assign hS rfl) ?_
   refine eA 15 rfl (by kernel_rfl) (fun _ _ _ h => h) hR0 rfl (fun _ hS => Yld.assign hS rfl) ?_
   intro aa hS
   refine wpAnyH_done (by kernel_rfl) ?_ _; clear hR0
   refine hK64 _ _ ?_
   refine wp_ret ?_
   repeat first | with_reducible refine thenR ?_ | with_reducible refine blockR ?_ | with_reducible refine scopeR ?_
   refine retN (fn := Try.f43) (e := .ret) (.inl rfl) Try.results43 hS hR ⟨_, .cons (.tmp rfl) (.cons (.tmp rfl) (.nil)), rfl, ?_⟩
   refine ⟨?_, Sep.linksAI (TL := 123) (TN := 139) (TI := 3) (b := b) hW rfl (hR.sub exQ)⟩
   first | (rw [ofS, if_neg (by omega)]; (try rfl); done) | (rw [ofS, if_pos (by omega), Int.toNat_natCast, hc2]; (try rfl); done)
set_option maxRecDepth 20000 in
theorem LLen_ok {S n b : Nat} {L : Nat → List Nat} {l : List HP} {w : World} {x : Int} (hR : Sep (linksA 123 139 3 b S n L :: l) w) : CallR Try.prog 34 [.pointer (some ⟨b, 0, none⟩), .int .i64 x] w (fun v w' => v = .int .i64 ((allS n L x).length : Int) ∧ Sep (linksA 123 139 3 b S n L :: l) w') := by
 refine enter Try.func34 rfl Try.ntmps34 (Nat.le_of_ble_eq_true rfl) ?_; intro aa hS
 obtain ⟨P, R, rg, nm, sz, r1, c1, r2, c2, r3, c3, r4, c4, hW, hR⟩ := hR.linksAE
 have hs1 := hW.s1
 have hs2 := hW.s2
 have hn1 := hW.n1
 have hn2 := hW.n2
 obtain ⟨hb1, hb2, hb3, hb4⟩ := hR.linksBk hn1
 refine wp_seq_k ?_; intro K65 hK65
 refine wp_region_lit ?_
 revert aa
 refine qN hR ?_
 intro aa hS
 refine wpList_nil ?_
 refine hK65 _ _ ?_
 refine wp_seq_k ?_; intro K66 hK66
 refine wp_seq_k ?_; intro K67 hK67
 refine wp_region_lit ?_
 revert aa
 refine qM hR ?_
 refine qM hR ?_
 intro aa hS
 refine sB (Bcall hS rfl Try.call59 (llist_ok (hR.pk (r := blk b _ _) pkQ) (by omega)) (by decide) ?_); clear hS; intro aa ww vv hS hp
 clear hR
 obtain ⟨rfl, hR⟩ := hp
 refine sA hS hR (Yld.not hS rfl) (by decide) ?_; clear hS; intro aa hS
 refine wpList_nil ?_
 refine hK67 _ _ ?_
 refine hS.splitB (t := 8) rfl ?_ ?_ <;> clear hS
 ·
  intro hg hS
  refine condT hS rfl ?_
  refine wp_seq_k ?_; intro K68 hK68
  refine wp_region_lit ?_
  revert aa
  refine qN hR ?_
  intro aa hS
  refine wpList_nil ?_
  refine hK68 _ _ ?_
  refine wp_ret ?_
  repeat first | with_reducible refine thenR ?_ | with_reducible refine blockR ?_ | with_reducible refine scopeR ?_
  refine ret1 (fn := Try.f34) (e := .ret) (.inl rfl) Try.results34 hS hR ⟨_, (.tmp rfl), ?_⟩
  refine ⟨?_, Sep.linksAI (TL := 123) (TN := 139) (TI := 3) (b := b) hW rfl (hR.sub exQ)⟩
  first | (rw [allS, if_neg (by omega)]; rfl) | (rw [allS, if_pos (by omega), Int.toNat_natCast]; (try rfl); done)
 ·
  intro hg hS
  obtain ⟨x, rfl⟩ : ∃ z9 : Nat, x = z9 := ⟨(x).toNat, by omega⟩
  have hxn : x < n := by omega
  have hri := hW.hrg x hxn
  refine condF hS rfl ?_
  refine wp_skip ?_
  refine hK66 _ _ ?_
  refine wp_seq_k ?_; intro K69 hK69
  refine drawn (by kernel_rfl) hR Ex.refl ?_; clear hR; intro ww hR hR0
  revert aa
  refine eA 0 rfl (by kernel_rfl) (fun _ _ _ h => h) hR0 rfl (fun _ hS => Yld.move hS rfl) ?_
  refine eA 1 rfl (by kernel_rfl) (fun _ _ _ h => h) hR0 rfl (fun _ hS => Yld.nilCheck hS rfl) ?_
  refine eA 2 rfl (by kernel_rfl) (fun _ _ _ h => h) hR0 rfl (fun _ hS => Yld.fieldAddr hS rfl 4 Try.underlying123 rfl rfl info40 (by decide)) ?_
  refine eA 3 rfl (by kernel_rfl) (fun _ _ _ h => h) hR0 rfl (fun _ hS => Yld.load1 hS rfl Try.underlying40 rfl rdQ) ?_
  refine eA 4 rfl (by kernel_rfl) (fun _ _ _ h => h) hR0 rfl (fun _ hS => Yld.move hS rfl) ?_
  refine eA 5 rfl (by kernel_rfl) (fun _ _ _ h => h) hR0 rfl (fun _ hS => Yld.nilCheck hS rfl) ?_
  refine eA 6 rfl (by kernel_rfl) (fun _ _ _ h => h) hR0 rfl (fun _ hS => Yld.fieldAddr hS rfl 2 Try.underlying123 rfl rfl info40 (by decide)) ?_
  refine eA 7 rfl (by kernel_rfl) (fun _ _ _ h => h) hR0 rfl (fun _ hS => Yld.load1 hS rfl Try.underlying40 rfl rdQ) ?_
  refine eA 8 rfl (by kernel_rfl) (fun _ _ _ h => h) hR0 rfl (fun _ hS => Yld.move hS rfl) ?_
  refine eA 9 rfl (by kernel_rfl) (fun _ _ _ h => h) hR0 rfl (fun _ hS => ihQ 1 (x) Try.underlying40 info3) ?_
  refine eA 10 rfl (by kernel_rfl) (fun _ _ _ h => h) hR0 rfl (fun _ hS => Yld.load1 hS rfl Try.underlying3 rfl (Rd.rec0 (k := x) (v := .int .i64 ((rg x : Nat) : Int)) (xs := tabN n rg) pkQ (by intro _; rfl) (by rw [tabN_len]; omega) (by rw [tabN_get]; rfl))) ?_
  refine eA 11 rfl (by kernel_rfl) (fun _ _ _ h => h) hR0 rfl (fun _ hS => ihQ 1 (rg x) Try.underlying40 info3) ?_
  refine eA 12 rfl (by kernel_rfl) (fun _ _ _ h => h) hR0 rfl (fun _ hS => Yld.load1 hS rfl Try.underlying3 rfl (Rd.rec0 (k := (rg x)) (v := .int .i64 ((sz (rg x) : Nat) : Int)) (xs := tabN n sz) pkQ (by intro _; rfl) (by rw [tabN_len]; omega) (by rw [tabN_get]; rfl))) ?_
  intro aa hS
  rw [hW.hsz x hxn] at hS
  revert aa
  refine eA 13 rfl (by kernel_rfl) (fun _ _ _ h => h) hR0 rfl (fun _ hS => Yld.assign hS rfl) ?_
  intro aa hS
  refine wpAnyH_done (by kernel_rfl) ?_ _; clear hR0
  refine hK69 _ _ ?_
  refine wp_ret ?_
  repeat first | with_reducible refine thenR ?_ | with_reducible refine blockR ?_ | with_reducible refine scopeR ?_
  refine ret1 (fn := Try.f34) (e := .ret) (.inl rfl) Try.results34 hS hR ⟨_, (.tmp rfl), ?_⟩
  refine ⟨?_, Sep.linksAI (TL := 123) (TN := 139) (TI := 3) (b := b) hW rfl (hR.sub exQ)⟩
  first | (rw [allS, if_neg (by omega)]; rfl) | (rw [allS, if_pos (by omega), Int.toNat_natCast]; (try rfl); done)
end Go.Proofs.Ythjfclljjcpikaa.Sx
