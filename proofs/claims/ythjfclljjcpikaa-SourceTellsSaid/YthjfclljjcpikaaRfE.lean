/-
 
-/
import Derived.Test.YthjfclljjcpikaaRfD
import Derived.Test.YthjfclljjcpikaaPa
namespace Go.Proofs.Ythjfclljjcpikaa.Sx
open Go
set_option linter.unusedVariables false
set_option linter.unusedSimpArgs false



theorem rows31 {W : World} {q : Option Addr} {n c : Nat} {xs : List (List Int)} {l : List HP} (A1 : ArgS W [.u8, .u32, .i64] q n c xs) : ∀ k, k < n → ∃ ba ia s0 s1 s2, q = some ⟨ba, ia, none⟩ ∧ 0 ≤ s0 ∧ s0 ≤ 255 ∧ 0 ≤ s1 ∧ s1 ≤ 4294967295 ∧ Rds (old W :: l) ba (ia + k * 3) [.int .u8 s0, .int .u32 s1, .int .i64 s2] := fun k hk => by
 obtain ⟨ba, ia, ns, hq, hx, hl, hw, hc⟩ := A1.at (k := k) hk
 obtain ⟨s0, s1, s2, rfl⟩ := len3 hl
 exact ⟨ba, ia, s0, s1, s2, hq, hw.1.1, hw.1.2, hw.2.1.1, hw.2.1.2, Rds.at (Rds.old .here hc) rfl⟩
set_option maxHeartbeats 1000000 in
set_option maxRecDepth 20000 in
theorem SourceTells_ok {W : World} {q : Option Addr} {n c : Nat} {m i : Int} {xs : List (List Int)} {l : List HP} {w : World} (A1 : ArgS W [.u8, .u32, .i64] q n c xs) (hR : Sep (old W :: l) w) : CallR Try.prog 4 [.int .i64 m, .int .i64 i, .slice q n c] w (fun v w' => v = .bool true ∧ Sep (old W :: l) w') := by
 refine enter Try.func4 rfl Try.ntmps4 (Nat.le_of_ble_eq_true rfl) ?_; intro aa hS
 have hcap := A1.cap
 refine wp_seq_k ?_; intro K1065 hK1065
 refine wp_region_lit ?_
 revert aa
 refine qN hR ?_
 intro aa hS
 refine wpList_nil ?_
 refine hK1065 _ _ ?_
 refine wp_seq_k ?_; intro K1066 hK1066
 refine wp_seq_k ?_; intro K1067 hK1067
 refine wp_region_lit ?_
 revert aa
 refine qM hR ?_
 refine qA hR rfl (fun _ hS => Yld.len hS rfl Try.underlying22) ?_
 refine qA hR rfl (fun _ hS => Yld.gtr hS rfl rfl) ?_
 refine qM hR ?_
 intro aa hS
 refine hS.splitB (t := 10) rfl ?_ ?_ <;> clear hS
 ·
  intro hg hS
  revert aa
  refine qZ ?_
  refine qZ ?_
  refine qZ ?_
  refine qU ?_
  refine qU ?_
  refine qZ ?_
  refine qA hR rfl (fun _ hS => Yld.pickT hS rfl rfl) ?_
  intro aa hS
  refine wpList_nil ?_
  refine hK1067 _ _ ?_
  refine condT hS rfl ?_
  refine wp_seq_k ?_; intro K1068 hK1068
  refine wp_region_lit ?_
  refine sB (Bcall hS rfl Try.call10 (awake31_ok hR) (by decide) ?_); clear hS; intro aa ww vv hS hp
  clear hR
  obtain ⟨rfl, hR⟩ := hp
  revert aa
  refine qN hR ?_
  intro aa hS
  refine wpList_nil ?_
  refine hK1068 _ _ ?_
  refine wp_ret ?_
  repeat first | with_reducible refine thenR ?_ | with_reducible refine blockR ?_ | with_reducible refine scopeR ?_
  refine ret1 (fn := Try.f4) (e := .ret) (.inl rfl) Try.results4 hS hR ⟨_, (.tmp rfl), ?_⟩
  exact ⟨rfl, (hR.sub exQ)⟩
 ·
  intro hg hS
  revert aa
  refine qMg hR ?_
  refine qAg hR rfl rfl rfl (fun _ hS => Yld.gtr hS rfl rfl) ?_
  refine qMg hR ?_
  intro aa hS
  refine hS.splitB (t := 13) rfl ?_ ?_ <;> clear hS
  ·
   intro hg hS
   revert aa
   refine qMg hR ?_
   refine qAg hR rfl rfl rfl (fun _ hS => Yld.leq hS rfl rfl) ?_
   refine qAg hR rfl rfl rfl (fun _ hS => Yld.pickT hS rfl rfl) ?_
   refine qA hR rfl (fun _ hS => Yld.pickF hS rfl rfl) ?_
   intro aa hS
   refine wpList_nil ?_
   refine hK1067 _ _ ?_
   refine hS.splitB (t := 17) rfl ?_ ?_ <;> clear hS
   ·
    intro hg hS
    refine condT hS rfl ?_
    refine wp_seq_k ?_; intro K1069 hK1069
    refine wp_region_lit ?_
    refine sB (Bcall hS rfl Try.call10 (awake31_ok hR) (by decide) ?_); clear hS; intro aa ww vv hS hp
    clear hR
    obtain ⟨rfl, hR⟩ := hp
    revert aa
    refine qN hR ?_
    intro aa hS
    refine wpList_nil ?_
    refine hK1069 _ _ ?_
    refine wp_ret ?_
    repeat first | with_reducible refine thenR ?_ | with_reducible refine blockR ?_ | with_reducible refine scopeR ?_
    refine ret1 (fn := Try.f4) (e := .ret) (.inl rfl) Try.results4 hS hR ⟨_, (.tmp rfl), ?_⟩
    exact ⟨rfl, (hR.sub exQ)⟩
   ·
    intro hg hS
    refine condF hS rfl ?_
    refine wp_skip ?_
    refine hK1066 _ _ ?_
    refine wp_seq_k ?_; intro K1070 hK1070
    refine wp_region_lit ?_
    revert aa
    refine qM hR ?_
    refine qM hR ?_
    refine qM hR ?_
    intro aa hS
    refine sB (Bcall hS rfl Try.call15 (tells31_ok (m := m) (i := i) (rows31 A1) (by omega) hR) (by decide) ?_); clear hS; intro aa ww vv hS hp
    clear hR
    obtain ⟨rfl, hR⟩ := hp
    revert aa
    refine qB (t := 22) true rfl (by rfl) ?_
    refine qM hR ?_
    intro aa hS
    refine sBg hS rfl rfl (Bcall hS rfl Try.call10 (awake31_ok hR) (by decide) ?_); clear hS; intro aa ww vv hS hp
    clear hR
    obtain ⟨rfl, hR⟩ := hp
    revert aa
    refine qA hR rfl (fun _ hS => Yld.pickT hS rfl rfl) ?_
    refine qN hR ?_
    intro aa hS
    refine wpList_nil ?_
    refine hK1070 _ _ ?_
    refine wp_ret ?_
    repeat first | with_reducible refine thenR ?_ | with_reducible refine blockR ?_ | with_reducible refine scopeR ?_
    refine ret1 (fn := Try.f4) (e := .ret) (.inl rfl) Try.results4 hS hR ⟨_, (.tmp rfl), ?_⟩
    exact ⟨rfl, (hR.sub exQ)⟩
  ·
   intro hg hS
   revert aa
   refine qZ ?_
   refine qZ ?_
   refine qAg hR rfl rfl rfl (fun _ hS => Yld.pickF hS rfl rfl) ?_
   refine qA hR rfl (fun _ hS => Yld.pickF hS rfl rfl) ?_
   intro aa hS
   refine wpList_nil ?_
   refine hK1067 _ _ ?_
   refine condF hS rfl ?_
   refine wp_skip ?_
   refine hK1066 _ _ ?_
   refine wp_seq_k ?_; intro K1071 hK1071
   refine wp_region_lit ?_
   revert aa
   refine qM hR ?_
   refine qM hR ?_
   refine qM hR ?_
   intro aa hS
   refine sB (Bcall hS rfl Try.call15 (tells31_ok (m := m) (i := i) (rows31 A1) (by omega) hR) (by decide) ?_); clear hS; intro aa ww vv hS hp
   clear hR
   obtain ⟨rfl, hR⟩ := hp
   revert aa
   refine qB (t := 22) true rfl (by rfl) ?_
   refine qM hR ?_
   intro aa hS
   refine sBg hS rfl rfl (Bcall hS rfl Try.call10 (awake31_ok hR) (by decide) ?_); clear hS; intro aa ww vv hS hp
   clear hR
   obtain ⟨rfl, hR⟩ := hp
   revert aa
   refine qA hR rfl (fun _ hS => Yld.pickT hS rfl rfl) ?_
   refine qN hR ?_
   intro aa hS
   refine wpList_nil ?_
   refine hK1071 _ _ ?_
   refine wp_ret ?_
   repeat first | with_reducible refine thenR ?_ | with_reducible refine blockR ?_ | with_reducible refine scopeR ?_
   refine ret1 (fn := Try.f4) (e := .ret) (.inl rfl) Try.results4 hS hR ⟨_, (.tmp rfl), ?_⟩
   exact ⟨rfl, (hR.sub exQ)⟩
end Go.Proofs.Ythjfclljjcpikaa.Sx
