/-
 
-/
import Derived.Test.YthhndmlfgjcgpaaYRwF
import Derived.Test.YthhndmlfgjcgpaaYPa
namespace Go.Proofs.Ythhndmlfgjcgpaa.Sx
open Go
set_option maxRecDepth 20000
set_option linter.unusedVariables false
set_option linter.unusedSimpArgs false
theorem info67 : Try.prog.info? 67 = some Try.t67 := by kernel_rfl
set_option maxHeartbeats 1000000 in
theorem TableTells_no {W : World} {q : Option Addr} {n c : Nat} {m i : Int} {xs : List (List Int)} {l : List HP} {w : World} (A1 : ArgS W [.u8, .u8, .u32, .u32, .u16, .u16, .i64, .i64, .i64] q n c xs) (hR : Sep (old W :: l) w) (hx : ¬ (1 ≤ m ∧ m ≤ 4096 ∧ 1 ≤ i ∧ i ≤ 8)) : CallR Try.prog 8 [.int .i64 m, .int .i64 i, .slice q n c] w (fun v w' => v = .bool true ∧ Sep (old W :: l) w') := by
 refine enter Try.func8 rfl Try.ntmps8 (Nat.le_of_ble_eq_true rfl) ?_; intro aa hS
 refine wp_seq_k ?_; intro K1172 hK1172
 refine wp_region_lit ?_
 revert aa
 refine qN hR ?_
 intro aa hS
 refine wpList_nil ?_
 refine hK1172 _ _ ?_
 refine wp_seq_k ?_; intro K1173 hK1173
 refine wp_region_lit ?_
 revert aa
 refine qM hR ?_
 refine qM hR ?_
 intro aa hS
 refine sB (Bcall hS rfl Try.call17 (TbNew_bad (m := m) (i := i) hR hx) (by decide) ?_); clear hS; intro aa ww vv hS hp
 clear hR
 obtain ⟨rfl, hR⟩ := hp
 revert aa
 refine qM hR ?_
 refine qX hR ?_
 refine qX hR ?_
 refine qN hR ?_
 refine qN hR ?_
 intro aa hS
 refine wpList_nil ?_
 refine hK1173 _ _ ?_
 refine wp_seq_k ?_; intro K1174 hK1174
 refine wp_seq_k ?_; intro K1175 hK1175
 refine wp_region_lit ?_
 revert aa
 refine qM hR ?_
 refine qA hR rfl (fun _ hS => Yld.eql hS rfl rfl) ?_
 refine qB (t := 21) false rfl (by simp) ?_
 refine qM hR ?_
 refine qM hR ?_
 intro aa hS
 refine sB (Bcall hS rfl Try.call25 (RRight6_ok (m := m) (i := i) hR) (by decide) ?_); clear hS; intro aa ww vv hS hp
 clear hR
 obtain ⟨rfl, hR⟩ := hp
 revert aa
 refine qA hR rfl (fun _ hS => Yld.neqB hS rfl rfl Try.underlying4) ?_
 refine qB (t := 25) false rfl (by rw [decide_eq_false hx]; rfl) ?_
 refine qM hR ?_
 refine qMg hR ?_
 refine qAg hR rfl rfl rfl (fun _ hS => Yld.neq hS rfl rfl) ?_
 refine qB (t := 28) true rfl (by simp) ?_
 refine qMg hR ?_
 refine qMg hR ?_
 refine qAg hR rfl rfl rfl (fun _ hS => Yld.neq hS rfl rfl) ?_
 refine qB (t := 31) false rfl (by simp) ?_
 refine qMg hR ?_
 refine qMg hR ?_
 refine qAg hR rfl rfl rfl (fun _ hS => Yld.neqNil hS rfl rfl Try.underlying23) ?_
 refine qB (t := 34) false rfl (by rfl) ?_
 refine qAg hR rfl rfl rfl (fun _ hS => Yld.pickF hS rfl rfl) ?_
 refine qAg hR rfl rfl rfl (fun _ hS => Yld.pickT hS rfl rfl) ?_
 refine qA hR rfl (fun _ hS => Yld.pickF hS rfl rfl) ?_
 intro aa hS
 refine wpList_nil ?_
 refine hK1175 _ _ ?_
 refine condF hS rfl ?_
 refine wp_skip ?_
 refine hK1174 _ _ ?_
 refine wp_seq_k ?_; intro K1176 hK1176
 refine wp_seq_k ?_; intro K1177 hK1177
 refine wp_region_lit ?_
 revert aa
 refine qM hR ?_
 refine qA hR rfl (fun _ hS => Yld.neq hS rfl rfl) ?_
 refine qB (t := 39) true rfl (by simp) ?_
 refine qM hR ?_
 refine qZ ?_
 refine qZ ?_
 refine qA hR rfl (fun _ hS => Yld.pickT hS rfl rfl) ?_
 refine qM hR ?_
 refine qZ ?_
 refine qZ ?_
 refine qZ ?_
 refine qA hR rfl (fun _ hS => Yld.pickT hS rfl rfl) ?_
 intro aa hS
 refine wpList_nil ?_
 refine hK1177 _ _ ?_
 refine condT hS rfl ?_
 refine wp_seq_k ?_; intro K1178 hK1178
 refine wp_region_lit ?_
 refine sB (Bcall hS rfl Try.call11 (awake16_ok hR) (by decide) ?_); clear hS; intro aa ww vv hS hp
 clear hR
 obtain ⟨rfl, hR⟩ := hp
 revert aa
 refine qN hR ?_
 intro aa hS
 refine wpList_nil ?_
 refine hK1178 _ _ ?_
 refine wp_ret ?_
 repeat first | with_reducible refine thenR ?_ | with_reducible refine blockR ?_ | with_reducible refine scopeR ?_
 refine ret1 (fn := Try.f8) (e := .ret) (.inl rfl) Try.results8 hS hR ⟨_, (.tmp rfl), ?_⟩
 exact ⟨rfl, (hR.sub exQ)⟩
set_option maxHeartbeats 4000000 in
theorem TableTells_yes {W : World} {q : Option Addr} {n c : Nat} {S p : Nat} {xs : List (List Int)} {l : List HP} {w : World} (A1 : ArgS W [.u8, .u8, .u32, .u32, .u16, .u16, .i64, .i64, .i64] q n c xs) (hR : Sep (old W :: l) w) (h1 : 1 ≤ S) (h2 : S ≤ 4096) (h3 : 1 ≤ p) (h4 : p ≤ 8) : CallR Try.prog 8 [.int .i64 (S : Int), .int .i64 (p : Int), .slice q n c] w (fun v w' => v = .bool true ∧ Sep (old W :: l) w') := by
 refine enter Try.func8 rfl Try.ntmps8 (Nat.le_of_ble_eq_true rfl) ?_; intro aa hS
 have hcap := A1.cap
 have hx : 1 ≤ (S : Int) ∧ (S : Int) ≤ 4096 ∧ 1 ≤ (p : Int) ∧ (p : Int) ≤ 8 := by omega
 refine wp_seq_k ?_; intro K1179 hK1179
 refine wp_region_lit ?_
 revert aa
 refine qN hR ?_
 intro aa hS
 refine wpList_nil ?_
 refine hK1179 _ _ ?_
 refine wp_seq_k ?_; intro K1180 hK1180
 refine wp_region_lit ?_
 revert aa
 refine qM hR ?_
 refine qM hR ?_
 intro aa hS
 refine sB (Bcall hS rfl Try.call17 (TbNew_ok (S := S) (n := p) hR h1 h2 h3 h4) (by decide) ?_); clear hS; intro aa ww vv hS hp
 clear hR
 obtain ⟨b, rfl, hR⟩ := hp
 revert aa
 refine qM hR ?_
 refine qX hR ?_
 refine qX hR ?_
 refine qN hR ?_
 refine qN hR ?_
 intro aa hS
 refine wpList_nil ?_
 refine hK1180 _ _ ?_
 refine wp_seq_k ?_; intro K1181 hK1181
 refine wp_seq_k ?_; intro K1182 hK1182
 refine wp_region_lit ?_
 revert aa
 refine qM hR ?_
 refine qA hR rfl (fun _ hS => Yld.eql hS rfl rfl) ?_
 refine qB (t := 21) true rfl (by simp) ?_
 refine qM hR ?_
 refine qM hR ?_
 intro aa hS
 refine sB (Bcall hS rfl Try.call25 (RRight6_ok (m := (S : Int)) (i := (p : Int)) hR) (by decide) ?_); clear hS; intro aa ww vv hS hp
 clear hR
 obtain ⟨rfl, hR⟩ := hp
 revert aa
 refine qA hR rfl (fun _ hS => Yld.neqB hS rfl rfl Try.underlying4) ?_
 refine qB (t := 25) false rfl (by rw [decide_eq_true hx]; rfl) ?_
 refine qM hR ?_
 refine qMg hR ?_
 refine qAg hR rfl rfl rfl (fun _ hS => Yld.neq hS rfl rfl) ?_
 refine qB (t := 28) false rfl (by simp) ?_
 refine qMg hR ?_
 refine qZ ?_
 refine qZ ?_
 refine qZ ?_
 refine qU ?_
 refine qU ?_
 refine qZ ?_
 refine qAg hR rfl rfl rfl (fun _ hS => Yld.pickF hS rfl rfl) ?_
 refine qA hR rfl (fun _ hS => Yld.pickF hS rfl rfl) ?_
 intro aa hS
 refine wpList_nil ?_
 refine hK1182 _ _ ?_
 refine condF hS rfl ?_
 refine wp_skip ?_
 refine hK1181 _ _ ?_
 refine wp_seq_k ?_; intro K1183 hK1183
 refine wp_seq_k ?_; intro K1184 hK1184
 refine wp_region_lit ?_
 revert aa
 refine qM hR ?_
 refine qA hR rfl (fun _ hS => Yld.neq hS rfl rfl) ?_
 refine qB (t := 39) false rfl (by simp) ?_
 refine qM hR ?_
 refine qMg hR ?_
 refine qAg hR rfl rfl rfl (fun _ hS => Yld.gtr hS rfl rfl) ?_
 refine qA hR rfl (fun _ hS => Yld.pickF hS rfl rfl) ?_
 refine qM hR ?_
 intro aa hS
 refine hS.splitB (t := 44) rfl ?_ ?_ <;> clear hS
 ·
  intro hg hS
  revert aa
  refine qZ ?_
  refine qZ ?_
  refine qZ ?_
  refine qA hR rfl (fun _ hS => Yld.pickT hS rfl rfl) ?_
  intro aa hS
  refine wpList_nil ?_
  refine hK1184 _ _ ?_
  refine condT hS rfl ?_
  refine wp_seq_k ?_; intro K1185 hK1185
  refine wp_region_lit ?_
  refine sB (Bcall hS rfl Try.call11 (awake16_ok hR) (by decide) ?_); clear hS; intro aa ww vv hS hp
  clear hR
  obtain ⟨rfl, hR⟩ := hp
  revert aa
  refine qN hR ?_
  intro aa hS
  refine wpList_nil ?_
  refine hK1185 _ _ ?_
  refine wp_ret ?_
  repeat first | with_reducible refine thenR ?_ | with_reducible refine blockR ?_ | with_reducible refine scopeR ?_
  refine ret1 (fn := Try.f8) (e := .ret) (.inl rfl) Try.results8 hS hR ⟨_, (.tmp rfl), ?_⟩
  exact ⟨rfl, (hR.sub exQ)⟩
 ·
  intro hg hS
  revert aa
  refine qMg hR ?_
  refine qAg hR rfl rfl rfl (fun _ hS => Yld.len hS rfl Try.underlying62) ?_
  refine qAg hR rfl rfl rfl (fun _ hS => Yld.gtr hS rfl rfl) ?_
  refine qA hR rfl (fun _ hS => Yld.pickF hS rfl rfl) ?_
  intro aa hS
  refine wpList_nil ?_
  refine hK1184 _ _ ?_
  refine hS.splitB (t := 48) rfl ?_ ?_ <;> clear hS
  ·
   intro hg hS
   refine condT hS rfl ?_
   refine wp_seq_k ?_; intro K1186 hK1186
   refine wp_region_lit ?_
   refine sB (Bcall hS rfl Try.call11 (awake16_ok hR) (by decide) ?_); clear hS; intro aa ww vv hS hp
   clear hR
   obtain ⟨rfl, hR⟩ := hp
   revert aa
   refine qN hR ?_
   intro aa hS
   refine wpList_nil ?_
   refine hK1186 _ _ ?_
   refine wp_ret ?_
   repeat first | with_reducible refine thenR ?_ | with_reducible refine blockR ?_ | with_reducible refine scopeR ?_
   refine ret1 (fn := Try.f8) (e := .ret) (.inl rfl) Try.results8 hS hR ⟨_, (.tmp rfl), ?_⟩
   exact ⟨rfl, (hR.sub exQ)⟩
  ·
   intro hg hS
   refine condF hS rfl ?_
   refine wp_skip ?_
   refine hK1183 _ _ ?_
   refine wp_seq_k ?_; intro K1187 hK1187
   refine wp_seq_k ?_; intro K1188 hK1188
   refine wp_region_lit ?_
   revert aa
   refine qM hR ?_
   refine qA hR rfl (fun _ hS => Yld.eqlNil hS rfl rfl Try.underlying23) ?_
   refine qB (t := 51) false rfl (by rfl) ?_
   intro aa hS
   refine wpList_nil ?_
   refine hK1188 _ _ ?_
   refine condF hS rfl ?_
   refine wp_skip ?_
   refine hK1187 _ _ ?_
   refine wp_seq_k ?_; intro K1189 hK1189
   refine wp_region_lit ?_
   revert aa
   refine qM hR ?_
   refine qM hR ?_
   intro aa hS
   refine sB (Bcall hS rfl Try.call26 (RNew6_ok (S := S) (n := p) hR h1 h2) (by decide) ?_); clear hS; intro aa ww vv hS hp
   clear hR
   obtain ⟨b2, rfl, hR⟩ := hp
   revert aa
   refine qN hR ?_
   intro aa hS
   refine wpList_nil ?_
   refine hK1189 _ _ ?_
   refine wp_seq_k ?_; intro K1190 hK1190
   refine wp_seq_k ?_; intro K1191 hK1191
   refine wp_region_lit ?_
   revert aa
   refine qM hR ?_
   refine qA hR rfl (fun _ hS => Yld.len hS rfl Try.underlying62) ?_
   refine qM hR ?_
   intro aa hS
   refine wpList_nil ?_
   refine hK1191 _ _ ?_
   refine wp_block ?_
   replace hR := hR.pk (r := r16A rt b2 S p { F := [], A := Ar.new S }) pkQ
   replace hR := hR.pk (r := tableA tt b S p { F := [], A := Ar.new S }) pkQ
   refine loopI (X := Nat × Tb) [(7, _), (9, _), (55, _), (56, _)] (fun x => [(57, .int .i64 (x.1 : Int))]) (fun x => [tableA tt b S p x.2, r16A rt b2 S p x.2]) _ (fun x => x.1 ≤ n ∧ TF S p x.2) (fun x => n - x.1) (0, { F := [], A := Ar.new S }) ⟨Nat.zero_le _, (new_TI (n := p) h1 h2).tf⟩ (hS.le (Le.cons rfl (Le.nilapp (Le.cons rfl (Le.cons rfl (Le.cons rfl (Le.cons rfl (Le.nil _)))))))) hR ?_
   clear hS hR; rintro ⟨k, T⟩ aa ww hI hS hR; dsimp only [List.cons_append, List.nil_append] at hI hS hR
   refine wp_seq_k ?_; intro K1193 hK1193
   refine wp_region_lit ?_
   refine sA hS hR (Yld.lss hS rfl rfl) (by decide) ?_; clear hS; intro aa hS
   refine wpList_nil ?_
   refine hK1193 _ _ ?_
   refine wp_seq_k ?_; intro K1194 hK1194
   refine hS.splitB (t := 58) rfl ?_ ?_ <;> clear hS
   ·
    intro hg hS
    refine condT hS rfl ?_
    refine wp_skip ?_
    refine hK1194 _ _ ?_
    refine wp_seq_k ?_; intro K1195 hK1195
    refine wp_block ?_
    refine wp_seq_k ?_; intro K1196 hK1196
    refine wp_region_lit ?_
    obtain ⟨ba, ia, ns, hq, hx, hl, hw, hc⟩ := A1.at (k := k) (by omega)
    obtain ⟨s0, s1, s2, s3, s4, s5, s6, s7, s8, rfl⟩ := len9 hl
    subst hq
    have hs0 : 0 ≤ s0 ∧ s0 ≤ 255 := hw.1
    have hkw : WfK (s1, s2, s3, s4, s5) := ⟨hw.2.1, hw.2.2.1, hw.2.2.2.1, hw.2.2.2.2.1, hw.2.2.2.2.2.1⟩
    revert aa
    refine qA hR rfl (fun _ hS => by first | exact Yld.indexL (sz := 9) _ hS rfl rfl Try.underlying62 info67 pkQ rfl rfl (by omega) | exact Yld.indexB (sz := 9) _ hS rfl rfl Try.underlying62 info67 rfl rfl (by omega) | exact Yld.indexSlice hS rfl rfl Try.underlying62 info67 (by omega) (by omega)) ?_
    refine qA hR rfl (fun _ hS => Yld.loadAgg (vs := [.int .u8 s0, .int .u8 s1, .int .u32 s2, .int .u32 s3, .int .u16 s4, .int .u16 s5, .int .i64 s6, .int .i64 s7, .int .i64 s8]) hS rfl Try.underlying67 rfl info67 (Rds.at (Rds.old pkQ hc) (by rfl)) (by rfl)) ?_
    intro aa hS
    refine sB (Balloc hS hR info67 (by rfl) (by rfl) (by decide) ?_); clear hS hR; intro aa ww bb11 hS hR
    refine sB (Bstore hS hR rfl rfl (by rfl) info67 (by rfl) pkQ (by rfl) (Nat.le_of_ble_eq_true rfl) ?_); clear hR; intro ww hR
    refine wpList_nil ?_
    refine hK1196 _ _ ?_
    refine wp_seq_k ?_; intro K1197 hK1197
    refine wp_seq_k ?_; intro K1198 hK1198
    refine wp_region_lit ?_
    revert aa
    refine qM hR ?_
    refine qM hR ?_
    intro aa hS
    refine sA hS hR (Yld.loadAgg hS rfl Try.underlying67 rfl info67 rdsQ9 (by rfl)) (by decide) ?_; clear hS; intro aa hS
    refine sB (Bcall hS rfl Try.call27 (act16_ok (T := T) (n := p) (S := S) (k := (s1, s2, s3, s4, s5)) (kd := s0) (s := s6) (u := s7) (i := s8) hkw hs0 ((hR.pk (r := r16A _ b2 _ _ _) pkQ).pk (r := tableA _ b _ _ _) pkQ)) (by decide) ?_); clear hS; intro aa ww vv hS hp
    clear hR
    obtain ⟨rfl, hR⟩ := hp
    have hT2 := hI.2.actT (kd := s0) (s := s6) (u := s7) (i := s8) hkw
    obtain ⟨T2, hTe⟩ : ∃ y, actT T p s0 s6 s7 (s1, s2, s3, s4, s5) s8 = y := ⟨_, rfl⟩
    rw [hTe] at hR hT2
    have hFl := hT2.len
    have hal : (allF T2.F).length ≤ T2.F.length := by unfold allF; rw [List.length_map, hT2.srtLen]; exact Nat.le_refl _
    revert aa
    refine qA hR rfl (fun _ hS => Yld.not hS rfl) ?_
    refine qB (t := 65) false rfl (by rfl) ?_
    refine qM hR ?_
    refine qMg hR ?_
    refine qMg hR ?_
    intro aa hS
    refine sAg hS hR rfl rfl (Yld.loadAgg hS rfl Try.underlying67 rfl info67 rdsQ9 (by rfl)) (by decide) ?_; clear hS; intro aa hS
    refine sBg hS rfl rfl (Bcall hS rfl Try.call28 (look16_ok (T := T2) (n := p) (S := S) (k := (s1, s2, s3, s4, s5)) (kd := s0) (s := s6) (u := s7) (i := s8) hkw hs0 ((hR.pk (r := r16A _ b2 _ _ _) pkQ).pk (r := tableA _ b _ _ _) pkQ)) (by decide) ?_); clear hS; intro aa ww vv hS hp
    clear hR
    obtain ⟨rfl, hR⟩ := hp
    revert aa
    refine qAg hR rfl rfl rfl (fun _ hS => Yld.not hS rfl) ?_
    refine qB (t := 71) false rfl (by rfl) ?_
    refine qA hR rfl (fun _ hS => Yld.pickF hS rfl rfl) ?_
    intro aa hS
    refine wpList_nil ?_
    refine hK1198 _ _ ?_
    refine condF hS rfl ?_
    refine wp_skip ?_
    refine hK1197 _ _ ?_
    refine wp_seq_k ?_; intro K1199 hK1199
    refine wp_region_lit ?_
    revert aa
    refine qM hR ?_
    intro aa hS
    refine sB (Bcall hS rfl Try.call29 (TbAll_ok (T := T2) (hR.pk (r := tableA _ b _ _ _) pkQ)) (by decide) ?_); clear hS; intro aa ww vv hS hp
    clear hR
    obtain ⟨ra, ca, rfl, hR⟩ := hp
    revert aa
    refine qN hR ?_
    intro aa hS
    refine wpList_nil ?_
    refine hK1199 _ _ ?_
    refine wp_seq_k ?_; intro K1200 hK1200
    refine wp_region_lit ?_
    revert aa
    refine qM hR ?_
    refine qA hR rfl (fun _ hS => Yld.len hS rfl Try.underlying38) ?_
    refine qM hR ?_
    intro aa hS
    refine wpList_nil ?_
    refine hK1200 _ _ ?_
    refine wp_block ?_
    replace hR := hR.pk (r := sls ra (allF T2.F).length ca 29 2 ((allF T2.F).flatMap e2)) pkQ
    refine loopI (X := Nat × List (Int × Int)) [(7, _), (9, _), (11, _), (12, _), (55, _), (56, _), (57, _), (58, _), (59, _), (60, _), (61, _), (62, _), (63, _), (64, _), (65, _), (66, _), (67, _), (68, _), (69, _), (70, _), (71, _), (72, _), (73, _), (74, _), (75, _), (76, _)] (fun x => [(77, .int .i64 (x.1 : Int))]) (fun x => [sls ra (allF T2.F).length ca 29 2 (x.2.flatMap e2)]) _ (fun x => x.1 ≤ (allF T2.F).length ∧ x.2.length = (allF T2.F).length) (fun x => (allF T2.F).length - x.1) (0, (allF T2.F)) ⟨Nat.zero_le _, rfl⟩ (hS.le (Le.cons rfl (Le.nilapp (Le.cons rfl (Le.cons rfl (Le.cons rfl (Le.cons rfl (Le.cons rfl (Le.cons rfl (Le.cons rfl (Le.cons rfl (Le.cons rfl (Le.cons rfl (Le.cons rfl (Le.cons rfl (Le.cons rfl (Le.cons rfl (Le.cons rfl (Le.cons rfl (Le.cons rfl (Le.cons rfl (Le.cons rfl (Le.cons rfl (Le.cons rfl (Le.cons rfl (Le.cons rfl (Le.cons rfl (Le.cons rfl (Le.cons rfl (Le.nil _)))))))))))))))))))))))))))))) hR ?_
    clear hS hR; rintro ⟨j, ys⟩ aa ww hI hS hR; dsimp only [List.cons_append, List.nil_append] at hI hS hR
    refine wp_seq_k ?_; intro K1202 hK1202
    refine wp_region_lit ?_
    refine sA hS hR (Yld.lss hS rfl rfl) (by decide) ?_; clear hS; intro aa hS
    refine wpList_nil ?_
    refine hK1202 _ _ ?_
    refine wp_seq_k ?_; intro K1203 hK1203
    refine hS.splitB (t := 78) rfl ?_ ?_ <;> clear hS
    ·
     intro hg hS
     obtain ⟨⟨ya, yb⟩, hye⟩ : ∃ y, ys[j]'(by omega) = y := ⟨_, rfl⟩
     refine condT hS rfl ?_
     refine wp_skip ?_
     refine hK1203 _ _ ?_
     refine wp_seq_k ?_; intro K1204 hK1204
     refine wp_block ?_
     refine wp_seq_k ?_; intro K1205 hK1205
     refine wp_region_lit ?_
     revert aa
     refine qM hR ?_
     refine qN hR ?_
     intro aa hS
     refine wpList_nil ?_
     refine hK1205 _ _ ?_
     refine wp_region_lit ?_
     revert aa
     refine qM hR ?_
     refine qM hR ?_
     refine qA hR rfl (fun _ hS => ilQ 2 (j) Try.underlying38 info29) ?_
     refine qA hR rfl (fun _ hS => Yld.fieldAddr hS rfl 1 Try.underlying29 rfl rfl info3 (by decide)) ?_
     refine qA hR rfl (fun _ hS => Yld.load1 hS rfl Try.underlying3 rfl (Rd.rec (enc := e2) (k := j) (j := 1) (xs := ys) (v := .int .i64 yb) pkQ (by intro _; rfl) (by omega) (by rw [hye]; rfl))) ?_
     refine qA hR rfl (fun _ hS => Yld.add hS rfl rfl) ?_
     refine qA hR rfl (fun _ hS => ilQ 2 (j) Try.underlying38 info29) ?_
     refine qA hR rfl (fun _ hS => Yld.fieldAddr hS rfl 1 Try.underlying29 rfl rfl info3 (by decide)) ?_
     intro aa hS
     refine sB (BstoreR ((ya, IntKind.i64.wrap (yb + 1))) hS hR rfl rfl (by rfl) info3 (by rfl) pkQ (by rfl) (by intro _; rfl) (by omega) (by first | exact Nat.le_of_ble_eq_true rfl | (simp only [List.length_singleton]; omega)) (Nat.le_of_ble_eq_true rfl) (by rw [hye]; rfl) ?_); clear hR; intro ww hR
     refine wpList_nil ?_
     refine hK1204 _ _ ?_
     refine wp_region_lit ?_
     refine sA hS hR adQ (by decide) ?_; clear hS; intro aa hS
     revert aa
     refine qM hR ?_
     intro aa hS
     refine wpList_nil ?_
     refine ⟨(j + 1, _), ?_, ?_, hS.le (Le.cons rfl (Le.nilapp (Le.cons rfl (Le.cons rfl (Le.cons rfl (Le.cons rfl (Le.cons rfl (Le.cons rfl (Le.cons rfl (Le.cons rfl (Le.cons rfl (Le.cons rfl (Le.cons rfl (Le.cons rfl (Le.cons rfl (Le.cons rfl (Le.cons rfl (Le.cons rfl (Le.cons rfl (Le.cons rfl (Le.cons rfl (Le.cons rfl (Le.cons rfl (Le.cons rfl (Le.cons rfl (Le.cons rfl (Le.cons rfl (Le.cons rfl (Le.nil _))))))))))))))))))))))))))))), hR.sub (Ex.take pkQ (Ex.nilapp exQ))⟩
     ·
      dsimp only; exact ⟨by omega, by rw [List.length_set]; exact hI.2⟩
     ·
      dsimp only; omega
    ·
     intro hg hS
     refine condF hS rfl ?_
     refine wp_exit ?_
     refine hK1195 _ _ ?_
     refine wp_region_lit ?_
     refine sA hS hR adQ (by decide) ?_; clear hS; intro aa hS
     revert aa
     refine qM hR ?_
     intro aa hS
     refine wpList_nil ?_
     refine ⟨(k + 1, T2), ?_, ?_, hS.le (Le.cons rfl (Le.nilapp (Le.cons rfl (Le.cons rfl (Le.cons rfl (Le.cons rfl (Le.nil _))))))), hR.sub (Ex.take pkQ (Ex.take pkQ (Ex.nilapp exQ)))⟩
     ·
      dsimp only; exact ⟨by omega, hT2⟩
     ·
      dsimp only; omega
   ·
    intro hg hS
    refine condF hS rfl ?_
    refine wp_exit ?_
    refine hK1190 _ _ ?_
    refine wp_seq_k ?_; intro K1206 hK1206
    refine wp_region_lit ?_
    revert aa
    refine qM hR ?_
    refine qM hR ?_
    intro aa hS
    refine sB (Bcall hS rfl Try.call30 (same16_ok (T := T) (n := p) (S := S) h4 ((hR.pk (r := r16A _ b2 _ _ _) pkQ).pk (r := tableA _ b _ _ _) pkQ)) (by decide) ?_); clear hS; intro aa ww vv hS hp
    clear hR
    obtain ⟨rfl, hR⟩ := hp
    revert aa
    refine qB (t := 92) true rfl (by rfl) ?_
    refine qM hR ?_
    intro aa hS
    refine sBg hS rfl rfl (Bcall hS rfl Try.call11 (awake16_ok hR) (by decide) ?_); clear hS; intro aa ww vv hS hp
    clear hR
    obtain ⟨rfl, hR⟩ := hp
    revert aa
    refine qA hR rfl (fun _ hS => Yld.pickT hS rfl rfl) ?_
    refine qN hR ?_
    intro aa hS
    refine wpList_nil ?_
    refine hK1206 _ _ ?_
    refine wp_ret ?_
    repeat first | with_reducible refine thenR ?_ | with_reducible refine blockR ?_ | with_reducible refine scopeR ?_
    refine ret1 (fn := Try.f8) (e := .ret) (.inl rfl) Try.results8 hS hR ⟨_, (.tmp rfl), ?_⟩
    exact ⟨rfl, (hR.sub exQ)⟩
theorem TableTells_ok {W : World} {q : Option Addr} {n c : Nat} {m i : Int} {xs : List (List Int)} {l : List HP} {w : World} (A1 : ArgS W [.u8, .u8, .u32, .u32, .u16, .u16, .i64, .i64, .i64] q n c xs) (hR : Sep (old W :: l) w) : CallR Try.prog 8 [.int .i64 m, .int .i64 i, .slice q n c] w (fun v w' => v = .bool true ∧ Sep (old W :: l) w') := by
 by_cases hx : 1 ≤ m ∧ m ≤ 4096 ∧ 1 ≤ i ∧ i ≤ 8
 ·
  obtain ⟨S, rfl⟩ : ∃ y : Nat, m = (y : Int) := ⟨m.toNat, by omega⟩
  obtain ⟨p, rfl⟩ : ∃ y : Nat, i = (y : Int) := ⟨i.toNat, by omega⟩
  exact TableTells_yes A1 hR (by omega) (by omega) (by omega) (by omega)
 ·
  exact TableTells_no A1 hR hx
end Go.Proofs.Ythhndmlfgjcgpaa.Sx
