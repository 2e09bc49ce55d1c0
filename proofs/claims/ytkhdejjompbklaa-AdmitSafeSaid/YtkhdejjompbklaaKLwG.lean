/-
 
-/
import Derived.Test.YtkhdejjompbklaaKLwB
import Derived.Test.YtkhdejjompbklaaKPzd
namespace Go.Proofs.Ytkhdejjompbklaa.Sx
open Go
set_option maxRecDepth 20000
set_option linter.unusedVariables false
set_option linter.unusedSimpArgs false
theorem bls55_1_0 (x0_0 : Int) (x0_1 : Int) (w : World) : (Instr.buildSlice 55 1 [(0, .agg [.int .i64 x0_0, .int .i64 x0_1].toArray)].toArray).run Try.prog w = .ok (.slice (some ⟨w.heap.size, 0, none⟩) 1 1) (w.alloc (.cells ([.int .i64 x0_0, .int .i64 x0_1] : List Value).toArray 59)) := by kernel_rfl
set_option maxHeartbeats 4000000 in
theorem AdmitSafe_ok {W : World} {q : Option Addr} {n c : Nat} {n0 n1 n2 n3 n4 : Int} {q2 : Option Addr} {nn2 c2 : Nat} {ys : List (List Int)} (A2 : ArgS W [.u8, .u32, .i64] q2 nn2 c2 ys) {xs : List (List Int)} (A1 : ArgS W [.u8, .u32, .i64] q n c xs) {l : List HP} {w : World} (h0 : 0 ≤ n0 ∧ n0 ≤ 255) (h1 : 0 ≤ n1 ∧ n1 ≤ 255) (h2 : 0 ≤ n2 ∧ n2 ≤ 255) (h3 : 0 ≤ n3 ∧ n3 ≤ 255) (h4 : 0 ≤ n4 ∧ n4 ≤ 255) (hR : Sep (old W :: l) w) : CallR Try.prog 5 [.agg [.int .u8 n0, .int .u8 n1, .int .u8 n2, .int .u8 n3, .int .u8 n4].toArray, .slice q n c, .slice q2 nn2 c2] w (fun v w' => v = .bool true ∧ Sep (old W :: l) w') := by
 refine enter Try.func5 rfl Try.ntmps5 (Nat.le_of_ble_eq_true rfl) ?_; intro aa hS
 have hcap2 := A2.cap
 refine wp_seq_k ?_; intro K1158 hK1158
 refine wp_region_lit ?_
 refine sB (Bbox hS hR rfl (by rfl) (by decide) ?_); clear hS hR; intro aa ww bb3 hS hR
 revert aa
 refine qN hR ?_
 intro aa hS
 refine wpList_nil ?_
 refine hK1158 _ _ ?_
 refine wp_seq_k ?_; intro K1159 hK1159
 refine wp_seq_k ?_; intro K1160 hK1160
 refine wp_region_lit ?_
 refine sB (Bcall hS rfl Try.call8 (awake34_ok hR) (by decide) ?_); clear hS; intro aa ww vv hS hp
 clear hR
 obtain ⟨rfl, hR⟩ := hp
 refine sA hS hR (Yld.not hS rfl) (by decide) ?_; clear hS; intro aa hS
 refine wpList_nil ?_
 refine hK1160 _ _ ?_
 refine condF hS rfl ?_
 refine wp_skip ?_
 refine hK1159 _ _ ?_
 refine wp_seq_k ?_; intro K1161 hK1161
 refine wp_region_lit ?_
 refine sA hS hR (Yld.loadAgg hS rfl Try.underlying23 rfl info23 (by first | exact Rds.cons (Rd.blk pkQ (by rfl)) (Rds.cons (Rd.blk pkQ (by rfl)) (Rds.cons (Rd.blk pkQ (by rfl)) (Rds.cons (Rd.blk pkQ (by rfl)) (Rds.cons (Rd.blk pkQ (by rfl)) (Rds.nil))))) | exact Rds.rec pkQ (by intro _; rfl) (by first | omega | (rw [cst_len]; omega) | (rw [wasL_len]; omega) | (simp only [List.length_append, wasL_len, List.length_singleton]; omega)) | exact Rds.flat1 pkQ (by intro _; rfl) (by first | omega | (rw [cst_len]; omega) | (rw [wasL_len]; omega) | (simp only [List.length_append, wasL_len, List.length_singleton]; omega))) (by rfl)) (by decide) ?_; clear hS; intro aa hS
 revert aa
 refine qM hR ?_
 intro aa hS
 refine sB (Bcall hS rfl Try.call9 (made_ok A1 h0 h1 h2 h3 h4 (hR.pk (r := old W) pkQ)) (by decide) ?_); clear hS; intro aa ww vv hS hp
 clear hR
 obtain ⟨b, S, lim, t, p, u, D, rfl, hSe, hle, hte, hpe, hue, hM, hR⟩ := hp
 have hM0 := hM
 obtain ⟨hDF, hsix, hun, hnw⟩ := hM
 have hnow := hDF.w.now
 have hol := hDF.w.olen
 have hRR := hDF.rr
 have hordl := Nat.le_trans hDF.w.ordLen hol
 revert aa
 refine qM hR ?_
 refine qX hR ?_
 refine qX hR ?_
 intro aa hS
 refine sB (Balloc hS hR info31 (by rfl) (by rfl) (by decide) ?_); clear hS hR; intro aa ww bb8 hS hR
 revert aa
 refine qN hR ?_
 intro aa hS
 refine sB (Bstore hS hR rfl rfl (by rfl) info31 (by rfl) pkQ (by rfl) (Nat.le_of_ble_eq_true rfl) ?_); clear hR; intro ww hR
 refine wpList_nil ?_
 refine hK1161 _ _ ?_
 refine wp_seq_k ?_; intro K1162 hK1162
 refine wp_seq_k ?_; intro K1163 hK1163
 refine wp_region_lit ?_
 revert aa
 refine qM hR ?_
 refine qA hR rfl (fun _ hS => Yld.eqlNil hS rfl rfl Try.underlying27) ?_
 refine qB (t := 33) false rfl (by rfl) ?_
 intro aa hS
 refine wpList_nil ?_
 refine hK1163 _ _ ?_
 refine condF hS rfl ?_
 refine wp_skip ?_
 refine hK1162 _ _ ?_
 refine wp_seq_k ?_; intro K1164 hK1164
 refine wp_seq_k ?_; intro K1165 hK1165
 refine wp_region_lit ?_
 revert aa
 refine qM hR ?_
 intro aa hS
 refine sB (Bcall hS rfl Try.call18 (adUnassured_ok (hR.pk (r := deskA _ b _ _ _ _) pkQ)) (by decide) ?_); clear hS; intro aa ww vv hS hp
 clear hR
 obtain ⟨ra, ca, rfl, hR⟩ := hp
 revert aa
 refine qA hR rfl (fun _ hS => Yld.len hS rfl Try.underlying41) ?_
 refine qM hR ?_
 intro aa hS
 refine wpList_nil ?_
 refine hK1165 _ _ ?_
 refine wp_block ?_
 replace hR := hR.pk (r := deskA dd b S lim (t, p, u) D) pkQ
 refine loopI (X := Nat × Dk) [(2, _), (7, _), (8, _), (35, _), (36, _)] (fun x => [(37, .int .i64 (x.1 : Int))]) (fun x => [deskA dd b S lim (t, p, u) x.2]) _ (fun x => AsI S lim t p u D x.1 x.2 ∧ x.1 ≤ D.ord.length) (fun x => D.ord.length - x.1) (0, D) ⟨⟨hM0, rfl, rfl⟩, Nat.zero_le _⟩ (hS.le (Le.cons rfl (Le.nilapp (Le.cons rfl (Le.cons rfl (Le.cons rfl (Le.cons rfl (Le.cons rfl (Le.nil _))))))))) hR ?_
 clear hS hR; rintro ⟨i, E⟩ aa ww hI hS hR; dsimp only [List.cons_append, List.nil_append] at hI hS hR
 refine wp_seq_k ?_; intro K1167 hK1167
 refine wp_region_lit ?_
 refine sA hS hR (Yld.lss hS rfl rfl) (by decide) ?_; clear hS; intro aa hS
 refine wpList_nil ?_
 refine hK1167 _ _ ?_
 refine wp_seq_k ?_; intro K1168 hK1168
 refine hS.splitB (t := 38) rfl ?_ ?_ <;> clear hS
 ·
  intro hg hS
  have hi : i < D.ord.length := by rw [cst_len] at hg; omega
  obtain ⟨s, hse⟩ : ∃ y, D.ord[i] = y := ⟨_, rfl⟩
  have hst := hI.1.step hi
  rw [hse] at hst
  refine condT hS rfl ?_
  refine wp_skip ?_
  refine hK1168 _ _ ?_
  refine wp_seq_k ?_; intro K1169 hK1169
  refine wp_block ?_
  refine wp_seq_k ?_; intro K1170 hK1170
  refine wp_region_lit ?_
  revert aa
  refine qA hR rfl (fun _ hS => ilQ 1 (i) Try.underlying41 info3) ?_
  refine qA hR rfl (fun _ hS => Yld.load1 hS rfl Try.underlying3 rfl (Rd.rec0 (k := i) (xs := cst D.ord) (v := .int .i64 ((s : Nat) : Int)) pkQ (by intro _; rfl) (by rw [cst_len]; exact hi) (by simp only [cst, List.getElem_map, hse]; rfl))) ?_
  refine qN hR ?_
  intro aa hS
  refine wpList_nil ?_
  refine hK1170 _ _ ?_
  refine wp_seq_k ?_; intro K1171 hK1171
  refine wp_region_lit ?_
  revert aa
  refine qM hR ?_
  refine qM hR ?_
  intro aa hS
  refine sB (Bcall hS rfl Try.call22 (adAssure_ok (x := (s : Int)) hI.1.m.f.w (hR.pk (r := deskA _ b _ _ _ _) pkQ)) (by decide) ?_); clear hS; intro aa ww vv hS hp
  clear hR
  obtain ⟨rfl, hR⟩ := hp
  rw [hst.2] at hS
  revert aa
  refine qA hR rfl (fun _ hS => Yld.neq hS rfl rfl) ?_
  refine qB (t := 44) false rfl (by decide) ?_
  intro aa hS
  refine wpList_nil ?_
  refine hK1171 _ _ ?_
  refine condF hS rfl ?_
  refine wp_skip ?_
  refine hK1169 _ _ ?_
  refine wp_region_lit ?_
  refine sA hS hR adQ (by decide) ?_; clear hS; intro aa hS
  revert aa
  refine qM hR ?_
  intro aa hS
  refine wpList_nil ?_
  refine ⟨(i + 1, _), ?_, ?_, hS.le (Le.cons rfl (Le.nilapp (Le.cons rfl (Le.cons rfl (Le.cons rfl (Le.cons rfl (Le.cons rfl (Le.nil _)))))))), hR.sub (Ex.take pkQ (Ex.nilapp exQ))⟩
  ·
   exact ⟨hst.1, hi⟩
  ·
   dsimp only; omega
 ·
  intro hg hS
  obtain rfl : i = D.ord.length := by have := hI.2; rw [cst_len] at hg; omega
  have hE := hI.1
  have hEo : E.ord = [] := by rw [hE.ord, List.drop_length]
  have hEl := hE.m.f.w.olen
  refine condF hS rfl ?_
  refine wp_exit ?_
  refine hK1164 _ _ ?_
  refine wp_seq_k ?_; intro K1172 hK1172
  refine wp_seq_k ?_; intro K1173 hK1173
  refine wp_region_lit ?_
  revert aa
  refine qM hR ?_
  intro aa hS
  refine sB (Bcall hS rfl Try.call18 (adUnassured_ok (hR.pk (r := deskA _ b _ _ _ _) pkQ)) (by decide) ?_); clear hS; intro aa ww vv hS hp
  clear hR
  obtain ⟨rb, cb, rfl, hR⟩ := hp
  revert aa
  refine qA hR rfl (fun _ hS => Yld.len hS rfl Try.underlying41) ?_
  refine qA hR rfl (fun _ hS => Yld.neq hS rfl rfl) ?_
  refine qB (t := 49) false rfl (by rw [hEo]; rfl) ?_
  intro aa hS
  refine wpList_nil ?_
  refine hK1173 _ _ ?_
  refine condF hS rfl ?_
  refine wp_skip ?_
  refine hK1172 _ _ ?_
  refine wp_seq_k ?_; intro K1174 hK1174
  refine wp_region_lit ?_
  revert aa
  refine qN hR ?_
  intro aa hS
  refine wpList_nil ?_
  refine hK1174 _ _ ?_
  refine wp_seq_k ?_; intro K1175 hK1175
  refine wp_seq_k ?_; intro K1176 hK1176
  refine wp_region_lit ?_
  refine sA hS hR (Yld.fieldAddr hS rfl 0 Try.underlying31 rfl rfl info3 (by decide)) (by decide) ?_; clear hS; intro aa hS
  refine sA hS hR (Yld.load1 hS rfl Try.underlying3 rfl (by first | exact Rd.blk pkQ (by rfl) | exact Rd.rec pkQ (by intro _; rfl) (by first | omega | (rw [cst_len]; omega) | (rw [wasL_len]; omega) | (simp only [List.length_append, wasL_len, List.length_singleton]; omega)) rfl | exact Rd.rec0 pkQ (by intro _; rfl) (by first | omega | (rw [cst_len]; omega) | (rw [wasL_len]; omega) | (simp only [List.length_append, wasL_len, List.length_singleton]; omega)) rfl | exact Rd.flatJ pkQ (by intro _; rfl) (by first | omega | (rw [cst_len]; omega) | (rw [wasL_len]; omega) | (simp only [List.length_append, wasL_len, List.length_singleton]; omega)) rfl | exact Rd.flat0 pkQ (by intro _; rfl) (by first | omega | (rw [cst_len]; omega) | (rw [wasL_len]; omega) | (simp only [List.length_append, wasL_len, List.length_singleton]; omega)) rfl)) (by decide) ?_; clear hS; intro aa hS
  revert aa
  refine qM hR ?_
  intro aa hS
  refine wpList_nil ?_
  refine hK1176 _ _ ?_
  refine wp_block ?_
  replace hR := hR.slsNil (T := 59) (sz := 2)
  replace hR := hR.pk (r := sls none 0 0 59 2 []) pkQ
  refine loopI (X := Nat × Option Addr × Nat) [(2, _), (7, _), (8, _), (51, _)] (fun x => [(11, .slice x.2.1 (wasL E.T.O x.1).length x.2.2), (52, .int .i64 (x.1 : Int))]) (fun x => [sls x.2.1 (wasL E.T.O x.1).length x.2.2 59 2 ((wasL E.T.O x.1).flatMap e2)]) _ (fun x => x.1 ≤ S) (fun x => S - x.1) (0, none, 0) (Nat.zero_le _) (hS.le (Le.cons rfl (Le.cons rfl (Le.nilapp (Le.cons rfl (Le.cons rfl (Le.cons rfl (Le.cons rfl (Le.nil _))))))))) hR ?_
  clear hS hR; rintro ⟨i, rw, cw⟩ aa ww hI hS hR; dsimp only [List.cons_append, List.nil_append] at hI hS hR
  refine wp_seq_k ?_; intro K1178 hK1178
  refine wp_region_lit ?_
  refine sA hS hR (Yld.lss hS rfl rfl) (by decide) ?_; clear hS; intro aa hS
  refine wpList_nil ?_
  refine hK1178 _ _ ?_
  refine wp_seq_k ?_; intro K1179 hK1179
  refine hS.splitB (t := 53) rfl ?_ ?_ <;> clear hS
  ·
   intro hg hS
   refine condT hS rfl ?_
   refine wp_skip ?_
   refine hK1179 _ _ ?_
   refine wp_seq_k ?_; intro K1180 hK1180
   refine wp_block ?_
   refine wp_seq_k ?_; intro K1181 hK1181
   refine wp_region_lit ?_
   revert aa
   refine qM hR ?_
   refine qN hR ?_
   intro aa hS
   refine wpList_nil ?_
   refine hK1181 _ _ ?_
   refine wp_seq_k ?_; intro K1182 hK1182
   refine wp_region_lit ?_
   by_cases hn : (ofO E.T.O (i : Int)).isSome = true
   ·
    revert aa
    refine qM hR ?_
    refine qM hR ?_
    intro aa hS
    obtain ⟨ob, hob⟩ := Option.isSome_iff_exists.1 hn
    have has := asD_some hE.m.f.w hob
    rw [hEo] at has
    obtain ⟨ss, hse, hsm⟩ := ofO_in hob
    have hob6 := hE.m.six _ hsm
    dsimp only at hob6
    have hwl := wasL_some hob
    have hwll : (wasL E.T.O i ++ [((i : Int), (0 : Int))]).length = i + 1 := by rw [List.length_append, wasL_len]; rfl
    have hwl2 : (wasL E.T.O i ++ [((i : Int), (0 : Int))]).length = (wasL E.T.O (i + 1)).length := by rw [hwll, wasL_len]
    refine sB (Bcall hS rfl Try.call23 (adOf_ok (x := (i : Int)) (hR.pk (r := deskA _ b _ _ _ _) pkQ)) (by decide) ?_); clear hS; intro aa ww vv hS hp
    clear hR
    obtain ⟨rfl, hR⟩ := hp
    rw [hob] at hS
    dsimp only [Option.getD, Option.isSome] at hS
    revert aa
    refine qM hR ?_
    refine qX hR ?_
    refine qX hR ?_
    refine qB (t := 60) true rfl (by rfl) ?_
    refine qN hR ?_
    refine qN hR ?_
    intro aa hS
    refine wpList_nil ?_
    refine hK1182 _ _ ?_
    refine wp_seq_k ?_; intro K1183 hK1183
    refine wp_seq_k ?_; intro K1184 hK1184
    refine wp_region_lit ?_
    revert aa
    refine qM hR ?_
    refine qM hR ?_
    refine qM hR ?_
    intro aa hS
    refine sB (Bcall hS rfl Try.call24 (adAssured_ok (x := (i : Int)) hE.m.f.w (hR.pk (r := deskA _ b _ _ _ _) pkQ)) (by decide) ?_); clear hS; intro aa ww vv hS hp
    clear hR
    obtain ⟨rfl, hR⟩ := hp
    rw [has] at hS
    revert aa
    refine qA hR rfl (fun _ hS => Yld.neqB hS rfl rfl Try.underlying4) ?_
    refine qB (t := 65) false rfl (by rfl) ?_
    intro aa hS
    refine wpList_nil ?_
    refine hK1184 _ _ ?_
    refine condF hS rfl ?_
    refine wp_skip ?_
    refine hK1183 _ _ ?_
    refine wp_seq_k ?_; intro K1185 hK1185
    refine wp_region_lit ?_
    revert aa
    refine qM hR ?_
    refine qM hR ?_
    refine qA hR rfl (fun _ hS => Yld.build hS rfl (bld59_0_1 _ _)) ?_
    intro aa hS
    refine sB (BbuildSlice hS hR rfl (bls55_1_0 _ _) (by decide) ?_); clear hS hR; intro aa ww bb69 hS hR
    refine sB (BappendR (sz := 2) hS hR rfl rfl Try.underlying55 info59 rfl rfl (by rfl) pkQ (XC.one (((i : Int), (0 : Int))) pkQ (by rfl) rfl) (by intro _; rfl) (by show (_ + _) * 16 ≤ _; first | omega | (rw [cst_len]; omega) | (rw [wasL_len]; omega) | (simp only [List.length_append, wasL_len, List.length_singleton]; omega)) (by first | omega | (rw [cst_len]; omega) | (rw [wasL_len]; omega) | (simp only [List.length_append, wasL_len, List.length_singleton]; omega)) (by first | rfl | (simp; done) | (simp; omega)) (by decide) ?_); clear hS hR; intro aa ww r70 c70 hS hR
    revert aa
    refine qN hR ?_
    intro aa hS
    refine wpList_nil ?_
    refine hK1185 _ _ ?_
    refine wp_seq_k ?_; intro K1186 hK1186
    refine wp_region_lit ?_
    revert aa
    refine qM hR ?_
    intro aa hS
    refine wpList_nil ?_
    refine hK1186 _ _ ?_
    refine condT hS rfl ?_
    refine wp_region_lit ?_
    revert aa
    refine qM hR ?_
    refine qM hR ?_
    refine qM hR ?_
    refine qA hR rfl (fun _ hS => by first | exact Yld.to (Yld.convInt hS rfl rfl Try.underlying3) (congrArg (Value.int .i64) (IntWalk.i64_in _ (by omega))) | exact Yld.convInt hS rfl rfl Try.underlying3) ?_
    intro aa hS
    refine sA hS hR adQ (by decide) ?_; clear hS; intro aa hS
    revert aa
    refine qA hR rfl (fun _ hS => ilQ 2 (i) Try.underlying55 info59) ?_
    refine qA hR rfl (fun _ hS => Yld.to (u := .pointer (some ⟨blkOf r70, i * 2 + 1, none⟩)) (Yld.indexArr hS rfl rfl Try.underlying59 info3 (by omega) (by omega)) (by have h1 : (Try.t3).size = 1 := rfl; rw [h1]; congr 3 <;> omega)) ?_
    intro aa hS
    refine sB (BstoreR (((i : Int), ob + 1)) hS hR rfl rfl (by rfl) info3 (by rfl) pkQ (by rfl) (by intro _; rfl) (by first | omega | (rw [cst_len]; omega) | (rw [wasL_len]; omega) | (simp only [List.length_append, wasL_len, List.length_singleton]; omega)) (by first | exact Nat.le_of_ble_eq_true rfl | (simp only [List.length_singleton]; omega)) (Nat.le_of_ble_eq_true rfl) (by rw [wasL_at]; rfl) ?_); clear hR; intro ww hR
    refine wpList_nil ?_
    refine hK1180 _ _ ?_
    refine wp_region_lit ?_
    refine sA hS hR adQ (by decide) ?_; clear hS; intro aa hS
    revert aa
    refine qM hR ?_
    intro aa hS
    refine wpList_nil ?_
    rw [hwl2] at hS
    rw [hwl, hwl2] at hR
    refine ⟨(i + 1, _, _), ?_, ?_, hS.le (Le.cons rfl (Le.cons rfl (Le.nilapp (Le.cons rfl (Le.cons rfl (Le.cons rfl (Le.cons rfl (Le.nil _)))))))), hR.sub (Ex.take pkQ (Ex.nilapp exQ))⟩
    ·
     dsimp only; omega
    ·
     dsimp only; omega
   ·
    revert aa
    refine qM hR ?_
    refine qM hR ?_
    intro aa hS
    have hob : ofO E.T.O (i : Int) = none := by
     cases hv : ofO E.T.O (i : Int) with
     | none => rfl
     | some o => rw [hv] at hn; simp at hn
    obtain ⟨has, _⟩ := asD_none hE.m.f.w (x := i) (by omega) hob
    have hwl := wasL_none hob
    refine sB (Bcall hS rfl Try.call23 (adOf_ok (x := (i : Int)) (hR.pk (r := deskA _ b _ _ _ _) pkQ)) (by decide) ?_); clear hS; intro aa ww vv hS hp
    clear hR
    obtain ⟨rfl, hR⟩ := hp
    rw [hob] at hS
    dsimp only [Option.getD, Option.isSome] at hS
    revert aa
    refine qM hR ?_
    refine qX hR ?_
    refine qX hR ?_
    refine qB (t := 60) false rfl (by rfl) ?_
    refine qN hR ?_
    refine qN hR ?_
    intro aa hS
    refine wpList_nil ?_
    refine hK1182 _ _ ?_
    refine wp_seq_k ?_; intro K1187 hK1187
    refine wp_seq_k ?_; intro K1188 hK1188
    refine wp_region_lit ?_
    revert aa
    refine qM hR ?_
    refine qM hR ?_
    refine qM hR ?_
    intro aa hS
    refine sB (Bcall hS rfl Try.call24 (adAssured_ok (x := (i : Int)) hE.m.f.w (hR.pk (r := deskA _ b _ _ _ _) pkQ)) (by decide) ?_); clear hS; intro aa ww vv hS hp
    clear hR
    obtain ⟨rfl, hR⟩ := hp
    rw [has] at hS
    revert aa
    refine qA hR rfl (fun _ hS => Yld.neqB hS rfl rfl Try.underlying4) ?_
    refine qB (t := 65) false rfl (by rfl) ?_
    intro aa hS
    refine wpList_nil ?_
    refine hK1188 _ _ ?_
    refine condF hS rfl ?_
    refine wp_skip ?_
    refine hK1187 _ _ ?_
    refine wp_seq_k ?_; intro K1189 hK1189
    refine wp_region_lit ?_
    revert aa
    refine qM hR ?_
    refine qM hR ?_
    refine qA hR rfl (fun _ hS => Yld.build hS rfl (bld59_0_1 _ _)) ?_
    intro aa hS
    refine sB (BbuildSlice hS hR rfl (bls55_1_0 _ _) (by decide) ?_); clear hS hR; intro aa ww bb69 hS hR
    refine sB (BappendR (sz := 2) hS hR rfl rfl Try.underlying55 info59 rfl rfl (by rfl) pkQ (XC.one (((i : Int), (0 : Int))) pkQ (by rfl) rfl) (by intro _; rfl) (by show (_ + _) * 16 ≤ _; first | omega | (rw [cst_len]; omega) | (rw [wasL_len]; omega) | (simp only [List.length_append, wasL_len, List.length_singleton]; omega)) (by first | omega | (rw [cst_len]; omega) | (rw [wasL_len]; omega) | (simp only [List.length_append, wasL_len, List.length_singleton]; omega)) (by first | rfl | (simp; done) | (simp; omega)) (by decide) ?_); clear hS hR; intro aa ww r70 c70 hS hR
    revert aa
    refine qN hR ?_
    intro aa hS
    refine wpList_nil ?_
    refine hK1189 _ _ ?_
    refine wp_seq_k ?_; intro K1190 hK1190
    refine wp_region_lit ?_
    revert aa
    refine qM hR ?_
    intro aa hS
    refine wpList_nil ?_
    refine hK1190 _ _ ?_
    refine condF hS rfl ?_
    refine wp_skip ?_
    refine hK1180 _ _ ?_
    refine wp_region_lit ?_
    refine sA hS hR adQ (by decide) ?_; clear hS; intro aa hS
    revert aa
    refine qM hR ?_
    intro aa hS
    refine wpList_nil ?_
    rw [hwl] at hS hR
    refine ⟨(i + 1, _, _), ?_, ?_, hS.le (Le.cons rfl (Le.cons rfl (Le.nilapp (Le.cons rfl (Le.cons rfl (Le.cons rfl (Le.cons rfl (Le.nil _)))))))), hR.sub (Ex.take pkQ (Ex.nilapp exQ))⟩
    ·
     dsimp only; omega
    ·
     dsimp only; omega
  ·
   intro hg hS
   obtain rfl : S = i := by omega
   refine condF hS rfl ?_
   refine wp_exit ?_
   refine hK1175 _ _ ?_
   refine wp_seq_k ?_; intro K1191 hK1191
   refine drawn krQ hR Ex.refl ?_; clear hR; intro ww hR hR0
   revert aa
   refine eA 0 rfl krQ (fun _ _ _ h => h) hR0 rfl (fun _ hS => Yld.move hS rfl) ?_
   refine eA 2 rfl krQ (fun _ _ _ h => h) hR0 rfl (fun _ hS => Yld.fieldAddr hS rfl 0 Try.underlying31 rfl rfl info3 (by decide)) ?_
   intro aa hS
   refine dA 3 rfl krQ krQ krQ (fun _ _ _ h => h) hS hR0 (Yld.load1 hS rfl Try.underlying3 rfl (by first | exact Rd.blk pkQ (by rfl) | exact Rd.rec pkQ (by intro _; rfl) (by first | omega | (rw [cst_len]; omega) | (rw [wasL_len]; omega) | (simp only [List.length_append, wasL_len, List.length_singleton]; omega)) rfl | exact Rd.rec0 pkQ (by intro _; rfl) (by first | omega | (rw [cst_len]; omega) | (rw [wasL_len]; omega) | (simp only [List.length_append, wasL_len, List.length_singleton]; omega)) rfl | exact Rd.flatJ pkQ (by intro _; rfl) (by first | omega | (rw [cst_len]; omega) | (rw [wasL_len]; omega) | (simp only [List.length_append, wasL_len, List.length_singleton]; omega)) rfl | exact Rd.flat0 pkQ (by intro _; rfl) (by first | omega | (rw [cst_len]; omega) | (rw [wasL_len]; omega) | (simp only [List.length_append, wasL_len, List.length_singleton]; omega)) rfl)) (by decide) ?_; clear hS; intro aa hS
   refine dOne (i := 1) krQ ?_
   refine dop rfl (Bcall hS rfl Try.call19 (adLen_ok hE.m.f.w (hR.pk (r := deskA _ b _ _ _ _) pkQ)) (by decide) ?_); clear hS; intro aa ww vv hS hp
   clear hR hR0
   obtain ⟨rfl, hR⟩ := hp
   refine dnext (hR.sub exQ) ?_; intro hR0
   revert aa
   refine eA 4 rfl krQ (fun _ _ _ h => h) hR0 rfl (fun _ hS => Yld.eql hS rfl rfl) ?_
   refine eA 5 rfl krQ (fun _ _ _ h => h) hR0 rfl (fun _ hS => Yld.assign hS rfl) ?_
   intro aa hS
   refine wpAnyH_done krQ ?_ _; clear hR0
   refine hK1191 _ _ ?_
   refine wp_seq_k ?_; intro K1192 hK1192
   refine wp_seq_k ?_; intro K1193 hK1193
   refine wp_region_lit ?_
   revert aa
   refine qM hR ?_
   refine qM hR ?_
   refine qA hR rfl (fun _ hS => Yld.len hS rfl Try.underlying24) ?_
   refine qA hR rfl (fun _ hS => Yld.min hS rfl rfl) ?_
   refine qA hR rfl (fun _ hS => Yld.sliceHi hS rfl rfl Try.underlying24 info49 (by omega) (by omega)) ?_
   intro aa hS
   obtain ⟨mm, hmm0, hmm1⟩ : ∃ y : Nat, (Min.min (nn2 : Int) 80).toNat = y ∧ y ≤ nn2 ∧ y ≤ 80 := ⟨_, rfl, by omega, by omega⟩
   replace hS := hS.say (t := 89) (.slice q2 mm c2) rfl (by rw [hmm0])
   revert aa
   refine qA hR rfl (fun _ hS => Yld.len hS rfl Try.underlying24) ?_
   refine qM hR ?_
   intro aa hS
   refine wpList_nil ?_
   refine hK1193 _ _ ?_
   refine wp_block ?_
   replace hR := hR.pk (r := deskA dd b S lim (t, p, u) E) pkQ
   refine loopI (X := Nat × Dk) [(7, _), (8, _), (11, _), (15, _), (89, _), (90, _)] (fun x => [(91, .int .i64 (x.1 : Int))]) (fun x => [deskA dd b S lim (t, p, u) x.2]) _ (fun x => x.1 ≤ mm ∧ MD S lim t p u (80 + x.1) x.2 ∧ Keep E x.2) (fun x => mm - x.1) (0, E) ⟨Nat.zero_le _, hE.m, Keep.self hEo⟩ (hS.le (Le.cons rfl (Le.nilapp (Le.cons rfl (Le.cons rfl (Le.cons rfl (Le.cons rfl (Le.cons rfl (Le.cons rfl (Le.nil _)))))))))) hR ?_
   clear hS hR; rintro ⟨i, F⟩ aa ww hI hS hR; dsimp only [List.cons_append, List.nil_append] at hI hS hR
   refine wp_seq_k ?_; intro K1195 hK1195
   refine wp_region_lit ?_
   refine sA hS hR (Yld.lss hS rfl rfl) (by decide) ?_; clear hS; intro aa hS
   refine wpList_nil ?_
   refine hK1195 _ _ ?_
   refine wp_seq_k ?_; intro K1196 hK1196
   refine hS.splitB (t := 92) rfl ?_ ?_ <;> clear hS
   ·
    intro hg hS
    refine condT hS rfl ?_
    refine wp_skip ?_
    refine hK1196 _ _ ?_
    refine wp_seq_k ?_; intro K1197 hK1197
    refine wp_block ?_
    refine wp_seq_k ?_; intro K1198 hK1198
    refine wp_region_lit ?_
    obtain ⟨ba, ia, ns, hq, hx, hl, hw, hc⟩ := A2.at (k := i) (by omega)
    obtain ⟨s0, s1, s2, rfl⟩ := len3 hl
    subst hq
    have hw0 : 0 ≤ s0 ∧ s0 ≤ 255 := hw.1
    have hw1 : 0 ≤ s1 ∧ s1 ≤ 4294967295 := hw.2.1
    revert aa
    refine qA hR rfl (fun _ hS => by first | exact Yld.indexL (sz := 3) _ hS rfl rfl Try.underlying24 info49 pkQ rfl rfl (by omega) | exact Yld.indexB (sz := 3) _ hS rfl rfl Try.underlying24 info49 rfl rfl (by omega) | exact Yld.indexSlice hS rfl rfl Try.underlying24 info49 (by omega) (by omega)) ?_
    refine qA hR rfl (fun _ hS => Yld.loadAgg (vs := [.int .u8 s0, .int .u32 s1, .int .i64 s2]) hS rfl Try.underlying49 rfl info49 (Rds.at (Rds.old pkQ hc) (by rfl)) (by rfl)) ?_
    intro aa hS
    refine sB (Balloc hS hR info49 (by rfl) (by rfl) (by decide) ?_); clear hS hR; intro aa ww bb17 hS hR
    refine sB (Bstore hS hR rfl rfl (by rfl) info49 (by rfl) pkQ (by rfl) (Nat.le_of_ble_eq_true rfl) ?_); clear hR; intro ww hR
    refine wpList_nil ?_
    refine hK1198 _ _ ?_
    refine wp_seq_k ?_; intro K1199 hK1199
    refine wp_seq_k ?_; intro K1200 hK1200
    refine wp_region_lit ?_
    refine sA hS hR (Yld.fieldAddr hS rfl 0 Try.underlying49 rfl rfl info5 (by decide)) (by decide) ?_; clear hS; intro aa hS
    refine sA hS hR (Yld.load1 hS rfl Try.underlying5 rfl (by first | exact Rd.blk pkQ (by rfl) | exact Rd.rec pkQ (by intro _; rfl) (by first | omega | (rw [cst_len]; omega) | (rw [wasL_len]; omega) | (simp only [List.length_append, wasL_len, List.length_singleton]; omega)) rfl | exact Rd.rec0 pkQ (by intro _; rfl) (by first | omega | (rw [cst_len]; omega) | (rw [wasL_len]; omega) | (simp only [List.length_append, wasL_len, List.length_singleton]; omega)) rfl | exact Rd.flatJ pkQ (by intro _; rfl) (by first | omega | (rw [cst_len]; omega) | (rw [wasL_len]; omega) | (simp only [List.length_append, wasL_len, List.length_singleton]; omega)) rfl | exact Rd.flat0 pkQ (by intro _; rfl) (by first | omega | (rw [cst_len]; omega) | (rw [wasL_len]; omega) | (simp only [List.length_append, wasL_len, List.length_singleton]; omega)) rfl)) (by decide) ?_; clear hS; intro aa hS
    revert aa
    refine qA hR rfl (fun _ hS => by first | exact Yld.rem64 hS rfl rfl (by omega) | exact Yld.rem hS rfl rfl (by omega)) ?_
    refine qA hR rfl (fun _ hS => Yld.eql hS rfl rfl) ?_
    intro aa hS
    refine wpList_nil ?_
    refine hK1200 _ _ ?_
    refine hS.splitB (t := 98) rfl ?_ ?_ <;> clear hS
    ·
     intro hg hS
     refine condT hS rfl ?_
     refine wp_exit ?_
     refine hK1197 _ _ ?_
     refine wp_region_lit ?_
     refine sA hS hR adQ (by decide) ?_; clear hS; intro aa hS
     revert aa
     refine qM hR ?_
     intro aa hS
     refine wpList_nil ?_
     refine ⟨(i + 1, F), ?_, ?_, hS.le (Le.cons rfl (Le.nilapp (Le.cons rfl (Le.cons rfl (Le.cons rfl (Le.cons rfl (Le.cons rfl (Le.cons rfl (Le.nil _))))))))), hR.sub (Ex.take pkQ (Ex.nilapp exQ))⟩
     ·
      first | exact ⟨by omega, hM2, hK2⟩ | exact ⟨by omega, hI.2.1.le (by omega), hI.2.2⟩
     ·
      dsimp only; omega
    ·
     intro hg hS
     have hk6 : ¬ s0 % 8 = 6 := by omega
     refine condF hS rfl ?_
     refine wp_skip ?_
     refine hK1199 _ _ ?_
     refine wp_seq_k ?_; intro K1201 hK1201
     refine wp_region_lit ?_
     revert aa
     refine qM hR ?_
     refine qA hR rfl (fun _ hS => Yld.fieldAddr hS rfl 0 Try.underlying31 rfl rfl info3 (by decide)) ?_
     intro aa hS
     refine sA hS hR (Yld.load1 hS rfl Try.underlying3 rfl (by first | exact Rd.blk pkQ (by rfl) | exact Rd.rec pkQ (by intro _; rfl) (by first | omega | (rw [cst_len]; omega) | (rw [wasL_len]; omega) | (simp only [List.length_append, wasL_len, List.length_singleton]; omega)) rfl | exact Rd.rec0 pkQ (by intro _; rfl) (by first | omega | (rw [cst_len]; omega) | (rw [wasL_len]; omega) | (simp only [List.length_append, wasL_len, List.length_singleton]; omega)) rfl | exact Rd.flatJ pkQ (by intro _; rfl) (by first | omega | (rw [cst_len]; omega) | (rw [wasL_len]; omega) | (simp only [List.length_append, wasL_len, List.length_singleton]; omega)) rfl | exact Rd.flat0 pkQ (by intro _; rfl) (by first | omega | (rw [cst_len]; omega) | (rw [wasL_len]; omega) | (simp only [List.length_append, wasL_len, List.length_singleton]; omega)) rfl)) (by decide) ?_; clear hS; intro aa hS
     refine sA hS hR (Yld.loadAgg hS rfl Try.underlying49 rfl info49 (by first | exact Rds.cons (Rd.blk pkQ (by rfl)) (Rds.cons (Rd.blk pkQ (by rfl)) (Rds.cons (Rd.blk pkQ (by rfl)) (Rds.nil))) | exact Rds.rec pkQ (by intro _; rfl) (by first | omega | (rw [cst_len]; omega) | (rw [wasL_len]; omega) | (simp only [List.length_append, wasL_len, List.length_singleton]; omega)) | exact Rds.flat1 pkQ (by intro _; rfl) (by first | omega | (rw [cst_len]; omega) | (rw [wasL_len]; omega) | (simp only [List.length_append, wasL_len, List.length_singleton]; omega))) (by rfl)) (by decide) ?_; clear hS; intro aa hS
     refine sB (Bcall hS rfl Try.call20 (do_ok (k := s0) (a := s1) (x := s2) hI.2.1 (by omega) (by omega) (by omega) hw0 hw1 (hR.pk (r := deskA _ b _ _ _ _) pkQ)) (by decide) ?_); clear hS; intro aa ww vv hS hp
     clear hR
     obtain ⟨rfl, hR⟩ := hp
     obtain ⟨rr, hrr⟩ : ∃ y, doD S lim t p u F s0 s1 s2 = y := ⟨_, rfl⟩
     have hM2 := hI.2.1.do (k := s0) (a := s1) (x := s2) hw1.1 (by omega)
     have hK2 := hI.2.2.do (k := s0) (a := s1) (x := s2) hI.2.1.f hw1.1 hk6
     have hkn := fun h1 h2 => hI.2.2.not (k := s0) (a := s1) (x := s2) hE.m.f.w hI.2.1 (by omega) hw1.1 h2 h1
     rw [hrr] at hS hR hM2 hK2 hkn
     obtain ⟨⟨r1, r2, r3, r4⟩, tr, G⟩ := rr
     unfold doV at hS
     dsimp only at hS hR hM2 hK2 hkn
     revert aa
     refine qM hR ?_
     refine qX hR ?_
     refine qX hR ?_
     intro aa hS
     refine sB (Balloc hS hR info36 (by rfl) (by rfl) (by decide) ?_); clear hS hR; intro aa ww bb18 hS hR
     refine sB (Bstore hS hR rfl rfl (by rfl) info36 (by rfl) pkQ (by rfl) (Nat.le_of_ble_eq_true rfl) ?_); clear hR; intro ww hR
     revert aa
     refine qN hR ?_
     intro aa hS
     refine wpList_nil ?_
     refine hK1201 _ _ ?_
     refine wp_seq_k ?_; intro K1202 hK1202
     refine wp_region_lit ?_
     revert aa
     refine qM hR ?_
     refine qM hR ?_
     intro aa hS
     refine hS.splitB (t := 108) rfl ?_ ?_ <;> clear hS
     ·
      intro hg hS
      have htr := hg
      revert aa
      refine qMg hR ?_
      refine qA hR rfl (fun _ hS => Yld.pickT hS rfl rfl) ?_
      refine qM hR ?_
      intro aa hS
      refine hS.splitB (t := 111) rfl ?_ ?_ <;> clear hS
      ·
       intro hg hS
       refine sAg hS hR rfl rfl (Yld.fieldAddr hS rfl 0 Try.underlying36 rfl rfl info5 (by decide)) (by decide) ?_; clear hS; intro aa hS
       refine sAg hS hR rfl rfl (Yld.load1 hS rfl Try.underlying5 rfl (by first | exact Rd.blk pkQ (by rfl) | exact Rd.rec pkQ (by intro _; rfl) (by first | omega | (rw [cst_len]; omega) | (rw [wasL_len]; omega) | (simp only [List.length_append, wasL_len, List.length_singleton]; omega)) rfl | exact Rd.rec0 pkQ (by intro _; rfl) (by first | omega | (rw [cst_len]; omega) | (rw [wasL_len]; omega) | (simp only [List.length_append, wasL_len, List.length_singleton]; omega)) rfl | exact Rd.flatJ pkQ (by intro _; rfl) (by first | omega | (rw [cst_len]; omega) | (rw [wasL_len]; omega) | (simp only [List.length_append, wasL_len, List.length_singleton]; omega)) rfl | exact Rd.flat0 pkQ (by intro _; rfl) (by first | omega | (rw [cst_len]; omega) | (rw [wasL_len]; omega) | (simp only [List.length_append, wasL_len, List.length_singleton]; omega)) rfl)) (by decide) ?_; clear hS; intro aa hS
       revert aa
       refine qAg hR rfl rfl rfl (fun _ hS => Yld.eql hS rfl rfl) ?_
       refine qB (t := 114) false rfl (by exact decide_eq_false (hkn htr (by omega))) ?_
       refine qA hR rfl (fun _ hS => Yld.pickT hS rfl rfl) ?_
       intro aa hS
       refine wpList_nil ?_
       refine hK1202 _ _ ?_
       refine condF hS rfl ?_
       refine wp_skip ?_
       refine hK1197 _ _ ?_
       refine wp_region_lit ?_
       refine sA hS hR adQ (by decide) ?_; clear hS; intro aa hS
       revert aa
       refine qM hR ?_
       intro aa hS
       refine wpList_nil ?_
       refine ⟨(i + 1, _), ?_, ?_, hS.le (Le.cons rfl (Le.nilapp (Le.cons rfl (Le.cons rfl (Le.cons rfl (Le.cons rfl (Le.cons rfl (Le.cons rfl (Le.nil _))))))))), hR.sub (Ex.take pkQ (Ex.nilapp exQ))⟩
       ·
        first | exact ⟨by omega, hM2, hK2⟩ | exact ⟨by omega, hI.2.1.le (by omega), hI.2.2⟩
       ·
        dsimp only; omega
      ·
       intro hg hS
       revert aa
       refine qZ ?_
       refine qZ ?_
       refine qZ ?_
       refine qA hR rfl (fun _ hS => Yld.pickF hS rfl rfl) ?_
       intro aa hS
       refine wpList_nil ?_
       refine hK1202 _ _ ?_
       refine condF hS rfl ?_
       refine wp_skip ?_
       refine hK1197 _ _ ?_
       refine wp_region_lit ?_
       refine sA hS hR adQ (by decide) ?_; clear hS; intro aa hS
       revert aa
       refine qM hR ?_
       intro aa hS
       refine wpList_nil ?_
       refine ⟨(i + 1, _), ?_, ?_, hS.le (Le.cons rfl (Le.nilapp (Le.cons rfl (Le.cons rfl (Le.cons rfl (Le.cons rfl (Le.cons rfl (Le.cons rfl (Le.nil _))))))))), hR.sub (Ex.take pkQ (Ex.nilapp exQ))⟩
       ·
        first | exact ⟨by omega, hM2, hK2⟩ | exact ⟨by omega, hI.2.1.le (by omega), hI.2.2⟩
       ·
        dsimp only; omega
     ·
      intro hg hS
      revert aa
      refine qZ ?_
      refine qA hR rfl (fun _ hS => Yld.pickF hS rfl rfl) ?_
      refine qM hR ?_
      refine qZ ?_
      refine qZ ?_
      refine qZ ?_
      refine qA hR rfl (fun _ hS => Yld.pickF hS rfl rfl) ?_
      intro aa hS
      refine wpList_nil ?_
      refine hK1202 _ _ ?_
      refine condF hS rfl ?_
      refine wp_skip ?_
      refine hK1197 _ _ ?_
      refine wp_region_lit ?_
      refine sA hS hR adQ (by decide) ?_; clear hS; intro aa hS
      revert aa
      refine qM hR ?_
      intro aa hS
      refine wpList_nil ?_
      refine ⟨(i + 1, _), ?_, ?_, hS.le (Le.cons rfl (Le.nilapp (Le.cons rfl (Le.cons rfl (Le.cons rfl (Le.cons rfl (Le.cons rfl (Le.cons rfl (Le.nil _))))))))), hR.sub (Ex.take pkQ (Ex.nilapp exQ))⟩
      ·
       first | exact ⟨by omega, hM2, hK2⟩ | exact ⟨by omega, hI.2.1.le (by omega), hI.2.2⟩
      ·
       dsimp only; omega
   ·
    intro hg hS
    have hMF := hI.2.1
    have hK : Keep E F ∧ True := ⟨hI.2.2, trivial⟩
    refine condF hS rfl ?_
    refine wp_exit ?_
    refine hK1192 _ _ ?_
    refine wp_seq_k ?_; intro K1203 hK1203
    refine wp_seq_k ?_; intro K1204 hK1204
    refine wp_region_lit ?_
    revert aa
    refine qM hR ?_
    refine qA hR rfl (fun _ hS => Yld.len hS rfl Try.underlying55) ?_
    refine qM hR ?_
    intro aa hS
    refine wpList_nil ?_
    refine hK1204 _ _ ?_
    refine wp_block ?_
    refine loopI (X := Nat) [(7, _), (117, _), (118, _)] (fun x => [(119, .int .i64 (x : Int))]) (fun x => []) _ (fun x => x ≤ S) (fun x => S - x) 0 (Nat.zero_le _) (hS.le (Le.cons rfl (Le.nilapp (Le.cons rfl (Le.cons rfl (Le.cons rfl (Le.nil _))))))) hR ?_
    clear hS hR; rintro i aa ww hI hS hR; dsimp only [List.cons_append, List.nil_append] at hI hS hR
    refine wp_seq_k ?_; intro K1206 hK1206
    refine wp_region_lit ?_
    refine sA hS hR (Yld.lss hS rfl rfl) (by decide) ?_; clear hS; intro aa hS
    refine wpList_nil ?_
    refine hK1206 _ _ ?_
    refine wp_seq_k ?_; intro K1207 hK1207
    refine hS.splitB (t := 120) rfl ?_ ?_ <;> clear hS
    ·
     intro hg hS
     have hiS : i < S := by rw [wasL_len] at hg; omega
     obtain ⟨wv, hwe⟩ : ∃ y, owv E.T.O i = y := ⟨_, rfl⟩
     have hwr := wasL_get (O := E.T.O) hiS
     rw [hwe] at hwr
     refine condT hS rfl ?_
     refine wp_skip ?_
     refine hK1207 _ _ ?_
     refine wp_seq_k ?_; intro K1208 hK1208
     refine wp_block ?_
     refine wp_seq_k ?_; intro K1209 hK1209
     refine wp_region_lit ?_
     revert aa
     refine qA hR rfl (fun _ hS => ilQ 2 (i) Try.underlying55 info59) ?_
     refine qA hR rfl (fun _ hS => Yld.loadAgg (vs := [.int .i64 (i : Int), .int .i64 wv]) hS rfl Try.underlying59 rfl info59 (Rds.pairs pkQ hwr) (by rfl)) ?_
     intro aa hS
     refine sB (Balloc hS hR info59 (by rfl) (by rfl) (by decide) ?_); clear hS hR; intro aa ww bb21 hS hR
     refine sB (Bstore hS hR rfl rfl (by rfl) info59 (by rfl) pkQ (by rfl) (Nat.le_of_ble_eq_true rfl) ?_); clear hR; intro ww hR
     refine wpList_nil ?_
     refine hK1209 _ _ ?_
     refine wp_seq_k ?_; intro K1210 hK1210
     refine wp_region_lit ?_
     by_cases hn : (ofO E.T.O (i : Int)).isSome = true
     ·
      revert aa
      refine qM hR ?_
      refine qA hR rfl (fun _ hS => Yld.indexArr hS rfl rfl Try.underlying59 info3 (by omega) (by omega)) ?_
      intro aa hS
      refine sA hS hR (Yld.load1 hS rfl Try.underlying3 rfl (by first | exact Rd.blk pkQ (by rfl) | exact Rd.rec pkQ (by intro _; rfl) (by first | omega | (rw [cst_len]; omega) | (rw [wasL_len]; omega) | (simp only [List.length_append, wasL_len, List.length_singleton]; omega)) rfl | exact Rd.rec0 pkQ (by intro _; rfl) (by first | omega | (rw [cst_len]; omega) | (rw [wasL_len]; omega) | (simp only [List.length_append, wasL_len, List.length_singleton]; omega)) rfl | exact Rd.flatJ pkQ (by intro _; rfl) (by first | omega | (rw [cst_len]; omega) | (rw [wasL_len]; omega) | (simp only [List.length_append, wasL_len, List.length_singleton]; omega)) rfl | exact Rd.flat0 pkQ (by intro _; rfl) (by first | omega | (rw [cst_len]; omega) | (rw [wasL_len]; omega) | (simp only [List.length_append, wasL_len, List.length_singleton]; omega)) rfl)) (by decide) ?_; clear hS; intro aa hS
      obtain ⟨ob, hob⟩ := Option.isSome_iff_exists.1 hn
      obtain ⟨ss, hse, hsm⟩ := ofO_in hob
      have hob6 := hE.m.six _ hsm
      dsimp only at hob6
      obtain ⟨hk1, hk2⟩ := hK.1 _ hsm
      have hof := ofO_of hMF.f.w.sf.nds hk1
      dsimp only at hk2
      rw [← hse] at hof
      have has := asD_some hMF.f.w hof
      obtain rfl : i = ss := by omega
      rw [decide_eq_false hk2] at has
      have hwv := owv_some hob
      rw [hwe] at hwv
      refine sB (Bcall hS rfl Try.call23 (adOf_ok (x := (i : Int)) (hR.pk (r := deskA _ b _ _ _ _) pkQ)) (by decide) ?_); clear hS; intro aa ww vv hS hp
      clear hR
      obtain ⟨rfl, hR⟩ := hp
      rw [hof] at hS
      dsimp only [Option.getD, Option.isSome] at hS
      revert aa
      refine qM hR ?_
      refine qX hR ?_
      refine qX hR ?_
      refine qN hR ?_
      refine qN hR ?_
      intro aa hS
      refine wpList_nil ?_
      refine hK1210 _ _ ?_
      refine wp_seq_k ?_; intro K1211 hK1211
      refine wp_region_lit ?_
      refine sA hS hR (Yld.indexArr hS rfl rfl Try.underlying59 info3 (by omega) (by omega)) (by decide) ?_; clear hS; intro aa hS
      refine sA hS hR (Yld.load1 hS rfl Try.underlying3 rfl (by first | exact Rd.blk pkQ (by rfl) | exact Rd.rec pkQ (by intro _; rfl) (by first | omega | (rw [cst_len]; omega) | (rw [wasL_len]; omega) | (simp only [List.length_append, wasL_len, List.length_singleton]; omega)) rfl | exact Rd.rec0 pkQ (by intro _; rfl) (by first | omega | (rw [cst_len]; omega) | (rw [wasL_len]; omega) | (simp only [List.length_append, wasL_len, List.length_singleton]; omega)) rfl | exact Rd.flatJ pkQ (by intro _; rfl) (by first | omega | (rw [cst_len]; omega) | (rw [wasL_len]; omega) | (simp only [List.length_append, wasL_len, List.length_singleton]; omega)) rfl | exact Rd.flat0 pkQ (by intro _; rfl) (by first | omega | (rw [cst_len]; omega) | (rw [wasL_len]; omega) | (simp only [List.length_append, wasL_len, List.length_singleton]; omega)) rfl)) (by decide) ?_; clear hS; intro aa hS
      revert aa
      refine qA hR rfl (fun _ hS => Yld.gtr hS rfl rfl) ?_
      refine qB (t := 132) true rfl (by exact decide_eq_true (by omega)) ?_
      refine qM hR ?_
      refine qMg hR ?_
      refine qAg hR rfl rfl rfl (fun _ hS => Yld.not hS rfl) ?_
      refine qB (t := 135) false rfl (by rfl) ?_
      refine qMg hR ?_
      refine qMg hR ?_
      refine qAg hR rfl rfl rfl (fun _ hS => by first | exact Yld.to (Yld.convInt hS rfl rfl Try.underlying3) (congrArg (Value.int .i64) (IntWalk.i64_in _ (by omega))) | exact Yld.convInt hS rfl rfl Try.underlying3) ?_
      intro aa hS
      refine sAg hS hR rfl rfl adQ (by decide) ?_; clear hS; intro aa hS
      refine sAg hS hR rfl rfl (Yld.indexArr hS rfl rfl Try.underlying59 info3 (by omega) (by omega)) (by decide) ?_; clear hS; intro aa hS
      refine sAg hS hR rfl rfl (Yld.load1 hS rfl Try.underlying3 rfl (by first | exact Rd.blk pkQ (by rfl) | exact Rd.rec pkQ (by intro _; rfl) (by first | omega | (rw [cst_len]; omega) | (rw [wasL_len]; omega) | (simp only [List.length_append, wasL_len, List.length_singleton]; omega)) rfl | exact Rd.rec0 pkQ (by intro _; rfl) (by first | omega | (rw [cst_len]; omega) | (rw [wasL_len]; omega) | (simp only [List.length_append, wasL_len, List.length_singleton]; omega)) rfl | exact Rd.flatJ pkQ (by intro _; rfl) (by first | omega | (rw [cst_len]; omega) | (rw [wasL_len]; omega) | (simp only [List.length_append, wasL_len, List.length_singleton]; omega)) rfl | exact Rd.flat0 pkQ (by intro _; rfl) (by first | omega | (rw [cst_len]; omega) | (rw [wasL_len]; omega) | (simp only [List.length_append, wasL_len, List.length_singleton]; omega)) rfl)) (by decide) ?_; clear hS; intro aa hS
      revert aa
      refine qAg hR rfl rfl rfl (fun _ hS => Yld.neq hS rfl rfl) ?_
      refine qB (t := 142) false rfl (by exact decide_eq_false (by omega)) ?_
      refine qAg hR rfl rfl rfl (fun _ hS => Yld.pickF hS rfl rfl) ?_
      refine qMg hR ?_
      refine qMg hR ?_
      refine qAg hR rfl rfl rfl (fun _ hS => Yld.indexArr hS rfl rfl Try.underlying59 info3 (by omega) (by omega)) ?_
      intro aa hS
      refine sAg hS hR rfl rfl (Yld.load1 hS rfl Try.underlying3 rfl (by first | exact Rd.blk pkQ (by rfl) | exact Rd.rec pkQ (by intro _; rfl) (by first | omega | (rw [cst_len]; omega) | (rw [wasL_len]; omega) | (simp only [List.length_append, wasL_len, List.length_singleton]; omega)) rfl | exact Rd.rec0 pkQ (by intro _; rfl) (by first | omega | (rw [cst_len]; omega) | (rw [wasL_len]; omega) | (simp only [List.length_append, wasL_len, List.length_singleton]; omega)) rfl | exact Rd.flatJ pkQ (by intro _; rfl) (by first | omega | (rw [cst_len]; omega) | (rw [wasL_len]; omega) | (simp only [List.length_append, wasL_len, List.length_singleton]; omega)) rfl | exact Rd.flat0 pkQ (by intro _; rfl) (by first | omega | (rw [cst_len]; omega) | (rw [wasL_len]; omega) | (simp only [List.length_append, wasL_len, List.length_singleton]; omega)) rfl)) (by decide) ?_; clear hS; intro aa hS
      refine sBg hS rfl rfl (Bcall hS rfl Try.call24 (adAssured_ok (x := (i : Int)) hMF.f.w (hR.pk (r := deskA _ b _ _ _ _) pkQ)) (by decide) ?_); clear hS; intro aa ww vv hS hp
      clear hR
      obtain ⟨rfl, hR⟩ := hp
      rw [has] at hS
      revert aa
      refine qAg hR rfl rfl rfl (fun _ hS => Yld.not hS rfl) ?_
      refine qB (t := 149) false rfl (by rfl) ?_
      refine qAg hR rfl rfl rfl (fun _ hS => Yld.pickF hS rfl rfl) ?_
      refine qA hR rfl (fun _ hS => Yld.pickT hS rfl rfl) ?_
      intro aa hS
      refine wpList_nil ?_
      refine hK1211 _ _ ?_
      refine condF hS rfl ?_
      refine wp_skip ?_
      refine hK1208 _ _ ?_
      refine wp_region_lit ?_
      refine sA hS hR adQ (by decide) ?_; clear hS; intro aa hS
      revert aa
      refine qM hR ?_
      intro aa hS
      refine wpList_nil ?_
      refine ⟨i + 1, ?_, ?_, hS.le (Le.cons rfl (Le.nilapp (Le.cons rfl (Le.cons rfl (Le.cons rfl (Le.nil _)))))), hR.sub (Ex.nilapp exQ)⟩
      ·
       omega
      ·
       omega
     ·
      revert aa
      refine qM hR ?_
      refine qA hR rfl (fun _ hS => Yld.indexArr hS rfl rfl Try.underlying59 info3 (by omega) (by omega)) ?_
      intro aa hS
      refine sA hS hR (Yld.load1 hS rfl Try.underlying3 rfl (by first | exact Rd.blk pkQ (by rfl) | exact Rd.rec pkQ (by intro _; rfl) (by first | omega | (rw [cst_len]; omega) | (rw [wasL_len]; omega) | (simp only [List.length_append, wasL_len, List.length_singleton]; omega)) rfl | exact Rd.rec0 pkQ (by intro _; rfl) (by first | omega | (rw [cst_len]; omega) | (rw [wasL_len]; omega) | (simp only [List.length_append, wasL_len, List.length_singleton]; omega)) rfl | exact Rd.flatJ pkQ (by intro _; rfl) (by first | omega | (rw [cst_len]; omega) | (rw [wasL_len]; omega) | (simp only [List.length_append, wasL_len, List.length_singleton]; omega)) rfl | exact Rd.flat0 pkQ (by intro _; rfl) (by first | omega | (rw [cst_len]; omega) | (rw [wasL_len]; omega) | (simp only [List.length_append, wasL_len, List.length_singleton]; omega)) rfl)) (by decide) ?_; clear hS; intro aa hS
      have hob : ofO E.T.O (i : Int) = none := by
       cases hv : ofO E.T.O (i : Int) with
       | none => rfl
       | some o => rw [hv] at hn; simp at hn
      have hwv := owv_none hob
      rw [hwe] at hwv
      refine sB (Bcall hS rfl Try.call23 (adOf_ok (x := (i : Int)) (hR.pk (r := deskA _ b _ _ _ _) pkQ)) (by decide) ?_); clear hS; intro aa ww vv hS hp
      clear hR
      obtain ⟨rfl, hR⟩ := hp
      revert aa
      refine qM hR ?_
      refine qX hR ?_
      refine qX hR ?_
      refine qN hR ?_
      refine qN hR ?_
      intro aa hS
      refine wpList_nil ?_
      refine hK1210 _ _ ?_
      refine wp_seq_k ?_; intro K1212 hK1212
      refine wp_region_lit ?_
      refine sA hS hR (Yld.indexArr hS rfl rfl Try.underlying59 info3 (by omega) (by omega)) (by decide) ?_; clear hS; intro aa hS
      refine sA hS hR (Yld.load1 hS rfl Try.underlying3 rfl (by first | exact Rd.blk pkQ (by rfl) | exact Rd.rec pkQ (by intro _; rfl) (by first | omega | (rw [cst_len]; omega) | (rw [wasL_len]; omega) | (simp only [List.length_append, wasL_len, List.length_singleton]; omega)) rfl | exact Rd.rec0 pkQ (by intro _; rfl) (by first | omega | (rw [cst_len]; omega) | (rw [wasL_len]; omega) | (simp only [List.length_append, wasL_len, List.length_singleton]; omega)) rfl | exact Rd.flatJ pkQ (by intro _; rfl) (by first | omega | (rw [cst_len]; omega) | (rw [wasL_len]; omega) | (simp only [List.length_append, wasL_len, List.length_singleton]; omega)) rfl | exact Rd.flat0 pkQ (by intro _; rfl) (by first | omega | (rw [cst_len]; omega) | (rw [wasL_len]; omega) | (simp only [List.length_append, wasL_len, List.length_singleton]; omega)) rfl)) (by decide) ?_; clear hS; intro aa hS
      revert aa
      refine qA hR rfl (fun _ hS => Yld.gtr hS rfl rfl) ?_
      refine qB (t := 132) false rfl (by exact decide_eq_false (by omega)) ?_
      refine qM hR ?_
      refine qZ ?_
      refine qZ ?_
      refine qZ ?_
      refine qU ?_
      refine qU ?_
      refine qU ?_
      refine qU ?_
      refine qU ?_
      refine qU ?_
      refine qZ ?_
      refine qZ ?_
      refine qU ?_
      refine qU ?_
      refine qU ?_
      refine qU ?_
      refine qU ?_
      refine qZ ?_
      refine qA hR rfl (fun _ hS => Yld.pickF hS rfl rfl) ?_
      intro aa hS
      refine wpList_nil ?_
      refine hK1212 _ _ ?_
      refine condF hS rfl ?_
      refine wp_skip ?_
      refine hK1208 _ _ ?_
      refine wp_region_lit ?_
      refine sA hS hR adQ (by decide) ?_; clear hS; intro aa hS
      revert aa
      refine qM hR ?_
      intro aa hS
      refine wpList_nil ?_
      refine ⟨i + 1, ?_, ?_, hS.le (Le.cons rfl (Le.nilapp (Le.cons rfl (Le.cons rfl (Le.cons rfl (Le.nil _)))))), hR.sub (Ex.nilapp exQ)⟩
      ·
       omega
      ·
       omega
    ·
     intro hg hS
     refine condF hS rfl ?_
     refine wp_exit ?_
     refine hK1203 _ _ ?_
     refine wp_seq_k ?_; intro K1213 hK1213
     refine wp_region_lit ?_
     revert aa
     refine qN hR ?_
     intro aa hS
     refine wpList_nil ?_
     refine hK1213 _ _ ?_
     refine wp_ret ?_
     repeat first | with_reducible refine thenR ?_ | with_reducible refine blockR ?_ | with_reducible refine scopeR ?_
     refine ret1 (fn := Try.f5) (e := .ret) (.inl rfl) Try.results5 hS hR ⟨_, (.tmp rfl), ?_⟩
     exact ⟨rfl, (hR.sub exQ)⟩
end Go.Proofs.Ytkhdejjompbklaa.Sx
