/-
 
-/
import Derived.Test.YtkhdejjompbklaaVLwB
import Derived.Test.YtkhdejjompbklaaVPzb
namespace Go.Proofs.Ytkhdejjompbklaa.Sx
open Go
set_option maxRecDepth 20000
set_option linter.unusedVariables false
set_option linter.unusedSimpArgs false
theorem index_ok {q1 : Option Addr} {c1 : Nat} {xs : List Int} {z : Int} {l : List HP} {w : World} (hx : xs.length ≤ 9000) (hR : Sep (sls q1 xs.length c1 3 1 (xs.flatMap e1) :: l) w) : CallR Try.prog 55 [.slice q1 xs.length c1, .int .i64 z] w (fun v w' => ∃ i : Int, v = .int .i64 i ∧ (0 ≤ i ↔ z ∈ xs) ∧ Sep (sls q1 xs.length c1 3 1 (xs.flatMap e1) :: l) w') := by
 refine enter Try.func55 rfl Try.ntmps55 (Nat.le_of_ble_eq_true rfl) ?_; intro aa hS
 refine wp_seq_k ?_; intro K913 hK913
 refine wp_region_lit ?_
 revert aa
 refine qN hR ?_
 intro aa hS
 refine wpList_nil ?_
 refine hK913 _ _ ?_
 refine wp_seq_k ?_; intro K914 hK914
 refine wp_seq_k ?_; intro K915 hK915
 refine wp_region_lit ?_
 revert aa
 refine qM hR ?_
 refine qA hR rfl (fun _ hS => Yld.len hS rfl Try.underlying41) ?_
 refine qM hR ?_
 intro aa hS
 refine wpList_nil ?_
 refine hK915 _ _ ?_
 refine wp_block ?_
 refine loopI (X := Nat) [(0, _), (1, _), (7, _)] (fun x => [(8, .int .i64 (x : Int))]) (fun x => []) _ (fun x => x ≤ xs.length ∧ z ∉ xs.take x) (fun x => xs.length - x) 0 ⟨Nat.zero_le _, by simp⟩ (hS.le (Le.cons rfl (Le.nilapp (Le.cons rfl (Le.cons rfl (Le.cons rfl (Le.nil _))))))) hR ?_
 clear hS hR; rintro k aa ww hI hS hR; dsimp only [List.cons_append, List.nil_append] at hI hS hR
 refine wp_seq_k ?_; intro K917 hK917
 refine wp_region_lit ?_
 refine sA hS hR (Yld.lss hS rfl rfl) (by decide) ?_; clear hS; intro aa hS
 refine wpList_nil ?_
 refine hK917 _ _ ?_
 refine wp_seq_k ?_; intro K918 hK918
 refine hS.splitB (t := 9) rfl ?_ ?_ <;> clear hS
 ·
  intro hg hS
  have hk1 : k < xs.length := by omega
  obtain ⟨x0, hx0⟩ : ∃ y : Int, xs[k] = y := ⟨_, rfl⟩
  refine condT hS rfl ?_
  refine wp_skip ?_
  refine hK918 _ _ ?_
  refine wp_seq_k ?_; intro K919 hK919
  refine wp_block ?_
  refine wp_seq_k ?_; intro K920 hK920
  refine wp_region_lit ?_
  revert aa
  refine qM hR ?_
  refine qN hR ?_
  intro aa hS
  refine wpList_nil ?_
  refine hK920 _ _ ?_
  refine wp_seq_k ?_; intro K921 hK921
  refine wp_region_lit ?_
  revert aa
  refine qM hR ?_
  refine qM hR ?_
  refine qM hR ?_
  refine qA hR rfl (fun _ hS => ilQ 1 (k) Try.underlying41 info3) ?_
  refine qA hR rfl (fun _ hS => Yld.load1 hS rfl Try.underlying3 rfl (Rd.rec0 (k := k) (xs := xs) (v := .int .i64 x0) pkQ (by intro _; rfl) hk1 (by rw [hx0]; rfl))) ?_
  refine qA hR rfl (fun _ hS => Yld.eql hS rfl rfl) ?_
  intro aa hS
  refine wpList_nil ?_
  refine hK921 _ _ ?_
  refine hS.splitB (t := 16) rfl ?_ ?_ <;> clear hS
  ·
   intro hg hS
   have hyes : z ∈ xs := by rw [hg, ← hx0]; exact List.getElem_mem hk1
   refine condT hS rfl ?_
   refine wp_seq_k ?_; intro K922 hK922
   refine wp_region_lit ?_
   revert aa
   refine qM hR ?_
   refine qN hR ?_
   intro aa hS
   refine wpList_nil ?_
   refine hK922 _ _ ?_
   refine wp_ret ?_
   repeat first | with_reducible refine thenR ?_ | with_reducible refine blockR ?_ | with_reducible refine scopeR ?_
   refine ret1 (fn := Try.f55) (e := .ret) (.inl rfl) Try.results55 hS hR ⟨_, (.tmp rfl), ?_⟩
   exact ⟨_, rfl, ⟨fun _ => hyes, fun _ => by omega⟩, (hR.sub exQ)⟩
  ·
   intro hg hS
   have hnx : z ∉ xs.take (k + 1) := by
    rw [List.take_succ_eq_append_getElem hk1, List.mem_append]
    rintro (h | h)
    ·
     exact hI.2 h
    ·
     rw [List.mem_singleton, hx0] at h; exact hg h
   refine condF hS rfl ?_
   refine wp_skip ?_
   refine hK919 _ _ ?_
   refine wp_region_lit ?_
   refine sA hS hR adQ (by decide) ?_; clear hS; intro aa hS
   revert aa
   refine qM hR ?_
   intro aa hS
   refine wpList_nil ?_
   refine ⟨k + 1, ?_, ?_, hS.le (Le.cons rfl (Le.nilapp (Le.cons rfl (Le.cons rfl (Le.cons rfl (Le.nil _)))))), hR.sub (Ex.nilapp exQ)⟩
   ·
    exact ⟨by omega, hnx⟩
   ·
    omega
 ·
  intro hg hS
  obtain rfl : k = xs.length := by omega
  refine condF hS rfl ?_
  refine wp_exit ?_
  refine hK914 _ _ ?_
  refine wp_seq_k ?_; intro K923 hK923
  refine wp_region_lit ?_
  revert aa
  refine qN hR ?_
  intro aa hS
  refine wpList_nil ?_
  refine hK923 _ _ ?_
  refine wp_ret ?_
  repeat first | with_reducible refine thenR ?_ | with_reducible refine blockR ?_ | with_reducible refine scopeR ?_
  refine ret1 (fn := Try.f55) (e := .ret) (.inl rfl) Try.results55 hS hR ⟨_, (.tmp rfl), ?_⟩
  have hno := hI.2
  rw [List.take_length] at hno
  exact ⟨_, rfl, ⟨fun h => by omega, fun h => absurd h hno⟩, (hR.sub exQ)⟩
theorem contains_ok {q1 : Option Addr} {c1 : Nat} {xs : List Int} {z : Int} {l : List HP} {w : World} (hx : xs.length ≤ 9000) (hR : Sep (sls q1 xs.length c1 3 1 (xs.flatMap e1) :: l) w) : CallR Try.prog 26 [.slice q1 xs.length c1, .int .i64 z] w (fun v w' => v = .bool (decide (z ∈ xs)) ∧ Sep (sls q1 xs.length c1 3 1 (xs.flatMap e1) :: l) w') := by
 refine enter Try.func26 rfl Try.ntmps26 (Nat.le_of_ble_eq_true rfl) ?_; intro aa hS
 refine wp_seq_k ?_; intro K924 hK924
 refine wp_region_lit ?_
 revert aa
 refine qN hR ?_
 intro aa hS
 refine wpList_nil ?_
 refine hK924 _ _ ?_
 refine wp_seq_k ?_; intro K925 hK925
 refine wp_region_lit ?_
 revert aa
 refine qM hR ?_
 refine qM hR ?_
 intro aa hS
 refine sB (Bcall hS rfl Try.call55 (index_ok hx hR) (by decide) ?_); clear hS; intro aa ww vv hS hp
 clear hR
 obtain ⟨i, rfl, hi, hR⟩ := hp
 revert aa
 refine qA hR rfl (fun _ hS => Yld.geq hS rfl rfl) ?_
 refine qN hR ?_
 intro aa hS
 refine wpList_nil ?_
 refine hK925 _ _ ?_
 refine wp_ret ?_
 repeat first | with_reducible refine thenR ?_ | with_reducible refine blockR ?_ | with_reducible refine scopeR ?_
 refine ret1 (fn := Try.f26) (e := .ret) (.inl rfl) Try.results26 hS hR ⟨_, (.tmp rfl), ?_⟩
 refine ⟨?_, (hR.sub exQ)⟩
 exact dec_iff hi
set_option maxHeartbeats 4000000 in
theorem AdmitSlots_ok {W : World} {q : Option Addr} {n c : Nat} {n0 n1 n2 n3 n4 : Int} {xs : List (List Int)} (A1 : ArgS W [.u8, .u32, .i64] q n c xs) {l : List HP} {w : World} (h0 : 0 ≤ n0 ∧ n0 ≤ 255) (h1 : 0 ≤ n1 ∧ n1 ≤ 255) (h2 : 0 ≤ n2 ∧ n2 ≤ 255) (h3 : 0 ≤ n3 ∧ n3 ≤ 255) (h4 : 0 ≤ n4 ∧ n4 ≤ 255) (hR : Sep (old W :: l) w) : CallR Try.prog 7 [.agg [.int .u8 n0, .int .u8 n1, .int .u8 n2, .int .u8 n3, .int .u8 n4].toArray, .slice q n c] w (fun v w' => v = .bool true ∧ Sep (old W :: l) w') := by
 refine enter Try.func7 rfl Try.ntmps7 (Nat.le_of_ble_eq_true rfl) ?_; intro aa hS
 refine wp_seq_k ?_; intro K926 hK926
 refine wp_region_lit ?_
 refine sB (Bbox hS hR rfl (by rfl) (by decide) ?_); clear hS hR; intro aa ww bb2 hS hR
 revert aa
 refine qN hR ?_
 intro aa hS
 refine wpList_nil ?_
 refine hK926 _ _ ?_
 refine wp_seq_k ?_; intro K927 hK927
 refine wp_seq_k ?_; intro K928 hK928
 refine wp_region_lit ?_
 refine sB (Bcall hS rfl Try.call8 (awake34_ok hR) (by decide) ?_); clear hS; intro aa ww vv hS hp
 clear hR
 obtain ⟨rfl, hR⟩ := hp
 refine sA hS hR (Yld.not hS rfl) (by decide) ?_; clear hS; intro aa hS
 refine wpList_nil ?_
 refine hK928 _ _ ?_
 refine condF hS rfl ?_
 refine wp_skip ?_
 refine hK927 _ _ ?_
 refine wp_seq_k ?_; intro K929 hK929
 refine wp_region_lit ?_
 refine sA hS hR (Yld.loadAgg hS rfl Try.underlying23 rfl info23 (by first | exact Rds.cons (Rd.blk pkQ (by rfl)) (Rds.cons (Rd.blk pkQ (by rfl)) (Rds.cons (Rd.blk pkQ (by rfl)) (Rds.cons (Rd.blk pkQ (by rfl)) (Rds.cons (Rd.blk pkQ (by rfl)) (Rds.nil))))) | exact Rds.rec pkQ (by intro _; rfl) (by first | omega | (rw [cst_len]; omega) | (rw [tab_len]; omega)) | exact Rds.flat1 pkQ (by intro _; rfl) (by first | omega | (rw [cst_len]; omega) | (rw [tab_len]; omega))) (by rfl)) (by decide) ?_; clear hS; intro aa hS
 revert aa
 refine qM hR ?_
 intro aa hS
 refine sB (Bcall hS rfl Try.call9 (made_ok A1 h0 h1 h2 h3 h4 (hR.pk (r := old W) pkQ)) (by decide) ?_); clear hS; intro aa ww vv hS hp
 clear hR
 obtain ⟨b, S, lim, t, p, u, D, rfl, hSe, hle, hte, hpe, hue, hM, hR⟩ := hp
 obtain ⟨hDF, hsix, hun, hnw⟩ := hM
 have hnow := hDF.w.now
 have hol := hDF.w.olen
 have hRR := hDF.rr
 revert aa
 refine qM hR ?_
 refine qX hR ?_
 refine qX hR ?_
 intro aa hS
 refine sB (Balloc hS hR info31 (by rfl) (by rfl) (by decide) ?_); clear hS hR; intro aa ww bb6 hS hR
 revert aa
 refine qN hR ?_
 intro aa hS
 refine sB (Bstore hS hR rfl rfl (by rfl) info31 (by rfl) pkQ (by rfl) (Nat.le_of_ble_eq_true rfl) ?_); clear hR; intro ww hR
 refine wpList_nil ?_
 refine hK929 _ _ ?_
 refine wp_seq_k ?_; intro K930 hK930
 refine wp_seq_k ?_; intro K931 hK931
 refine wp_region_lit ?_
 revert aa
 refine qM hR ?_
 refine qA hR rfl (fun _ hS => Yld.eqlNil hS rfl rfl Try.underlying27) ?_
 refine qB (t := 29) false rfl (by rfl) ?_
 intro aa hS
 refine wpList_nil ?_
 refine hK931 _ _ ?_
 refine condF hS rfl ?_
 refine wp_skip ?_
 refine hK930 _ _ ?_
 refine wp_seq_k ?_; intro K932 hK932
 refine wp_region_lit ?_
 revert aa
 refine qN hR ?_
 intro aa hS
 refine wpList_nil ?_
 refine hK932 _ _ ?_
 refine wp_seq_k ?_; intro K933 hK933
 refine wp_region_lit ?_
 refine sA hS hR (Yld.fieldAddr hS rfl 0 Try.underlying31 rfl rfl info3 (by decide)) (by decide) ?_; clear hS; intro aa hS
 refine sA hS hR (Yld.load1 hS rfl Try.underlying3 rfl (by first | exact Rd.blk pkQ (by rfl) | exact Rd.rec pkQ (by intro _; rfl) (by first | omega | (rw [cst_len]; omega) | (rw [tab_len]; omega)) rfl | exact Rd.rec0 pkQ (by intro _; rfl) (by first | omega | (rw [cst_len]; omega) | (rw [tab_len]; omega)) rfl | exact Rd.flatJ pkQ (by intro _; rfl) (by first | omega | (rw [cst_len]; omega) | (rw [tab_len]; omega)) rfl | exact Rd.flat0 pkQ (by intro _; rfl) (by first | omega | (rw [cst_len]; omega) | (rw [tab_len]; omega)) rfl)) (by decide) ?_; clear hS; intro aa hS
 refine sB (Bmake (zc := [.bool false]) hS hR rfl rfl Try.underlying63 info4 rfl (by rfl) (by rfl) (by decide) (by omega) (by show ((1 : Nat) : Int) * _ ≤ _; omega) (by omega) (by decide) ?_); clear hS hR; intro aa ww bb32 hS hR
 rw [show ((S : Int)).toNat = S from Int.toNat_natCast S] at hS hR
 replace hR := hR.pk (r := blk bb32 _ _) pkQ
 rw [zeros_flat (zc := [.bool false]) (enc := eb) (false) S rfl] at hR
 replace hR := Sep.toRecs (m := S) (sz := 1) (enc := eb) (List.replicate S false) hR rfl (by intro _; rfl) (by rw [List.length_replicate])
 rw [tab_repD, ← met_zero hsix] at hR
 obtain ⟨rm, hrm⟩ : ∃ y : Option Addr, some ⟨bb32, 0, none⟩ = y := ⟨_, rfl⟩
 obtain ⟨cm, hcm⟩ : ∃ y : Nat, S = y := ⟨_, rfl⟩
 replace hS := hS.say (t := 32) (.slice rm S cm) rfl (by rw [← hrm, ← hcm])
 replace hR : Sep (sls rm S cm 4 1 ((tab S (metM D.T.O 0 0)).flatMap eb) :: _) _ := (by rw [← hrm, ← hcm]; exact hR)
 have hl0 := lowC_zero hsix
 revert aa
 refine qN hR ?_
 intro aa hS
 refine wpList_nil ?_
 refine hK933 _ _ ?_
 refine wp_seq_k ?_; intro K934 hK934
 refine wp_seq_k ?_; intro K935 hK935
 refine wp_region_lit ?_
 revert aa
 refine qM hR ?_
 intro aa hS
 refine wpList_nil ?_
 refine hK935 _ _ ?_
 refine wp_block ?_
 replace hS := hS.say (t := 7) (.int .i64 ((lowC D.T.O 0 : Nat) : Int)) rfl (by rw [hl0]; rfl)
 replace hR := hR.pk (r := sls rm S cm 4 1 ((tab S (metM D.T.O 0 0)).flatMap eb)) pkQ
 refine loopI (X := Nat) [(5, _), (6, _), (8, _)] (fun x => [(7, .int .i64 ((lowC D.T.O x : Nat) : Int)), (33, .int .u32 (x : Int))]) (fun x => [sls rm S cm 4 1 ((tab S (metM D.T.O x 0)).flatMap eb)]) _ (fun x => x ≤ 6) (fun x => 6 - x) 0 (Nat.zero_le _) (hS.le (Le.cons rfl (Le.cons rfl (Le.nilapp (Le.cons rfl (Le.cons rfl (Le.cons rfl (Le.nil _)))))))) hR ?_
 clear hS hR; rintro i aa ww hI hS hR; dsimp only [List.cons_append, List.nil_append] at hI hS hR
 refine wp_seq_k ?_; intro K937 hK937
 refine wp_region_lit ?_
 refine sA hS hR (Yld.lss hS rfl rfl) (by decide) ?_; clear hS; intro aa hS
 refine wpList_nil ?_
 refine hK937 _ _ ?_
 refine wp_seq_k ?_; intro K938 hK938
 refine hS.splitB (t := 34) rfl ?_ ?_ <;> clear hS
 ·
  intro hg hS
  have hi6 : i < 6 := by omega
  refine condT hS rfl ?_
  refine wp_skip ?_
  refine hK938 _ _ ?_
  refine wp_seq_k ?_; intro K939 hK939
  refine wp_block ?_
  refine wp_seq_k ?_; intro K940 hK940
  refine wp_region_lit ?_
  revert aa
  refine qM hR ?_
  refine qN hR ?_
  intro aa hS
  refine wpList_nil ?_
  refine hK940 _ _ ?_
  refine wp_seq_k ?_; intro K941 hK941
  refine wp_region_lit ?_
  revert aa
  refine qM hR ?_
  refine qM hR ?_
  intro aa hS
  refine sB (Bcall hS rfl Try.call14 (adSlots_ok (a := (i : Int)) (by omega) (hR.pk (r := deskA _ b _ _ _ _) pkQ)) (by decide) ?_); clear hS; intro aa ww vv hS hp
  clear hR
  obtain ⟨ra, ca, rfl, hR⟩ := hp
  obtain ⟨sl, hsle⟩ : ∃ z, slO D.T.O (i : Int) = z := ⟨_, rfl⟩
  have hsll := Nat.le_trans (slO_len (O := D.T.O) (a := (i : Int))) hol
  rw [hsle] at hS hR hsll
  revert aa
  refine qN hR ?_
  intro aa hS
  refine wpList_nil ?_
  refine hK941 _ _ ?_
  refine wp_seq_k ?_; intro K942 hK942
  refine wp_seq_k ?_; intro K943 hK943
  refine wp_region_lit ?_
  revert aa
  refine qM hR ?_
  refine qA hR rfl (fun _ hS => Yld.len hS rfl Try.underlying41) ?_
  refine qM hR ?_
  refine qM hR ?_
  intro aa hS
  refine sB (Bcall hS rfl Try.call11 (adCount_ok (a := (i : Int)) (by omega) (hR.pk (r := deskA _ b _ _ _ _) pkQ)) (by decide) ?_); clear hS; intro aa ww vv hS hp
  clear hR
  obtain ⟨rfl, hR⟩ := hp
  rw [hsle] at hS
  revert aa
  refine qA hR rfl (fun _ hS => Yld.neq hS rfl rfl) ?_
  refine qB (t := 44) false rfl (by rw [cst_len]; simp) ?_
  intro aa hS
  refine wpList_nil ?_
  refine hK943 _ _ ?_
  refine condF hS rfl ?_
  refine wp_skip ?_
  refine hK942 _ _ ?_
  refine wp_seq_k ?_; intro K944 hK944
  refine wp_seq_k ?_; intro K945 hK945
  refine wp_region_lit ?_
  revert aa
  refine qM hR ?_
  refine qA hR rfl (fun _ hS => Yld.len hS rfl Try.underlying41) ?_
  refine qM hR ?_
  intro aa hS
  refine wpList_nil ?_
  refine hK945 _ _ ?_
  refine wp_block ?_
  replace hR := hR.pk (r := sls rm S cm 4 1 ((tab S (metM D.T.O i 0)).flatMap eb)) pkQ
  refine loopI (X := Nat) [(5, _), (6, _), (7, _), (8, _), (9, _), (10, _), (33, _), (34, _), (35, _), (36, _), (37, _), (38, _), (39, _), (40, _), (41, _), (42, _), (43, _), (44, _), (45, _), (46, _)] (fun x => [(47, .int .i64 (x : Int))]) (fun x => [sls rm S cm 4 1 ((tab S (metM D.T.O i x)).flatMap eb)]) _ (fun x => x ≤ sl.length) (fun x => sl.length - x) 0 (Nat.zero_le _) (hS.le (Le.cons rfl (Le.nilapp (Le.cons rfl (Le.cons rfl (Le.cons rfl (Le.cons rfl (Le.cons rfl (Le.cons rfl (Le.cons rfl (Le.cons rfl (Le.cons rfl (Le.cons rfl (Le.cons rfl (Le.cons rfl (Le.cons rfl (Le.cons rfl (Le.cons rfl (Le.cons rfl (Le.cons rfl (Le.cons rfl (Le.cons rfl (Le.cons rfl (Le.nil _)))))))))))))))))))))))) hR ?_
  clear hS hR; rintro j aa ww hI hS hR; dsimp only [List.cons_append, List.nil_append] at hI hS hR
  refine wp_seq_k ?_; intro K947 hK947
  refine wp_region_lit ?_
  refine sA hS hR (Yld.lss hS rfl rfl) (by decide) ?_; clear hS; intro aa hS
  refine wpList_nil ?_
  refine hK947 _ _ ?_
  refine wp_seq_k ?_; intro K948 hK948
  refine hS.splitB (t := 48) rfl ?_ ?_ <;> clear hS
  ·
   intro hg hS
   have hj : j < sl.length := by rw [cst_len] at hg; omega
   obtain ⟨s, hse⟩ : ∃ y, sl[j] = y := ⟨_, rfl⟩
   have hsg : (slO D.T.O (i : Int))[j]? = some s := by rw [hsle, List.getElem?_eq_getElem hj, hse]
   have hsm : ((i : Int), s) ∈ D.T.O := by rw [← slO_mem, hsle, ← hse]; exact List.getElem_mem hj
   have hsS := hDF.w.sf.lt _ hsm
   dsimp only at hsS
   have hof := ofO_of hDF.w.sf.nds hsm
   have hmno := met_no hDF.w.sf.nds hsg
   refine condT hS rfl ?_
   refine wp_skip ?_
   refine hK948 _ _ ?_
   refine wp_seq_k ?_; intro K949 hK949
   refine wp_block ?_
   refine wp_seq_k ?_; intro K950 hK950
   refine wp_region_lit ?_
   revert aa
   refine qA hR rfl (fun _ hS => ilQ 1 (j) Try.underlying41 info3) ?_
   refine qA hR rfl (fun _ hS => Yld.load1 hS rfl Try.underlying3 rfl (Rd.rec0 (k := j) (xs := cst sl) (v := .int .i64 ((s : Nat) : Int)) pkQ (by intro _; rfl) (by rw [cst_len]; exact hj) (by simp only [cst, List.getElem_map, hse]; rfl))) ?_
   refine qN hR ?_
   intro aa hS
   refine wpList_nil ?_
   refine hK950 _ _ ?_
   refine wp_seq_k ?_; intro K951 hK951
   refine wp_seq_k ?_; intro K952 hK952
   refine wp_region_lit ?_
   revert aa
   refine qM hR ?_
   refine qA hR rfl (fun _ hS => Yld.lss hS rfl rfl) ?_
   refine qB (t := 52) false rfl (by exact decide_eq_false (by omega)) ?_
   refine qM hR ?_
   refine qMg hR ?_
   refine qAg hR rfl rfl rfl (fun _ hS => Yld.fieldAddr hS rfl 0 Try.underlying31 rfl rfl info3 (by decide)) ?_
   intro aa hS
   refine sAg hS hR rfl rfl (Yld.load1 hS rfl Try.underlying3 rfl (by first | exact Rd.blk pkQ (by rfl) | exact Rd.rec pkQ (by intro _; rfl) (by first | omega | (rw [cst_len]; omega) | (rw [tab_len]; omega)) rfl | exact Rd.rec0 pkQ (by intro _; rfl) (by first | omega | (rw [cst_len]; omega) | (rw [tab_len]; omega)) rfl | exact Rd.flatJ pkQ (by intro _; rfl) (by first | omega | (rw [cst_len]; omega) | (rw [tab_len]; omega)) rfl | exact Rd.flat0 pkQ (by intro _; rfl) (by first | omega | (rw [cst_len]; omega) | (rw [tab_len]; omega)) rfl)) (by decide) ?_; clear hS; intro aa hS
   revert aa
   refine qAg hR rfl rfl rfl (fun _ hS => Yld.geq hS rfl rfl) ?_
   refine qB (t := 57) false rfl (by exact decide_eq_false (by omega)) ?_
   refine qA hR rfl (fun _ hS => Yld.pickF hS rfl rfl) ?_
   refine qM hR ?_
   refine qMg hR ?_
   refine qMg hR ?_
   refine qAg hR rfl rfl rfl (fun _ hS => ilQ 1 (s) Try.underlying63 info4) ?_
   refine qAg hR rfl rfl rfl (fun _ hS => Yld.load1 hS rfl Try.underlying4 rfl (Rd.rec0 (k := s) (xs := tab S (metM D.T.O i j)) (v := .bool false) pkQ (by intro _; rfl) (by rw [tab_len]; omega) (by rw [tab_get]; rw [hmno]; rfl))) ?_
   refine qA hR rfl (fun _ hS => Yld.pickF hS rfl rfl) ?_
   refine qB (t := 64) false rfl (by rfl) ?_
   intro aa hS
   refine wpList_nil ?_
   refine hK952 _ _ ?_
   refine condF hS rfl ?_
   refine wp_skip ?_
   refine hK951 _ _ ?_
   refine wp_seq_k ?_; intro K953 hK953
   refine wp_region_lit ?_
   revert aa
   refine qM hR ?_
   refine qM hR ?_
   refine qA hR rfl (fun _ hS => ilQ 1 (s) Try.underlying63 info4) ?_
   intro aa hS
   refine sB (BstoreR0 (true) hS hR rfl rfl (by rfl) info4 (by rfl) pkQ (by rfl) (by intro _; rfl) (by first | omega | (rw [cst_len]; omega) | (rw [tab_len]; omega)) (by first | exact Nat.le_of_ble_eq_true rfl | (simp only [List.length_singleton]; omega)) (Nat.le_of_ble_eq_true rfl) (by rfl) ?_); clear hR; intro ww hR
   rw [tab_set, met_step hsg] at hR
   refine wpList_nil ?_
   refine hK953 _ _ ?_
   refine wp_seq_k ?_; intro K954 hK954
   refine wp_region_lit ?_
   revert aa
   refine qM hR ?_
   refine qM hR ?_
   intro aa hS
   refine sB (Bcall hS rfl Try.call23 (adOf_ok (x := (s : Int)) (hR.pk (r := deskA _ b _ _ _ _) pkQ)) (by decide) ?_); clear hS; intro aa ww vv hS hp
   clear hR
   obtain ⟨rfl, hR⟩ := hp
   rw [hof] at hS
   dsimp only [Option.getD, Option.isSome] at hS
   revert aa
   refine qM hR ?_
   refine qX hR ?_
   refine qX hR ?_
   refine qN hR ?_
   refine qN hR ?_
   intro aa hS
   refine wpList_nil ?_
   refine hK954 _ _ ?_
   refine wp_seq_k ?_; intro K955 hK955
   refine wp_region_lit ?_
   revert aa
   refine qM hR ?_
   refine qA hR rfl (fun _ hS => Yld.not hS rfl) ?_
   refine qB (t := 75) false rfl (by rfl) ?_
   refine qM hR ?_
   refine qMg hR ?_
   refine qMg hR ?_
   refine qAg hR rfl rfl rfl (fun _ hS => Yld.neq hS rfl rfl) ?_
   refine qB (t := 79) false rfl (by simp) ?_
   refine qA hR rfl (fun _ hS => Yld.pickF hS rfl rfl) ?_
   intro aa hS
   refine wpList_nil ?_
   refine hK955 _ _ ?_
   refine condF hS rfl ?_
   refine wp_skip ?_
   refine hK949 _ _ ?_
   refine wp_region_lit ?_
   refine sA hS hR adQ (by decide) ?_; clear hS; intro aa hS
   revert aa
   refine qM hR ?_
   intro aa hS
   refine wpList_nil ?_
   refine ⟨j + 1, ?_, ?_, hS.le (Le.cons rfl (Le.nilapp (Le.cons rfl (Le.cons rfl (Le.cons rfl (Le.cons rfl (Le.cons rfl (Le.cons rfl (Le.cons rfl (Le.cons rfl (Le.cons rfl (Le.cons rfl (Le.cons rfl (Le.cons rfl (Le.cons rfl (Le.cons rfl (Le.cons rfl (Le.cons rfl (Le.cons rfl (Le.cons rfl (Le.cons rfl (Le.cons rfl (Le.nil _))))))))))))))))))))))), hR.sub (Ex.take pkQ (Ex.nilapp exQ))⟩
   ·
    omega
   ·
    omega
  ·
   intro hg hS
   obtain rfl : j = sl.length := by have := hI; rw [cst_len] at hg; omega
   rw [met_next (i := i) (j := sl.length) (by rw [hsle]; exact Nat.le_refl _)] at hR
   have hlc := lowC_succ (O := D.T.O) (i := i)
   rw [hsle] at hlc
   have hll := lowC_le (O := D.T.O) (i := i + 1)
   refine condF hS rfl ?_
   refine wp_exit ?_
   refine hK944 _ _ ?_
   refine wp_region_lit ?_
   revert aa
   refine qM hR ?_
   refine qM hR ?_
   refine qA hR rfl (fun _ hS => Yld.len hS rfl Try.underlying41) ?_
   intro aa hS
   refine sA hS hR adQ (by decide) ?_; clear hS; intro aa hS
   revert aa
   refine qN hR ?_
   intro aa hS
   refine wpList_nil ?_
   refine hK939 _ _ ?_
   refine wp_region_lit ?_
   revert aa
   refine qA hR rfl (fun _ hS => by first | exact Yld.to (Yld.add hS rfl rfl) (congrArg (Value.int .u32) (IntWalk.u32_in _ (by omega))) | exact Yld.add hS rfl rfl) ?_
   refine qM hR ?_
   intro aa hS
   refine wpList_nil ?_
   replace hS := hS.say (t := 7) (.int .i64 ((lowC D.T.O (i + 1) : Nat) : Int)) rfl (by rw [hlc, cst_len]; congr 1 <;> omega)
   refine ⟨i + 1, ?_, ?_, hS.le (Le.cons rfl (Le.cons rfl (Le.nilapp (Le.cons rfl (Le.cons rfl (Le.cons rfl (Le.nil _))))))), hR.sub (Ex.take pkQ (Ex.nilapp exQ))⟩
   ·
    omega
   ·
    omega
 ·
  intro hg hS
  obtain rfl : i = 6 := by omega
  refine condF hS rfl ?_
  refine wp_exit ?_
  refine hK934 _ _ ?_
  refine wp_seq_k ?_; intro K956 hK956
  refine wp_region_lit ?_
  revert aa
  refine qM hR ?_
  intro aa hS
  refine sB (Bcall hS rfl Try.call18 (adUnassured_ok (hR.pk (r := deskA _ b _ _ _ _) pkQ)) (by decide) ?_); clear hS; intro aa ww vv hS hp
  clear hR
  obtain ⟨ru, cu, rfl, hR⟩ := hp
  have hordl := Nat.le_trans hDF.w.ordLen hol
  revert aa
  refine qN hR ?_
  intro aa hS
  refine wpList_nil ?_
  refine hK956 _ _ ?_
  refine wp_seq_k ?_; intro K957 hK957
  refine wp_seq_k ?_; intro K958 hK958
  refine wp_region_lit ?_
  revert aa
  refine qM hR ?_
  refine qA hR rfl (fun _ hS => Yld.len hS rfl Try.underlying63) ?_
  refine qM hR ?_
  intro aa hS
  refine wpList_nil ?_
  refine hK958 _ _ ?_
  refine wp_block ?_
  refine loopI (X := Nat) [(5, _), (7, _), (15, _), (89, _), (90, _)] (fun x => [(91, .int .i64 (x : Int))]) (fun x => []) _ (fun x => x ≤ S) (fun x => S - x) 0 (Nat.zero_le _) (hS.le (Le.cons rfl (Le.nilapp (Le.cons rfl (Le.cons rfl (Le.cons rfl (Le.cons rfl (Le.cons rfl (Le.nil _))))))))) hR ?_
  clear hS hR; rintro x aa ww hI hS hR; dsimp only [List.cons_append, List.nil_append] at hI hS hR
  refine wp_seq_k ?_; intro K960 hK960
  refine wp_region_lit ?_
  refine sA hS hR (Yld.lss hS rfl rfl) (by decide) ?_; clear hS; intro aa hS
  refine wpList_nil ?_
  refine hK960 _ _ ?_
  refine wp_seq_k ?_; intro K961 hK961
  refine hS.splitB (t := 92) rfl ?_ ?_ <;> clear hS
  ·
   intro hg hS
   refine condT hS rfl ?_
   refine wp_skip ?_
   refine hK961 _ _ ?_
   refine wp_seq_k ?_; intro K962 hK962
   refine wp_block ?_
   refine wp_seq_k ?_; intro K963 hK963
   refine wp_region_lit ?_
   revert aa
   refine qM hR ?_
   intro aa hS
   by_cases hn : (ofO D.T.O (x : Int)).isSome = true
   ·
    refine sA hS hR ((ilQ 1 (x) Try.underlying63 info4)) (by decide) ?_; clear hS; intro aa hS
    obtain ⟨ob, hob⟩ := Option.isSome_iff_exists.1 hn
    have hms := met_six (x := x) hsix hDF.w.sf.nds
    rw [hob] at hms
    have has := asD_some hDF.w hob
    revert aa
    refine qA hR rfl (fun _ hS => Yld.load1 hS rfl Try.underlying4 rfl (Rd.rec0 (k := x) (xs := tab S (metM D.T.O 6 0)) (v := .bool true) pkQ (by intro _; rfl) (by rw [tab_len]; omega) (by rw [tab_get]; rw [hms]; rfl))) ?_
    refine qN hR ?_
    refine qN hR ?_
    intro aa hS
    refine wpList_nil ?_
    refine hK963 _ _ ?_
    refine wp_seq_k ?_; intro K964 hK964
    refine wp_region_lit ?_
    revert aa
    refine qM hR ?_
    refine qM hR ?_
    intro aa hS
    refine sB (Bcall hS rfl Try.call23 (adOf_ok (x := (x : Int)) (hR.pk (r := deskA _ b _ _ _ _) pkQ)) (by decide) ?_); clear hS; intro aa ww vv hS hp
    clear hR
    obtain ⟨rfl, hR⟩ := hp
    rw [hob] at hS
    dsimp only [Option.getD, Option.isSome] at hS
    revert aa
    refine qM hR ?_
    refine qX hR ?_
    refine qX hR ?_
    refine qN hR ?_
    refine qN hR ?_
    intro aa hS
    refine wpList_nil ?_
    refine hK964 _ _ ?_
    refine wp_seq_k ?_; intro K965 hK965
    refine wp_region_lit ?_
    revert aa
    refine qM hR ?_
    refine qM hR ?_
    refine qA hR rfl (fun _ hS => Yld.neqB hS rfl rfl Try.underlying4) ?_
    refine qB (t := 104) false rfl (by rfl) ?_
    refine qM hR ?_
    refine qMg hR ?_
    refine qMg hR ?_
    intro aa hS
    refine sBg hS rfl rfl (Bcall hS rfl Try.call26 (contains_ok (q1 := ru) (xs := cst D.ord) (z := (x : Int)) (by rw [cst_len]; omega) (hR.pk (r := sls ru _ _ _ _ _) pkQ)) (by decide) ?_); clear hS; intro aa ww vv hS hp
    clear hR
    obtain ⟨rfl, hR⟩ := hp
    revert aa
    refine qMg hR ?_
    refine qMg hR ?_
    refine qMg hR ?_
    refine qMg hR ?_
    intro aa hS
    refine sBg hS rfl rfl (Bcall hS rfl Try.call24 (adAssured_ok (x := (x : Int)) hDF.w (hR.pk (r := deskA _ b _ _ _ _) pkQ)) (by decide) ?_); clear hS; intro aa ww vv hS hp
    clear hR
    obtain ⟨rfl, hR⟩ := hp
    revert aa
    refine qAg hR rfl rfl rfl (fun _ hS => Yld.not hS rfl) ?_
    refine qAg hR rfl rfl rfl (fun _ hS => Yld.pickT hS rfl rfl) ?_
    refine qAg hR rfl rfl rfl (fun _ hS => Yld.neqB hS rfl rfl Try.underlying4) ?_
    refine qB (t := 116) false rfl (by rw [has]; by_cases hxo : x ∈ D.ord <;> simp [hxo, mem_cst]) ?_
    refine qA hR rfl (fun _ hS => Yld.pickF hS rfl rfl) ?_
    refine qM hR ?_
    refine qMg hR ?_
    refine qAg hR rfl rfl rfl (fun _ hS => Yld.not hS rfl) ?_
    refine qB (t := 120) false rfl (by rfl) ?_
    refine qMg hR ?_
    refine qZ ?_
    refine qZ ?_
    refine qZ ?_
    refine qAg hR rfl rfl rfl (fun _ hS => Yld.pickF hS rfl rfl) ?_
    refine qA hR rfl (fun _ hS => Yld.pickF hS rfl rfl) ?_
    refine qB (t := 126) false rfl (by rfl) ?_
    intro aa hS
    refine wpList_nil ?_
    refine hK965 _ _ ?_
    refine condF hS rfl ?_
    refine wp_skip ?_
    refine hK962 _ _ ?_
    refine wp_region_lit ?_
    refine sA hS hR adQ (by decide) ?_; clear hS; intro aa hS
    revert aa
    refine qM hR ?_
    intro aa hS
    refine wpList_nil ?_
    refine ⟨x + 1, ?_, ?_, hS.le (Le.cons rfl (Le.nilapp (Le.cons rfl (Le.cons rfl (Le.cons rfl (Le.cons rfl (Le.cons rfl (Le.nil _)))))))), hR.sub (Ex.nilapp exQ)⟩
    ·
     omega
    ·
     omega
   ·
    refine sA hS hR ((ilQ 1 (x) Try.underlying63 info4)) (by decide) ?_; clear hS; intro aa hS
    have hob : ofO D.T.O (x : Int) = none := by
     cases hv : ofO D.T.O (x : Int) with
     | none => rfl
     | some o => rw [hv] at hn; simp at hn
    have hms := met_six (x := x) hsix hDF.w.sf.nds
    rw [hob] at hms
    obtain ⟨has, hno⟩ := asD_none hDF.w (x := x) (by omega) hob
    revert aa
    refine qA hR rfl (fun _ hS => Yld.load1 hS rfl Try.underlying4 rfl (Rd.rec0 (k := x) (xs := tab S (metM D.T.O 6 0)) (v := .bool false) pkQ (by intro _; rfl) (by rw [tab_len]; omega) (by rw [tab_get]; rw [hms]; rfl))) ?_
    refine qN hR ?_
    refine qN hR ?_
    intro aa hS
    refine wpList_nil ?_
    refine hK963 _ _ ?_
    refine wp_seq_k ?_; intro K966 hK966
    refine wp_region_lit ?_
    revert aa
    refine qM hR ?_
    refine qM hR ?_
    intro aa hS
    refine sB (Bcall hS rfl Try.call23 (adOf_ok (x := (x : Int)) (hR.pk (r := deskA _ b _ _ _ _) pkQ)) (by decide) ?_); clear hS; intro aa ww vv hS hp
    clear hR
    obtain ⟨rfl, hR⟩ := hp
    rw [hob] at hS
    dsimp only [Option.getD, Option.isSome] at hS
    revert aa
    refine qM hR ?_
    refine qX hR ?_
    refine qX hR ?_
    refine qN hR ?_
    refine qN hR ?_
    intro aa hS
    refine wpList_nil ?_
    refine hK966 _ _ ?_
    refine wp_seq_k ?_; intro K967 hK967
    refine wp_region_lit ?_
    revert aa
    refine qM hR ?_
    refine qM hR ?_
    refine qA hR rfl (fun _ hS => Yld.neqB hS rfl rfl Try.underlying4) ?_
    refine qB (t := 104) false rfl (by rfl) ?_
    refine qM hR ?_
    refine qMg hR ?_
    refine qMg hR ?_
    intro aa hS
    refine sBg hS rfl rfl (Bcall hS rfl Try.call26 (contains_ok (q1 := ru) (xs := cst D.ord) (z := (x : Int)) (by rw [cst_len]; omega) (hR.pk (r := sls ru _ _ _ _ _) pkQ)) (by decide) ?_); clear hS; intro aa ww vv hS hp
    clear hR
    obtain ⟨rfl, hR⟩ := hp
    revert aa
    refine qMg hR ?_
    refine qMg hR ?_
    refine qZ ?_
    refine qZ ?_
    refine qZ ?_
    refine qZ ?_
    refine qAg hR rfl rfl rfl (fun _ hS => Yld.pickF hS rfl rfl) ?_
    refine qAg hR rfl rfl rfl (fun _ hS => Yld.neqB hS rfl rfl Try.underlying4) ?_
    refine qB (t := 116) false rfl (by simp [hno, mem_cst]) ?_
    refine qA hR rfl (fun _ hS => Yld.pickF hS rfl rfl) ?_
    refine qM hR ?_
    refine qMg hR ?_
    refine qAg hR rfl rfl rfl (fun _ hS => Yld.not hS rfl) ?_
    refine qB (t := 120) true rfl (by rfl) ?_
    refine qMg hR ?_
    refine qMg hR ?_
    refine qMg hR ?_
    intro aa hS
    refine sBg hS rfl rfl (Bcall hS rfl Try.call24 (adAssured_ok (x := (x : Int)) hDF.w (hR.pk (r := deskA _ b _ _ _ _) pkQ)) (by decide) ?_); clear hS; intro aa ww vv hS hp
    clear hR
    obtain ⟨rfl, hR⟩ := hp
    rw [has] at hS
    revert aa
    refine qAg hR rfl rfl rfl (fun _ hS => Yld.pickT hS rfl rfl) ?_
    refine qA hR rfl (fun _ hS => Yld.pickF hS rfl rfl) ?_
    refine qB (t := 126) false rfl (by rfl) ?_
    intro aa hS
    refine wpList_nil ?_
    refine hK967 _ _ ?_
    refine condF hS rfl ?_
    refine wp_skip ?_
    refine hK962 _ _ ?_
    refine wp_region_lit ?_
    refine sA hS hR adQ (by decide) ?_; clear hS; intro aa hS
    revert aa
    refine qM hR ?_
    intro aa hS
    refine wpList_nil ?_
    refine ⟨x + 1, ?_, ?_, hS.le (Le.cons rfl (Le.nilapp (Le.cons rfl (Le.cons rfl (Le.cons rfl (Le.cons rfl (Le.cons rfl (Le.nil _)))))))), hR.sub (Ex.nilapp exQ)⟩
    ·
     omega
    ·
     omega
  ·
   intro hg hS
   refine condF hS rfl ?_
   refine wp_exit ?_
   refine hK957 _ _ ?_
   refine wp_seq_k ?_; intro K968 hK968
   refine wp_region_lit ?_
   revert aa
   refine qM hR ?_
   refine qM hR ?_
   intro aa hS
   refine sB (Bcall hS rfl Try.call19 (adLen_ok hDF.w (hR.pk (r := deskA _ b _ _ _ _) pkQ)) (by decide) ?_); clear hS; intro aa ww vv hS hp
   clear hR
   obtain ⟨rfl, hR⟩ := hp
   revert aa
   refine qA hR rfl (fun _ hS => Yld.eql hS rfl rfl) ?_
   refine qB (t := 131) true rfl (by rw [lowC_six hsix]; simp) ?_
   refine qN hR ?_
   intro aa hS
   refine wpList_nil ?_
   refine hK968 _ _ ?_
   refine wp_ret ?_
   repeat first | with_reducible refine thenR ?_ | with_reducible refine blockR ?_ | with_reducible refine scopeR ?_
   refine ret1 (fn := Try.f7) (e := .ret) (.inl rfl) Try.results7 hS hR ⟨_, (.tmp rfl), ?_⟩
   exact ⟨rfl, (hR.sub exQ)⟩
end Go.Proofs.Ytkhdejjompbklaa.Sx
