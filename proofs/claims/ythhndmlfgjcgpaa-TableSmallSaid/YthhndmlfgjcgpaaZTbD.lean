/-
 
-/
import Derived.Test.YthhndmlfgjcgpaaZTbC
namespace Go.Proofs.Ythhndmlfgjcgpaa.Sx
open Go
set_option maxRecDepth 20000
set_option linter.unusedVariables false
set_option linter.unusedSimpArgs false
theorem bld35_1 (x1 : Int) (w : World) : (Instr.build 35 [(1, .int .u32 x1)].toArray).run Try.prog w = .ok (.agg [.int .u8 0, .int .u32 x1, .int .u32 0, .int .u16 0, .int .u16 0].toArray) w := by kernel_rfl
theorem bld77_0_1 (x0 : Option Addr) (x1 : Option Addr) (w : World) : (Instr.build 77 [(0, .pointer x0), (1, .pointer x1)].toArray).run Try.prog w = .ok (.agg [.pointer x0, .pointer x1].toArray) w := by kernel_rfl
theorem bld81_0_1_2_3_4 (x0_0 : Option Addr) (x0_1 : Option Addr) (x1 : Option Addr) (x2 : Option Addr) (x3_a : Option Addr) (x3_n x3_c : Nat) (x4 : Int) (w : World) : (Instr.build 81 [(0, .agg [.pointer x0_0, .pointer x0_1].toArray), (1, .pointer x1), (2, .pointer x2), (3, .slice x3_a x3_n x3_c), (4, .int .i64 x4)].toArray).run Try.prog w = .ok (.agg [.pointer x0_0, .pointer x0_1, .pointer x1, .pointer x2, .slice x3_a x3_n x3_c, .int .i64 x4].toArray) w := by kernel_rfl
theorem TbIn_ok {T : Tb} {S n b : Nat} {l : List HP} {w : World} {i : Int} (hR : Sep (tableA tt b S n T :: l) w) : CallR Try.prog 14 [.pointer (some ⟨b, 0, none⟩), .int .i64 i] w (fun v w' => ∃ r c, v = .slice r ((inF T.F i).map hd2).length c ∧ Sep (sls r ((inF T.F i).map hd2).length c 29 2 (((inF T.F i).map hd2).flatMap e2) :: tableA tt b S n T :: l) w') := by
 refine enter Try.func14 rfl Try.ntmps14 (Nat.le_of_ble_eq_true rfl) ?_; intro aa hS
 obtain ⟨bo, bb, ba, bl, r, c, K1, K2, L, ky, hT, hS4, hR⟩ := (hR.pk (r := tableA _ b _ _ _) pkQ).tableE
 dsimp only at hR
 have hTF := hT.tf
 have hkl := hT.len
 have hwl := (hR.pk (r := linksA _ _ _ bl _ _ _) pkQ).linksWL
 have hbk : Bk r := (hR.pk (r := sls r _ _ _ _ _) pkQ).bk (by have := hTF.ok.pos; have := hTF.size; omega)
 have hFl := hTF.len
 have hil := inF_len (F := T.F) (i := i)
 refine wp_seq_k ?_; intro K522 hK522
 refine wp_region_lit ?_
 revert aa
 refine qN hR ?_
 intro aa hS
 refine wpList_nil ?_
 refine hK522 _ _ ?_
 refine wp_seq_k ?_; intro K523 hK523
 refine wp_seq_k ?_; intro K524 hK524
 refine wp_region_lit ?_
 revert aa
 refine qM hR ?_
 intro aa hS
 refine sB (Bcall hS rfl Try.call35 (tbsome_ok (hR.pk (r := blk b _ _) pkQ)) (by decide) ?_); clear hS; intro aa ww vv hS hp
 clear hR
 obtain ⟨rfl, hR⟩ := hp
 refine sA hS hR (Yld.not hS rfl) (by decide) ?_; clear hS; intro aa hS
 refine wpList_nil ?_
 refine hK524 _ _ ?_
 refine condF hS rfl ?_
 refine wp_skip ?_
 refine hK523 _ _ ?_
 refine wp_seq_k ?_; intro K525 hK525
 refine wp_region_lit ?_
 revert aa
 refine qM hR ?_
 refine qA hR rfl (fun _ hS => Yld.nilCheck hS rfl) ?_
 refine qA hR rfl (fun _ hS => Yld.fieldAddr hS rfl 3 Try.underlying81 rfl rfl info79 (by decide)) ?_
 refine qA hR rfl (fun _ hS => Yld.load1 hS rfl Try.underlying79 rfl rdQ) ?_
 refine qM hR ?_
 intro aa hS
 refine sB (Bcall hS rfl Try.call40 (LAll_ok (q := i) (hR.pk (r := linksA _ _ _ bl _ _ _) pkQ)) (by decide) ?_); clear hS; intro aa ww vv hS hp
 clear hR
 obtain ⟨ra, ca, rfl, hR⟩ := hp
 rw [hT.all i] at hS hR
 replace hR := Sep.tableI (t := tt) (b := b) (T := T) hT hS4 (hR.sub exQ : Sep (_ :: _ :: _ :: _ :: _ :: _ :: sls ra _ ca 3 1 _ :: l) _)
 revert aa
 refine qM hR ?_
 refine qA hR rfl (fun _ hS => Yld.makeFunc hS rfl rfl) ?_
 intro aa hS
 refine sB (Bcall hS rfl Try.call39 (eachS_ok (fs := inF T.F i) (q := ra) (qc := ca) (fun f h => inF_mem h) (by omega) ((hR.pk (r := tableA _ b _ _ _) pkQ).pk (r := sls ra _ _ _ _ _) pkQ)) (by decide) ?_); clear hS; intro aa ww vv hS hp
 clear hR
 obtain ⟨rb, cb, rfl, hR⟩ := hp
 revert aa
 refine qN hR ?_
 intro aa hS
 refine wpList_nil ?_
 refine hK525 _ _ ?_
 refine wp_ret ?_
 repeat first | with_reducible refine thenR ?_ | with_reducible refine blockR ?_ | with_reducible refine scopeR ?_
 refine ret1 (fn := Try.f14) (e := .ret) (.inl rfl) Try.results14 hS hR ⟨_, (.tmp rfl), ?_⟩
 exact ⟨rb, cb, rfl, (hR.sub exQ)⟩
theorem flows_ok {T : Tb} {S n b : Nat} {l : List HP} {w : World} {ks : List Ky} {q : Option Addr} {qc : Nat} (hTF : TF S n T) (hks : ∀ y ∈ ks, ∃ f ∈ T.F, f.k = y) (hl : ks.length ≤ 9000) (hR : Sep (sls q ks.length qc 35 5 (ks.flatMap eK) :: tableA tt b S n T :: l) w) : CallR Try.prog 67 [.pointer (some ⟨b, 0, none⟩), .slice q ks.length qc] w (fun v w' => ∃ r c, v = .slice r (ks.map (hOfK T.F)).length c ∧ Sep (sls r (ks.map (hOfK T.F)).length c 29 2 ((ks.map (hOfK T.F)).flatMap e2) :: tableA tt b S n T :: l) w') := by
 refine enter Try.func67 rfl Try.ntmps67 (Nat.le_of_ble_eq_true rfl) ?_; intro aa hS
 refine wp_seq_k ?_; intro K526 hK526
 refine wp_region_lit ?_
 refine sB (Bbox hS hR rfl (by rfl) (by decide) ?_); clear hS hR; intro aa ww bb2 hS hR
 revert aa
 refine qN hR ?_
 intro aa hS
 refine wpList_nil ?_
 refine hK526 _ _ ?_
 refine wp_seq_k ?_; intro K527 hK527
 refine wp_region_lit ?_
 revert aa
 refine qM hR ?_
 refine qA hR rfl (fun _ hS => Yld.makeFunc hS rfl rfl) ?_
 intro aa hS
 refine sB (Bcall hS rfl Try.call87 (eachK_ok (ks := ks) (q := q) (qc := qc) (cf := bb2) hTF hks hl (((hR.pk (r := tableA _ b _ _ _) pkQ).pk (r := blk bb2 _ _) pkQ).pk (r := sls q _ _ _ _ _) pkQ)) (by decide) ?_); clear hS; intro aa ww vv hS hp
 clear hR
 obtain ⟨rb, cb, rfl, hR⟩ := hp
 revert aa
 refine qN hR ?_
 intro aa hS
 refine wpList_nil ?_
 refine hK527 _ _ ?_
 refine wp_ret ?_
 repeat first | with_reducible refine thenR ?_ | with_reducible refine blockR ?_ | with_reducible refine scopeR ?_
 refine ret1 (fn := Try.f67) (e := .ret) (.inl rfl) Try.results67 hS hR ⟨_, (.tmp rfl), ?_⟩
 exact ⟨rb, cb, rfl, (hR.sub exQ)⟩
theorem TbAll_ok {T : Tb} {S n b : Nat} {l : List HP} {w : World} (hR : Sep (tableA tt b S n T :: l) w) : CallR Try.prog 29 [.pointer (some ⟨b, 0, none⟩)] w (fun v w' => ∃ r c, v = .slice r (allF T.F).length c ∧ Sep (sls r (allF T.F).length c 29 2 ((allF T.F).flatMap e2) :: tableA tt b S n T :: l) w') := by
 refine enter Try.func29 rfl Try.ntmps29 (Nat.le_of_ble_eq_true rfl) ?_; intro aa hS
 obtain ⟨bo, bb, ba, bl, r, c, K1, K2, L, ky, hT, hS4, hR⟩ := (hR.pk (r := tableA _ b _ _ _) pkQ).tableE
 dsimp only at hR
 have hTF := hT.tf
 have hkl := hT.len
 have hwl := (hR.pk (r := linksA _ _ _ bl _ _ _) pkQ).linksWL
 have hbk : Bk r := (hR.pk (r := sls r _ _ _ _ _) pkQ).bk (by have := hTF.ok.pos; have := hTF.size; omega)
 refine wp_seq_k ?_; intro K528 hK528
 refine wp_region_lit ?_
 revert aa
 refine qN hR ?_
 intro aa hS
 refine wpList_nil ?_
 refine hK528 _ _ ?_
 refine wp_seq_k ?_; intro K529 hK529
 refine wp_seq_k ?_; intro K530 hK530
 refine wp_region_lit ?_
 revert aa
 refine qM hR ?_
 intro aa hS
 refine sB (Bcall hS rfl Try.call35 (tbsome_ok (hR.pk (r := blk b _ _) pkQ)) (by decide) ?_); clear hS; intro aa ww vv hS hp
 clear hR
 obtain ⟨rfl, hR⟩ := hp
 refine sA hS hR (Yld.not hS rfl) (by decide) ?_; clear hS; intro aa hS
 refine wpList_nil ?_
 refine hK530 _ _ ?_
 refine condF hS rfl ?_
 refine wp_skip ?_
 refine hK529 _ _ ?_
 refine wp_seq_k ?_; intro K531 hK531
 refine wp_region_lit ?_
 revert aa
 refine qM hR ?_
 refine qM hR ?_
 refine qA hR rfl (fun _ hS => Yld.nilCheck hS rfl) ?_
 refine qA hR rfl (fun _ hS => Yld.fieldAddr hS rfl 0 Try.underlying81 rfl rfl info77 (by decide)) ?_
 refine qA hR rfl (fun _ hS => Yld.fieldAddr hS rfl 0 Try.underlying77 rfl rfl info75 (by decide)) ?_
 refine qA hR rfl (fun _ hS => Yld.load1 hS rfl Try.underlying75 rfl rdQ) ?_
 intro aa hS
 refine sB (Bcall hS rfl Try.call68 (TKeys_ok (K := K1) (hR.pk (r := trieA _ _ _ bo _ _) pkQ)) (by decide) ?_); clear hS; intro aa ww vv hS hp
 clear hR
 obtain ⟨ra, ca, rfl, hR⟩ := hp
 rw [show undK K1 (0, 0, 0, 0, 0) 0 = srt (ownK T.F) from hT.srt] at hS hR
 replace hR := Sep.tableI (t := tt) (b := b) (T := T) hT hS4 (hR.sub exQ : Sep (_ :: _ :: _ :: _ :: _ :: _ :: sls ra _ ca 35 5 _ :: l) _)
 refine sB (Bcall hS rfl Try.call67 (flows_ok (ks := (srt (ownK T.F))) (q := ra) (qc := ca) hTF (fun y h => hTF.srtIn h) (by have := hTF.undLen (k := k0) (m := 0); have h8 : (srt (ownK T.F)).length ≤ S := this; omega) ((hR.pk (r := tableA _ b _ _ _) pkQ).pk (r := sls ra _ _ _ _ _) pkQ)) (by decide) ?_); clear hS; intro aa ww vv hS hp
 clear hR
 obtain ⟨rb, cb, rfl, hR⟩ := hp
 revert aa
 refine qN hR ?_
 intro aa hS
 refine wpList_nil ?_
 refine hK531 _ _ ?_
 refine wp_ret ?_
 repeat first | with_reducible refine thenR ?_ | with_reducible refine blockR ?_ | with_reducible refine scopeR ?_
 refine ret1 (fn := Try.f29) (e := .ret) (.inl rfl) Try.results29 hS hR ⟨_, (.tmp rfl), ?_⟩
 have h9 : Sep (sls rb ((srt (ownK T.F)).map (hOfK T.F)).length cb 29 2 (((srt (ownK T.F)).map (hOfK T.F)).flatMap e2) :: tableA tt b S n T :: l) _ := (hR.sub exQ)
 exact ⟨rb, cb, rfl, h9⟩
theorem TbFrom_ok {T : Tb} {S n b : Nat} {l : List HP} {w : World} {src : Int} (hs : 0 ≤ src ∧ src ≤ 4294967295) (hR : Sep (tableA tt b S n T :: l) w) : CallR Try.prog 32 [.pointer (some ⟨b, 0, none⟩), .int .u32 src] w (fun v w' => ∃ r c, v = .slice r (frmF T.F src).length c ∧ Sep (sls r (frmF T.F src).length c 29 2 ((frmF T.F src).flatMap e2) :: tableA tt b S n T :: l) w') := by
 refine enter Try.func32 rfl Try.ntmps32 (Nat.le_of_ble_eq_true rfl) ?_; intro aa hS
 obtain ⟨bo, bb, ba, bl, r, c, K1, K2, L, ky, hT, hS4, hR⟩ := (hR.pk (r := tableA _ b _ _ _) pkQ).tableE
 dsimp only at hR
 have hTF := hT.tf
 have hkl := hT.len
 have hwl := (hR.pk (r := linksA _ _ _ bl _ _ _) pkQ).linksWL
 have hbk : Bk r := (hR.pk (r := sls r _ _ _ _ _) pkQ).bk (by have := hTF.ok.pos; have := hTF.size; omega)
 refine wp_seq_k ?_; intro K532 hK532
 refine wp_region_lit ?_
 revert aa
 refine qN hR ?_
 intro aa hS
 refine wpList_nil ?_
 refine hK532 _ _ ?_
 refine wp_seq_k ?_; intro K533 hK533
 refine wp_seq_k ?_; intro K534 hK534
 refine wp_region_lit ?_
 revert aa
 refine qM hR ?_
 intro aa hS
 refine sB (Bcall hS rfl Try.call35 (tbsome_ok (hR.pk (r := blk b _ _) pkQ)) (by decide) ?_); clear hS; intro aa ww vv hS hp
 clear hR
 obtain ⟨rfl, hR⟩ := hp
 refine sA hS hR (Yld.not hS rfl) (by decide) ?_; clear hS; intro aa hS
 refine wpList_nil ?_
 refine hK534 _ _ ?_
 refine condF hS rfl ?_
 refine wp_skip ?_
 refine hK533 _ _ ?_
 refine wp_seq_k ?_; intro K535 hK535
 refine wp_region_lit ?_
 revert aa
 refine qM hR ?_
 refine qM hR ?_
 refine qA hR rfl (fun _ hS => Yld.nilCheck hS rfl) ?_
 refine qA hR rfl (fun _ hS => Yld.fieldAddr hS rfl 0 Try.underlying81 rfl rfl info77 (by decide)) ?_
 refine qA hR rfl (fun _ hS => Yld.fieldAddr hS rfl 0 Try.underlying77 rfl rfl info75 (by decide)) ?_
 refine qA hR rfl (fun _ hS => Yld.load1 hS rfl Try.underlying75 rfl rdQ) ?_
 refine qM hR ?_
 refine qA hR rfl (fun _ hS => Yld.build hS rfl (bld35_1 _)) ?_
 intro aa hS
 refine sB (Bcall hS rfl Try.call70 (TUnder_ok (K := K1) (k := (0, src, 0, 0, 0)) (n := 8) (hR.pk (r := trieA _ _ _ bo _ _) pkQ) ⟨by dsimp only; omega, hs, by dsimp only; omega, by dsimp only; omega, by dsimp only; omega⟩) (by decide) ?_); clear hS; intro aa ww vv hS hp
 clear hR
 obtain ⟨ra, ca, rfl, hR⟩ := hp
 rw [show undK K1 (0, src, 0, 0, 0) 8 = undK' (ownK T.F) (0, src, 0, 0, 0) 8 from hT.und _ _] at hS hR
 replace hR := Sep.tableI (t := tt) (b := b) (T := T) hT hS4 (hR.sub exQ : Sep (_ :: _ :: _ :: _ :: _ :: _ :: sls ra _ ca 35 5 _ :: l) _)
 refine sB (Bcall hS rfl Try.call67 (flows_ok (ks := (undK' (ownK T.F) (0, src, 0, 0, 0) 8)) (q := ra) (qc := ca) hTF (fun y h => hTF.undIn h) (by have := hTF.undLen (k := (0, src, 0, 0, 0)) (m := 8); omega) ((hR.pk (r := tableA _ b _ _ _) pkQ).pk (r := sls ra _ _ _ _ _) pkQ)) (by decide) ?_); clear hS; intro aa ww vv hS hp
 clear hR
 obtain ⟨rb, cb, rfl, hR⟩ := hp
 revert aa
 refine qN hR ?_
 intro aa hS
 refine wpList_nil ?_
 refine hK535 _ _ ?_
 refine wp_ret ?_
 repeat first | with_reducible refine thenR ?_ | with_reducible refine blockR ?_ | with_reducible refine scopeR ?_
 refine ret1 (fn := Try.f32) (e := .ret) (.inl rfl) Try.results32 hS hR ⟨_, (.tmp rfl), ?_⟩
 have h9 : Sep (sls rb ((undK' (ownK T.F) (0, src, 0, 0, 0) 8).map (hOfK T.F)).length cb 29 2 (((undK' (ownK T.F) (0, src, 0, 0, 0) 8).map (hOfK T.F)).flatMap e2) :: tableA tt b S n T :: l) _ := (hR.sub exQ)
 exact ⟨rb, cb, rfl, h9⟩
theorem TbCount_ok {T : Tb} {S n b : Nat} {l : List HP} {w : World} {src : Int} (hs : 0 ≤ src ∧ src ≤ 4294967295) (hR : Sep (tableA tt b S n T :: l) w) : CallR Try.prog 33 [.pointer (some ⟨b, 0, none⟩), .int .u32 src] w (fun v w' => v = .int .i64 ((frmF T.F src).length : Int) ∧ Sep (tableA tt b S n T :: l) w') := by
 refine enter Try.func33 rfl Try.ntmps33 (Nat.le_of_ble_eq_true rfl) ?_; intro aa hS
 obtain ⟨bo, bb, ba, bl, r, c, K1, K2, L, ky, hT, hS4, hR⟩ := (hR.pk (r := tableA _ b _ _ _) pkQ).tableE
 dsimp only at hR
 have hTF := hT.tf
 have hkl := hT.len
 have hwl := (hR.pk (r := linksA _ _ _ bl _ _ _) pkQ).linksWL
 have hbk : Bk r := (hR.pk (r := sls r _ _ _ _ _) pkQ).bk (by have := hTF.ok.pos; have := hTF.size; omega)
 have hcn := und_count (k := (0, src, 0, 0, 0)) (n := 8) hTF.own.wf hTF.own.nd ⟨by omega, by omega⟩
 refine wp_seq_k ?_; intro K536 hK536
 refine wp_region_lit ?_
 revert aa
 refine qN hR ?_
 intro aa hS
 refine wpList_nil ?_
 refine hK536 _ _ ?_
 refine wp_seq_k ?_; intro K537 hK537
 refine wp_seq_k ?_; intro K538 hK538
 refine wp_region_lit ?_
 revert aa
 refine qM hR ?_
 intro aa hS
 refine sB (Bcall hS rfl Try.call35 (tbsome_ok (hR.pk (r := blk b _ _) pkQ)) (by decide) ?_); clear hS; intro aa ww vv hS hp
 clear hR
 obtain ⟨rfl, hR⟩ := hp
 refine sA hS hR (Yld.not hS rfl) (by decide) ?_; clear hS; intro aa hS
 refine wpList_nil ?_
 refine hK538 _ _ ?_
 refine condF hS rfl ?_
 refine wp_skip ?_
 refine hK537 _ _ ?_
 refine wp_seq_k ?_; intro K539 hK539
 refine wp_region_lit ?_
 revert aa
 refine qM hR ?_
 refine qA hR rfl (fun _ hS => Yld.nilCheck hS rfl) ?_
 refine qA hR rfl (fun _ hS => Yld.fieldAddr hS rfl 0 Try.underlying81 rfl rfl info77 (by decide)) ?_
 refine qA hR rfl (fun _ hS => Yld.fieldAddr hS rfl 0 Try.underlying77 rfl rfl info75 (by decide)) ?_
 refine qA hR rfl (fun _ hS => Yld.load1 hS rfl Try.underlying75 rfl rdQ) ?_
 refine qM hR ?_
 refine qA hR rfl (fun _ hS => Yld.build hS rfl (bld35_1 _)) ?_
 intro aa hS
 refine sB (Bcall hS rfl Try.call71 (TCount_ok (K := K1) (k := (0, src, 0, 0, 0)) (n := 8) (hR.pk (r := trieA _ _ _ bo _ _) pkQ) ⟨by dsimp only; omega, hs, by dsimp only; omega, by dsimp only; omega, by dsimp only; omega⟩) (by decide) ?_); clear hS; intro aa ww vv hS hp
 clear hR
 obtain ⟨rfl, hR⟩ := hp
 rw [if_pos ⟨by omega, by omega⟩, hT.cnt1, ← hcn] at hS
 revert aa
 refine qN hR ?_
 intro aa hS
 refine wpList_nil ?_
 refine hK539 _ _ ?_
 refine wp_ret ?_
 repeat first | with_reducible refine thenR ?_ | with_reducible refine blockR ?_ | with_reducible refine scopeR ?_
 refine ret1 (fn := Try.f33) (e := .ret) (.inl rfl) Try.results33 hS hR ⟨_, (.tmp rfl), ?_⟩
 refine ⟨?_, Sep.tableI (t := tt) (b := b) (T := T) hT hS4 (hR.sub exQ)⟩
 rw [frmF, List.length_map]
theorem TbLen_ok {T : Tb} {S n b : Nat} {l : List HP} {w : World} (hR : Sep (tableA tt b S n T :: l) w) : CallR Try.prog 19 [.pointer (some ⟨b, 0, none⟩)] w (fun v w' => v = .int .i64 (T.F.length : Int) ∧ Sep (tableA tt b S n T :: l) w') := by
 refine enter Try.func19 rfl Try.ntmps19 (Nat.le_of_ble_eq_true rfl) ?_; intro aa hS
 obtain ⟨bo, bb, ba, bl, r, c, K1, K2, L, ky, hT, hS4, hR⟩ := (hR.pk (r := tableA _ b _ _ _) pkQ).tableE
 dsimp only at hR
 have hTF := hT.tf
 have hkl := hT.len
 have hwl := (hR.pk (r := linksA _ _ _ bl _ _ _) pkQ).linksWL
 have hbk : Bk r := (hR.pk (r := sls r _ _ _ _ _) pkQ).bk (by have := hTF.ok.pos; have := hTF.size; omega)
 refine wp_seq_k ?_; intro K540 hK540
 refine wp_region_lit ?_
 revert aa
 refine qN hR ?_
 intro aa hS
 refine wpList_nil ?_
 refine hK540 _ _ ?_
 refine wp_seq_k ?_; intro K541 hK541
 refine wp_seq_k ?_; intro K542 hK542
 refine wp_region_lit ?_
 revert aa
 refine qM hR ?_
 intro aa hS
 refine sB (Bcall hS rfl Try.call35 (tbsome_ok (hR.pk (r := blk b _ _) pkQ)) (by decide) ?_); clear hS; intro aa ww vv hS hp
 clear hR
 obtain ⟨rfl, hR⟩ := hp
 refine sA hS hR (Yld.not hS rfl) (by decide) ?_; clear hS; intro aa hS
 refine wpList_nil ?_
 refine hK542 _ _ ?_
 refine condF hS rfl ?_
 refine wp_skip ?_
 refine hK541 _ _ ?_
 refine wp_seq_k ?_; intro K543 hK543
 refine wp_region_lit ?_
 revert aa
 refine qM hR ?_
 refine qA hR rfl (fun _ hS => Yld.nilCheck hS rfl) ?_
 refine qA hR rfl (fun _ hS => Yld.fieldAddr hS rfl 2 Try.underlying81 rfl rfl info78 (by decide)) ?_
 refine qA hR rfl (fun _ hS => Yld.load1 hS rfl Try.underlying78 rfl rdQ) ?_
 intro aa hS
 refine sB (Bcall hS rfl Try.call51 (Count_okA (hR.pk (r := arena _ _ ba _) pkQ)) (by decide) ?_); clear hS; intro aa ww vv hS hp
 clear hR
 obtain ⟨rfl, hR⟩ := hp
 rw [hTF.cnt] at hS
 revert aa
 refine qN hR ?_
 intro aa hS
 refine wpList_nil ?_
 refine hK543 _ _ ?_
 refine wp_ret ?_
 repeat first | with_reducible refine thenR ?_ | with_reducible refine blockR ?_ | with_reducible refine scopeR ?_
 refine ret1 (fn := Try.f19) (e := .ret) (.inl rfl) Try.results19 hS hR ⟨_, (.tmp rfl), ?_⟩
 exact ⟨rfl, Sep.tableI (t := tt) (b := b) (T := T) hT hS4 (hR.sub exQ)⟩
theorem TbRoom_ok {T : Tb} {S n b : Nat} {l : List HP} {w : World} (hR : Sep (tableA tt b S n T :: l) w) : CallR Try.prog 20 [.pointer (some ⟨b, 0, none⟩)] w (fun v w' => v = .int .i64 ((S : Int) - T.F.length) ∧ Sep (tableA tt b S n T :: l) w') := by
 refine enter Try.func20 rfl Try.ntmps20 (Nat.le_of_ble_eq_true rfl) ?_; intro aa hS
 obtain ⟨bo, bb, ba, bl, r, c, K1, K2, L, ky, hT, hS4, hR⟩ := (hR.pk (r := tableA _ b _ _ _) pkQ).tableE
 dsimp only at hR
 have hTF := hT.tf
 have hkl := hT.len
 have hwl := (hR.pk (r := linksA _ _ _ bl _ _ _) pkQ).linksWL
 have hbk : Bk r := (hR.pk (r := sls r _ _ _ _ _) pkQ).bk (by have := hTF.ok.pos; have := hTF.size; omega)
 have hFl := hTF.len
 have hsz := hTF.size
 refine wp_seq_k ?_; intro K544 hK544
 refine wp_region_lit ?_
 revert aa
 refine qN hR ?_
 intro aa hS
 refine wpList_nil ?_
 refine hK544 _ _ ?_
 refine wp_seq_k ?_; intro K545 hK545
 refine wp_seq_k ?_; intro K546 hK546
 refine wp_region_lit ?_
 revert aa
 refine qM hR ?_
 intro aa hS
 refine sB (Bcall hS rfl Try.call35 (tbsome_ok (hR.pk (r := blk b _ _) pkQ)) (by decide) ?_); clear hS; intro aa ww vv hS hp
 clear hR
 obtain ⟨rfl, hR⟩ := hp
 refine sA hS hR (Yld.not hS rfl) (by decide) ?_; clear hS; intro aa hS
 refine wpList_nil ?_
 refine hK546 _ _ ?_
 refine condF hS rfl ?_
 refine wp_skip ?_
 refine hK545 _ _ ?_
 refine wp_seq_k ?_; intro K547 hK547
 refine drawn krQ hR Ex.refl ?_; clear hR; intro ww hR hR0
 revert aa
 refine eA 0 rfl krQ (fun _ _ _ h => h) hR0 rfl (fun _ hS => Yld.move hS rfl) ?_
 refine eA 1 rfl krQ (fun _ _ _ h => h) hR0 rfl (fun _ hS => Yld.nilCheck hS rfl) ?_
 refine eA 2 rfl krQ (fun _ _ _ h => h) hR0 rfl (fun _ hS => Yld.fieldAddr hS rfl 2 Try.underlying81 rfl rfl info78 (by decide)) ?_
 refine eA 3 rfl krQ (fun _ _ _ h => h) hR0 rfl (fun _ hS => Yld.load1 hS rfl Try.underlying78 rfl rdQ) ?_
 refine eA 5 rfl krQ (fun _ _ _ h => h) hR0 rfl (fun _ hS => Yld.move hS rfl) ?_
 refine eA 6 rfl krQ (fun _ _ _ h => h) hR0 rfl (fun _ hS => Yld.nilCheck hS rfl) ?_
 refine eA 7 rfl krQ (fun _ _ _ h => h) hR0 rfl (fun _ hS => Yld.fieldAddr hS rfl 2 Try.underlying81 rfl rfl info78 (by decide)) ?_
 refine eA 8 rfl krQ (fun _ _ _ h => h) hR0 rfl (fun _ hS => Yld.load1 hS rfl Try.underlying78 rfl rdQ) ?_
 intro aa hS
 refine dOne (i := 4) krQ ?_
 refine dop rfl (Bcall hS rfl Try.call52 (Size_okA (hR.pk (r := arena _ _ ba _) pkQ)) (by decide) ?_); clear hS; intro aa ww vv hS hp
 clear hR hR0
 obtain ⟨rfl, hR⟩ := hp
 rw [hsz] at hS
 refine dnext (hR.sub exQ) ?_; intro hR0
 refine dOne (i := 9) krQ ?_
 refine dop rfl (Bcall hS rfl Try.call51 (Count_okA (hR.pk (r := arena _ _ ba _) pkQ)) (by decide) ?_); clear hS; intro aa ww vv hS hp
 clear hR hR0
 obtain ⟨rfl, hR⟩ := hp
 rw [hTF.cnt] at hS
 refine dnext (hR.sub exQ) ?_; intro hR0
 refine dA 10 rfl krQ krQ krQ (fun _ _ _ h => h) hS hR0 suQ (by decide) ?_; clear hS; intro aa hS
 revert aa
 refine eA 11 rfl krQ (fun _ _ _ h => h) hR0 rfl (fun _ hS => Yld.assign hS rfl) ?_
 intro aa hS
 refine wpAnyH_done krQ ?_ _; clear hR0
 refine hK547 _ _ ?_
 refine wp_ret ?_
 repeat first | with_reducible refine thenR ?_ | with_reducible refine blockR ?_ | with_reducible refine scopeR ?_
 refine ret1 (fn := Try.f20) (e := .ret) (.inl rfl) Try.results20 hS hR ⟨_, (.tmp rfl), ?_⟩
 exact ⟨rfl, Sep.tableI (t := tt) (b := b) (T := T) hT hS4 (hR.sub exQ)⟩
theorem TbNew_bad {m i : Int} {l : List HP} {w : World} (hR : Sep l w) (hn : ¬ (1 ≤ m ∧ m ≤ 4096 ∧ 1 ≤ i ∧ i ≤ 8)) : CallR Try.prog 17 [.int .i64 m, .int .i64 i] w (fun v w' => v = .tuple [.pointer none, .int .i64 2].toArray ∧ Sep l w') := by
 refine enter Try.func17 rfl Try.ntmps17 (Nat.le_of_ble_eq_true rfl) ?_; intro aa hS
 refine wp_seq_k ?_; intro K548 hK548
 refine wp_region_lit ?_
 revert aa
 refine qN hR ?_
 refine qN hR ?_
 intro aa hS
 refine wpList_nil ?_
 refine hK548 _ _ ?_
 refine wp_seq_k ?_; intro K549 hK549
 refine wp_seq_k ?_; intro K550 hK550
 refine wp_region_lit ?_
 revert aa
 refine qM hR ?_
 refine qA hR rfl (fun _ hS => Yld.lss hS rfl rfl) ?_
 refine qM hR ?_
 intro aa hS
 refine hS.splitB (t := 16) rfl ?_ ?_ <;> clear hS
 ·
  intro hg hS
  revert aa
  refine qZ ?_
  refine qZ ?_
  refine qA hR rfl (fun _ hS => Yld.pickT hS rfl rfl) ?_
  refine qM hR ?_
  refine qZ ?_
  refine qZ ?_
  refine qA hR rfl (fun _ hS => Yld.pickT hS rfl rfl) ?_
  refine qM hR ?_
  refine qZ ?_
  refine qZ ?_
  refine qA hR rfl (fun _ hS => Yld.pickT hS rfl rfl) ?_
  intro aa hS
  refine wpList_nil ?_
  refine hK550 _ _ ?_
  refine condT hS rfl ?_
  refine wp_seq_k ?_; intro K551 hK551
  refine wp_region_lit ?_
  revert aa
  refine qN hR ?_
  refine qN hR ?_
  intro aa hS
  refine wpList_nil ?_
  refine hK551 _ _ ?_
  refine wp_ret ?_
  repeat first | with_reducible refine thenR ?_ | with_reducible refine blockR ?_ | with_reducible refine scopeR ?_
  refine retN (fn := Try.f17) (e := .ret) (.inl rfl) Try.results17 hS hR ⟨_, .cons (.tmp rfl) (.cons (.tmp rfl) (.nil)), rfl, ?_⟩
  exact ⟨rfl, (hR.sub exQ)⟩
 ·
  intro hg hS
  revert aa
  refine qMg hR ?_
  refine qAg hR rfl rfl rfl (fun _ hS => Yld.gtr hS rfl rfl) ?_
  refine qA hR rfl (fun _ hS => Yld.pickF hS rfl rfl) ?_
  refine qM hR ?_
  intro aa hS
  refine hS.splitB (t := 20) rfl ?_ ?_ <;> clear hS
  ·
   intro hg hS
   revert aa
   refine qZ ?_
   refine qZ ?_
   refine qA hR rfl (fun _ hS => Yld.pickT hS rfl rfl) ?_
   refine qM hR ?_
   refine qZ ?_
   refine qZ ?_
   refine qA hR rfl (fun _ hS => Yld.pickT hS rfl rfl) ?_
   intro aa hS
   refine wpList_nil ?_
   refine hK550 _ _ ?_
   refine condT hS rfl ?_
   refine wp_seq_k ?_; intro K552 hK552
   refine wp_region_lit ?_
   revert aa
   refine qN hR ?_
   refine qN hR ?_
   intro aa hS
   refine wpList_nil ?_
   refine hK552 _ _ ?_
   refine wp_ret ?_
   repeat first | with_reducible refine thenR ?_ | with_reducible refine blockR ?_ | with_reducible refine scopeR ?_
   refine retN (fn := Try.f17) (e := .ret) (.inl rfl) Try.results17 hS hR ⟨_, .cons (.tmp rfl) (.cons (.tmp rfl) (.nil)), rfl, ?_⟩
   exact ⟨rfl, (hR.sub exQ)⟩
  ·
   intro hg hS
   revert aa
   refine qMg hR ?_
   refine qAg hR rfl rfl rfl (fun _ hS => Yld.lss hS rfl rfl) ?_
   refine qA hR rfl (fun _ hS => Yld.pickF hS rfl rfl) ?_
   refine qM hR ?_
   intro aa hS
   refine hS.splitB (t := 24) rfl ?_ ?_ <;> clear hS
   ·
    intro hg hS
    revert aa
    refine qZ ?_
    refine qZ ?_
    refine qA hR rfl (fun _ hS => Yld.pickT hS rfl rfl) ?_
    intro aa hS
    refine wpList_nil ?_
    refine hK550 _ _ ?_
    refine condT hS rfl ?_
    refine wp_seq_k ?_; intro K553 hK553
    refine wp_region_lit ?_
    revert aa
    refine qN hR ?_
    refine qN hR ?_
    intro aa hS
    refine wpList_nil ?_
    refine hK553 _ _ ?_
    refine wp_ret ?_
    repeat first | with_reducible refine thenR ?_ | with_reducible refine blockR ?_ | with_reducible refine scopeR ?_
    refine retN (fn := Try.f17) (e := .ret) (.inl rfl) Try.results17 hS hR ⟨_, .cons (.tmp rfl) (.cons (.tmp rfl) (.nil)), rfl, ?_⟩
    exact ⟨rfl, (hR.sub exQ)⟩
   ·
    intro hg hS
    revert aa
    refine qMg hR ?_
    refine qAg hR rfl rfl rfl (fun _ hS => Yld.gtr hS rfl rfl) ?_
    refine qB (t := 26) true rfl (by exact decide_eq_true (by omega)) ?_
    refine qA hR rfl (fun _ hS => Yld.pickF hS rfl rfl) ?_
    intro aa hS
    refine wpList_nil ?_
    refine hK550 _ _ ?_
    refine condT hS rfl ?_
    refine wp_seq_k ?_; intro K554 hK554
    refine wp_region_lit ?_
    revert aa
    refine qN hR ?_
    refine qN hR ?_
    intro aa hS
    refine wpList_nil ?_
    refine hK554 _ _ ?_
    refine wp_ret ?_
    repeat first | with_reducible refine thenR ?_ | with_reducible refine blockR ?_ | with_reducible refine scopeR ?_
    refine retN (fn := Try.f17) (e := .ret) (.inl rfl) Try.results17 hS hR ⟨_, .cons (.tmp rfl) (.cons (.tmp rfl) (.nil)), rfl, ?_⟩
    exact ⟨rfl, (hR.sub exQ)⟩
set_option maxHeartbeats 1000000 in
theorem TbNew_ok {S n : Nat} {l : List HP} {w : World} (hR : Sep l w) (h1 : 1 ≤ S) (h2 : S ≤ 4096) (h3 : 1 ≤ n) (h4 : n ≤ 8) : CallR Try.prog 17 [.int .i64 (S : Int), .int .i64 (n : Int)] w (fun v w' => ∃ b, v = .tuple [.pointer (some ⟨b, 0, none⟩), .int .i64 0].toArray ∧ Sep (tableA tt b S n { F := [], A := Ar.new S } :: l) w') := by
 refine enter Try.func17 rfl Try.ntmps17 (Nat.le_of_ble_eq_true rfl) ?_; intro aa hS
 refine wp_seq_k ?_; intro K555 hK555
 refine wp_region_lit ?_
 revert aa
 refine qN hR ?_
 refine qN hR ?_
 intro aa hS
 refine wpList_nil ?_
 refine hK555 _ _ ?_
 refine wp_seq_k ?_; intro K556 hK556
 refine wp_seq_k ?_; intro K557 hK557
 refine wp_region_lit ?_
 revert aa
 refine qM hR ?_
 refine qA hR rfl (fun _ hS => Yld.lss hS rfl rfl) ?_
 refine qB (t := 15) false rfl (by exact decide_eq_false (by omega)) ?_
 refine qM hR ?_
 refine qMg hR ?_
 refine qAg hR rfl rfl rfl (fun _ hS => Yld.gtr hS rfl rfl) ?_
 refine qB (t := 18) false rfl (by exact decide_eq_false (by omega)) ?_
 refine qA hR rfl (fun _ hS => Yld.pickF hS rfl rfl) ?_
 refine qM hR ?_
 refine qMg hR ?_
 refine qAg hR rfl rfl rfl (fun _ hS => Yld.lss hS rfl rfl) ?_
 refine qB (t := 22) false rfl (by exact decide_eq_false (by omega)) ?_
 refine qA hR rfl (fun _ hS => Yld.pickF hS rfl rfl) ?_
 refine qM hR ?_
 refine qMg hR ?_
 refine qAg hR rfl rfl rfl (fun _ hS => Yld.gtr hS rfl rfl) ?_
 refine qB (t := 26) false rfl (by exact decide_eq_false (by omega)) ?_
 refine qA hR rfl (fun _ hS => Yld.pickF hS rfl rfl) ?_
 intro aa hS
 refine wpList_nil ?_
 refine hK557 _ _ ?_
 refine condF hS rfl ?_
 refine wp_skip ?_
 refine hK556 _ _ ?_
 refine wp_seq_k ?_; intro K558 hK558
 refine wp_region_lit ?_
 revert aa
 refine qM hR ?_
 intro aa hS
 refine sB (Bcall hS rfl Try.call46 (New_ok (n := (S : Int)) hR (by omega)) (by decide) ?_); clear hS; intro aa ww vv hS hp
 clear hR
 obtain ⟨ba, rfl, hR⟩ := hp
 rw [Int.toNat_natCast] at hR
 revert aa
 refine qM hR ?_
 refine qX hR ?_
 refine qX hR ?_
 refine qN hR ?_
 refine qN hR ?_
 intro aa hS
 refine wpList_nil ?_
 refine hK558 _ _ ?_
 refine wp_seq_k ?_; intro K559 hK559
 refine wp_region_lit ?_
 revert aa
 refine qM hR ?_
 refine qM hR ?_
 intro aa hS
 refine sB (Bcall hS rfl Try.call47 (LNew_ok (S := S) (n := n) hR (by omega) (by omega) (by omega) (by omega)) (by decide) ?_); clear hS; intro aa ww vv hS hp
 clear hR
 obtain ⟨bl, rfl, hR⟩ := hp
 revert aa
 refine qM hR ?_
 refine qX hR ?_
 refine qX hR ?_
 refine qN hR ?_
 refine qN hR ?_
 intro aa hS
 refine wpList_nil ?_
 refine hK559 _ _ ?_
 refine wp_seq_k ?_; intro K560 hK560
 refine wp_region_lit ?_
 revert aa
 refine qM hR ?_
 intro aa hS
 refine sB (Bcall hS rfl Try.call48 (TNew_ok (n := (S : Int)) hR (by omega)) (by decide) ?_); clear hS; intro aa ww vv hS hp
 clear hR
 obtain ⟨bo, rfl, hR⟩ := hp
 revert aa
 refine qM hR ?_
 refine qX hR ?_
 refine qX hR ?_
 refine qN hR ?_
 refine qN hR ?_
 intro aa hS
 refine wpList_nil ?_
 refine hK560 _ _ ?_
 refine wp_seq_k ?_; intro K561 hK561
 refine wp_region_lit ?_
 revert aa
 refine qM hR ?_
 intro aa hS
 refine sB (Bcall hS rfl Try.call48 (TNew_ok (n := (S : Int)) hR (by omega)) (by decide) ?_); clear hS; intro aa ww vv hS hp
 clear hR
 obtain ⟨bb, rfl, hR⟩ := hp
 revert aa
 refine qM hR ?_
 refine qX hR ?_
 refine qX hR ?_
 refine qN hR ?_
 refine qN hR ?_
 intro aa hS
 refine wpList_nil ?_
 refine hK561 _ _ ?_
 refine wp_seq_k ?_; intro K562 hK562
 refine wp_seq_k ?_; intro K563 hK563
 refine wp_region_lit ?_
 revert aa
 refine qM hR ?_
 refine qA hR rfl (fun _ hS => Yld.neq hS rfl rfl) ?_
 refine qB (t := 50) false rfl (by simp) ?_
 refine qM hR ?_
 refine qMg hR ?_
 refine qAg hR rfl rfl rfl (fun _ hS => Yld.neq hS rfl rfl) ?_
 refine qB (t := 53) false rfl (by simp) ?_
 refine qA hR rfl (fun _ hS => Yld.pickF hS rfl rfl) ?_
 refine qM hR ?_
 refine qMg hR ?_
 refine qAg hR rfl rfl rfl (fun _ hS => Yld.neq hS rfl rfl) ?_
 refine qB (t := 57) false rfl (by simp) ?_
 refine qA hR rfl (fun _ hS => Yld.pickF hS rfl rfl) ?_
 refine qM hR ?_
 refine qMg hR ?_
 refine qAg hR rfl rfl rfl (fun _ hS => Yld.neq hS rfl rfl) ?_
 refine qB (t := 61) false rfl (by simp) ?_
 refine qA hR rfl (fun _ hS => Yld.pickF hS rfl rfl) ?_
 intro aa hS
 refine wpList_nil ?_
 refine hK563 _ _ ?_
 refine condF hS rfl ?_
 refine wp_skip ?_
 refine hK562 _ _ ?_
 refine wp_seq_k ?_; intro K564 hK564
 refine wp_region_lit ?_
 revert aa
 refine qM hR ?_
 refine qM hR ?_
 refine qA hR rfl (fun _ hS => Yld.build hS rfl (bld77_0_1 _ _)) ?_
 refine qM hR ?_
 refine qM hR ?_
 refine qM hR ?_
 intro aa hS
 refine sB (Bmake (zc := [.int .u8 0, .int .u32 0, .int .u32 0, .int .u16 0, .int .u16 0]) hS hR rfl rfl Try.underlying24 info35 rfl (by rfl) (by rfl) (by decide) (by omega) (by show ((16 : Nat) : Int) * _ ≤ _; omega) (by omega) (by decide) ?_); clear hS hR; intro aa ww bb69 hS hR
 rw [show ((S : Int)).toNat = S from Int.toNat_natCast S] at hS hR
 replace hR := hR.pk (r := blk bb69 _ _) pkQ
 rw [zeros_flat (zc := [.int .u8 0, .int .u32 0, .int .u32 0, .int .u16 0, .int .u16 0]) (enc := eK) (k0 : Ky) S rfl] at hR
 replace hR := Sep.toRecs (m := S) (sz := 5) (enc := eK) (List.replicate S k0) hR rfl (by intro _; rfl) (by rw [List.length_replicate])
 revert aa
 refine qM hR ?_
 refine qA hR rfl (fun _ hS => Yld.build hS rfl (bld81_0_1_2_3_4 _ _ _ _ _ _ _ _)) ?_
 intro aa hS
 refine sB (Bbox hS hR rfl (by rfl) (by decide) ?_); clear hS hR; intro aa ww bb72 hS hR
 revert aa
 refine qN hR ?_
 refine qN hR ?_
 intro aa hS
 refine wpList_nil ?_
 refine hK564 _ _ ?_
 refine wp_ret ?_
 repeat first | with_reducible refine thenR ?_ | with_reducible refine blockR ?_ | with_reducible refine scopeR ?_
 refine retN (fn := Try.f17) (e := .ret) (.inl rfl) Try.results17 hS hR ⟨_, .cons (.tmp rfl) (.cons (.tmp rfl) (.nil)), rfl, ?_⟩
 have h9 : Sep (tableA tt bb72 S n { F := [], A := Ar.new S } :: l) _ := Sep.tableI (t := tt) (b := bb72) (T := { F := [], A := Ar.new S }) (new_TI (n := n) h1 h2) h2 (hR.sub exQ)
 exact ⟨bb72, rfl, h9⟩
end Go.Proofs.Ythhndmlfgjcgpaa.Sx
