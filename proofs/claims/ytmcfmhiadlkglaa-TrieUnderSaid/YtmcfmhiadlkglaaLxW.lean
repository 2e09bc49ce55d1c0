/-
  
-/
import Derived.Test.YtmcfmhiadlkglaaTrK
import Derived.Test.YtmcfmhiadlkglaaTrie16
namespace Go.Proofs.Ytmcfmhiadlkglaa.Sx
open Go
set_option linter.unusedVariables false
set_option linter.unusedSimpArgs false



set_option maxHeartbeats 4000000 in
set_option maxRecDepth 20000 in
theorem with_ok {k : Ky} {n d : Nat} {l : List HP} {w : World} (hR : Sep l w) (hk : WfK k) (hn : n < 26) (hd : d < 16) : CallR Try.prog 22 [vK k, .int .i64 (n : Int), .int .u8 (d : Int)] w (fun v w' => v = vK (withD k n d) ∧ Sep l w') := by
  refine enter Try.func22 rfl Try.ntmps22 (Nat.le_of_ble_eq_true rfl) ?_; intro aa hS
  refine wp_seq_k ?_; intro K430 hK430
  refine wp_region_lit ?_
  refine sB (Bbox hS hR rfl (by rfl) (by decide) ?_); clear hS hR; intro aa ww bb3 hS hR
  refine sB (Balloc hS hR info34 (by rfl) (by rfl) (by decide) ?_); clear hS hR; intro aa ww bb6 hS hR
  refine wpList_nil ?_
  refine hK430 _ _ ?_
  refine wp_seq_k ?_; intro K431 hK431
  refine wp_region_lit ?_
  refine sA hS hR (Yld.loadAgg hS rfl Try.underlying34 rfl info34 (by first | exact Rds.cons (Rd.blk pkQ (by rfl)) (Rds.cons (Rd.blk pkQ (by rfl)) (Rds.cons (Rd.blk pkQ (by rfl)) (Rds.cons (Rd.blk pkQ (by rfl)) (Rds.cons (Rd.blk pkQ (by rfl)) (Rds.nil))))) | exact Rds.rec pkQ (by intro _; rfl) (by omega) | exact Rds.flat1 pkQ (by intro _; rfl) (by omega)) (by rfl)) (by decide) ?_; clear hS; intro aa hS
  refine sA hS hR (Yld.move hS rfl) (by decide) ?_; clear hS; intro aa hS
  refine sB (Bcall hS rfl Try.call20 (Digit_ok (k := k) hR hk) (by decide) ?_); clear hS; intro aa ww vv hS hp
  clear hR
  obtain ⟨rfl, hR⟩ := hp
  rw [show digI k (n : Int) = dig k n from by rw [digI, if_pos (by omega), Int.toNat_natCast]] at hS
  refine sA hS hR (Yld.move hS rfl) (by decide) ?_; clear hS; intro aa hS
  refine sA hS hR (Yld.to (Yld.xor2 hS rfl rfl) (congrArg (Value.int .u8) (dx8 hd))) (by decide) ?_; clear hS; intro aa hS
  obtain ⟨x, hxe⟩ : ∃ x : Nat, (dig k n).toNat ^^^ d = x := ⟨_, rfl⟩
  have hx : x < 16 := hxe ▸ dx_lt hd
  rw [hxe] at hS
  refine sA hS hR ((by first | exact Yld.to (Yld.convInt hS rfl rfl Try.underlying31) (congrArg (Value.int .u32) (IntWalk.u32_in _ (by omega))) | exact Yld.convInt hS rfl rfl Try.underlying31)) (by decide) ?_; clear hS; intro aa hS
  refine sA hS hR (Yld.assign hS rfl) (by decide) ?_; clear hS; intro aa hS
  refine wpList_nil ?_
  refine hK431 _ _ ?_
  refine wp_seq_k ?_; intro K432 hK432
  refine wp_block ?_
  refine wp_seq_k ?_; intro K433 hK433
  refine wp_region_lit ?_
  refine sA hS hR (Yld.move hS rfl) (by decide) ?_; clear hS; intro aa hS
  refine sA hS hR (Yld.lss hS rfl rfl) (by decide) ?_; clear hS; intro aa hS
  refine sA hS hR (Yld.assign hS rfl) (by decide) ?_; clear hS; intro aa hS
  refine wpList_nil ?_
  refine hK433 _ _ ?_
  refine hS.splitB (t := 24) rfl ?_ ?_ <;> clear hS
  · intro hg hS
    have hb : x * 16 ^ (7 - n) < 4294967296 := mul16 (w := 8) hx (by omega)
    refine condT hS rfl ?_
    refine drawn (by kernel_rfl) hR (Ex.of_pk (r := blk bb3 _ _) pkQ) ?_; clear hR; intro ww hR hR0
    refine dA 0 rfl (by kernel_rfl) (by kernel_rfl) (by kernel_rfl) (fun _ _ _ h => h) hS hR0 (Yld.fieldAddr hS rfl 1 Try.underlying34 rfl rfl info31 (by decide)) (by decide) ?_; clear hS; intro aa hS
    refine dA 2 rfl (by kernel_rfl) (by kernel_rfl) (by kernel_rfl) (fun _ _ _ h => h) hS hR0 (Yld.move hS rfl) (by decide) ?_; clear hS; intro aa hS
    refine dA 3 rfl (by kernel_rfl) (by kernel_rfl) (by kernel_rfl) (fun _ _ _ h => h) hS hR0 (Yld.move hS rfl) (by decide) ?_; clear hS; intro aa hS
    refine dA 4 rfl (by kernel_rfl) (by kernel_rfl) (by kernel_rfl) (fun _ _ _ h => h) hS hR0 ((by first | exact Yld.sub64 hS rfl rfl (by omega) | exact Yld.sub hS rfl rfl)) (by decide) ?_; clear hS; intro aa hS
    refine dA 5 rfl (by kernel_rfl) (by kernel_rfl) (by kernel_rfl) (fun _ _ _ h => h) hS hR0 ((by first | exact Yld.mul64 hS rfl rfl (by omega) | exact Yld.mul hS rfl rfl)) (by decide) ?_; clear hS; intro aa hS
    refine dA 6 rfl (by kernel_rfl) (by kernel_rfl) (by kernel_rfl) (fun _ _ _ h => h) hS hR0 (Yld.to (Yld.shlL (4 * (7 - n)) ((16 ^ (7 - n) : Nat) : Int) hS rfl rfl (by omega) (by show _ ≤ 32; omega) (pow16 _)) (congrArg (Value.int .u32) (sh32 hx (by omega)))) (by decide) ?_; clear hS; intro aa hS
    refine dOne (i := 1) (by kernel_rfl) ?_
    refine dop rfl (BA hS hR (Yld.load1 hS rfl Try.underlying31 rfl (by first | exact Rd.blk pkQ (by rfl) | exact Rd.rec pkQ (by intro _; rfl) (by omega) rfl | exact Rd.rec0 pkQ (by intro _; rfl) (by omega) rfl | exact Rd.flatJ pkQ (by intro _; rfl) (by omega) rfl | exact Rd.flat0 pkQ (by intro _; rfl) (by omega) rfl)) (by decide) ?_); clear hS; intro aa hS; refine ⟨hR0, ?_⟩
    refine dA 7 rfl (by kernel_rfl) (by kernel_rfl) (by kernel_rfl) (fun _ _ _ h => h) hS hR0 (Yld.to (Yld.xor2 hS rfl rfl) (congrArg (Value.int .u32) (fx32 hk.s (by omega)))) (by decide) ?_; clear hS; intro aa hS
    refine dA 8 rfl (by kernel_rfl) (by kernel_rfl) (by kernel_rfl) (fun _ _ _ h => h) hS hR0 (Yld.fieldAddr hS rfl 1 Try.underlying34 rfl rfl info31 (by decide)) (by decide) ?_; clear hS; intro aa hS
    refine dOne (i := 9) (by kernel_rfl) ?_
    refine dop rfl (Bstore hS hR rfl rfl (by rfl) info31 (by rfl) pkQ (by rfl) (Nat.le_of_ble_eq_true rfl) ?_); clear hR hR0; intro ww hR
    refine dnext (hR.sub exQ) ?_; intro hR0
    refine wpAnyH_done (by kernel_rfl) ?_ _; clear hR0
    refine hK432 _ _ ?_
    refine wp_seq_k ?_; intro K434 hK434
    refine wp_region_lit ?_
    refine sA hS hR (Yld.loadAgg hS rfl Try.underlying34 rfl info34 (by first | exact Rds.cons (Rd.blk pkQ (by rfl)) (Rds.cons (Rd.blk pkQ (by rfl)) (Rds.cons (Rd.blk pkQ (by rfl)) (Rds.cons (Rd.blk pkQ (by rfl)) (Rds.cons (Rd.blk pkQ (by rfl)) (Rds.nil))))) | exact Rds.rec pkQ (by intro _; rfl) (by omega) | exact Rds.flat1 pkQ (by intro _; rfl) (by omega)) (by rfl)) (by decide) ?_; clear hS; intro aa hS
    refine sB (Bstore hS hR rfl rfl (by rfl) info34 (by rfl) pkQ (by rfl) (Nat.le_of_ble_eq_true rfl) ?_); clear hR; intro ww hR
    refine wpList_nil ?_
    refine hK434 _ _ ?_
    refine wp_ret ?_
    repeat (first | with_reducible refine thenR ?_ | with_reducible refine blockR ?_ | with_reducible refine scopeR ?_)
    refine ret1 (fn := Try.f22) (e := .ret) (.inl rfl) Try.results22 hS hR ⟨_, (.agg rfl Try.underlying34 rfl info34 (Rds.cons (Rd.blk pkQ (by rfl)) (Rds.cons (Rd.blk pkQ (by rfl)) (Rds.cons (Rd.blk pkQ (by rfl)) (Rds.cons (Rd.blk pkQ (by rfl)) (Rds.cons (Rd.blk pkQ (by rfl)) (Rds.nil)))))) (by rfl)), ?_⟩
    try dsimp only [lay, List.set] at hR
    refine ⟨?_, (hR.sub exQ)⟩
    rw [withD, hxe, withK]
    first | (rw [if_pos (by omega)]; done) | (rw [if_neg (by omega), if_pos (by omega)]; done) | (rw [if_neg (by omega), if_neg (by omega), if_pos (by omega)]; done) | (rw [if_neg (by omega), if_neg (by omega), if_neg (by omega), if_pos (by omega)]; done) | (rw [if_neg (by omega), if_neg (by omega), if_neg (by omega), if_neg (by omega)]; done)
  · intro hg hS
    refine condF hS rfl ?_
    refine wp_seq_k ?_; intro K435 hK435
    refine wp_region_lit ?_
    refine sA hS hR (Yld.move hS rfl) (by decide) ?_; clear hS; intro aa hS
    refine sA hS hR (Yld.lss hS rfl rfl) (by decide) ?_; clear hS; intro aa hS
    refine sA hS hR (Yld.assign hS rfl) (by decide) ?_; clear hS; intro aa hS
    refine wpList_nil ?_
    refine hK435 _ _ ?_
    refine hS.splitB (t := 36) rfl ?_ ?_ <;> clear hS
    · intro hg hS
      have hb : x * 16 ^ (15 - n) < 4294967296 := mul16 (w := 8) hx (by omega)
      refine condT hS rfl ?_
      refine drawn (by kernel_rfl) hR (Ex.of_pk (r := blk bb3 _ _) pkQ) ?_; clear hR; intro ww hR hR0
      refine dA 0 rfl (by kernel_rfl) (by kernel_rfl) (by kernel_rfl) (fun _ _ _ h => h) hS hR0 (Yld.fieldAddr hS rfl 2 Try.underlying34 rfl rfl info31 (by decide)) (by decide) ?_; clear hS; intro aa hS
      refine dA 2 rfl (by kernel_rfl) (by kernel_rfl) (by kernel_rfl) (fun _ _ _ h => h) hS hR0 (Yld.move hS rfl) (by decide) ?_; clear hS; intro aa hS
      refine dA 3 rfl (by kernel_rfl) (by kernel_rfl) (by kernel_rfl) (fun _ _ _ h => h) hS hR0 (Yld.move hS rfl) (by decide) ?_; clear hS; intro aa hS
      refine dA 4 rfl (by kernel_rfl) (by kernel_rfl) (by kernel_rfl) (fun _ _ _ h => h) hS hR0 ((by first | exact Yld.sub64 hS rfl rfl (by omega) | exact Yld.sub hS rfl rfl)) (by decide) ?_; clear hS; intro aa hS
      refine dA 5 rfl (by kernel_rfl) (by kernel_rfl) (by kernel_rfl) (fun _ _ _ h => h) hS hR0 ((by first | exact Yld.mul64 hS rfl rfl (by omega) | exact Yld.mul hS rfl rfl)) (by decide) ?_; clear hS; intro aa hS
      refine dA 6 rfl (by kernel_rfl) (by kernel_rfl) (by kernel_rfl) (fun _ _ _ h => h) hS hR0 (Yld.to (Yld.shlL (4 * (15 - n)) ((16 ^ (15 - n) : Nat) : Int) hS rfl rfl (by omega) (by show _ ≤ 32; omega) (pow16 _)) (congrArg (Value.int .u32) (sh32 hx (by omega)))) (by decide) ?_; clear hS; intro aa hS
      refine dOne (i := 1) (by kernel_rfl) ?_
      refine dop rfl (BA hS hR (Yld.load1 hS rfl Try.underlying31 rfl (by first | exact Rd.blk pkQ (by rfl) | exact Rd.rec pkQ (by intro _; rfl) (by omega) rfl | exact Rd.rec0 pkQ (by intro _; rfl) (by omega) rfl | exact Rd.flatJ pkQ (by intro _; rfl) (by omega) rfl | exact Rd.flat0 pkQ (by intro _; rfl) (by omega) rfl)) (by decide) ?_); clear hS; intro aa hS; refine ⟨hR0, ?_⟩
      refine dA 7 rfl (by kernel_rfl) (by kernel_rfl) (by kernel_rfl) (fun _ _ _ h => h) hS hR0 (Yld.to (Yld.xor2 hS rfl rfl) (congrArg (Value.int .u32) (fx32 hk.d (by omega)))) (by decide) ?_; clear hS; intro aa hS
      refine dA 8 rfl (by kernel_rfl) (by kernel_rfl) (by kernel_rfl) (fun _ _ _ h => h) hS hR0 (Yld.fieldAddr hS rfl 2 Try.underlying34 rfl rfl info31 (by decide)) (by decide) ?_; clear hS; intro aa hS
      refine dOne (i := 9) (by kernel_rfl) ?_
      refine dop rfl (Bstore hS hR rfl rfl (by rfl) info31 (by rfl) pkQ (by rfl) (Nat.le_of_ble_eq_true rfl) ?_); clear hR hR0; intro ww hR
      refine dnext (hR.sub exQ) ?_; intro hR0
      refine wpAnyH_done (by kernel_rfl) ?_ _; clear hR0
      refine hK432 _ _ ?_
      refine wp_seq_k ?_; intro K436 hK436
      refine wp_region_lit ?_
      refine sA hS hR (Yld.loadAgg hS rfl Try.underlying34 rfl info34 (by first | exact Rds.cons (Rd.blk pkQ (by rfl)) (Rds.cons (Rd.blk pkQ (by rfl)) (Rds.cons (Rd.blk pkQ (by rfl)) (Rds.cons (Rd.blk pkQ (by rfl)) (Rds.cons (Rd.blk pkQ (by rfl)) (Rds.nil))))) | exact Rds.rec pkQ (by intro _; rfl) (by omega) | exact Rds.flat1 pkQ (by intro _; rfl) (by omega)) (by rfl)) (by decide) ?_; clear hS; intro aa hS
      refine sB (Bstore hS hR rfl rfl (by rfl) info34 (by rfl) pkQ (by rfl) (Nat.le_of_ble_eq_true rfl) ?_); clear hR; intro ww hR
      refine wpList_nil ?_
      refine hK436 _ _ ?_
      refine wp_ret ?_
      repeat (first | with_reducible refine thenR ?_ | with_reducible refine blockR ?_ | with_reducible refine scopeR ?_)
      refine ret1 (fn := Try.f22) (e := .ret) (.inl rfl) Try.results22 hS hR ⟨_, (.agg rfl Try.underlying34 rfl info34 (Rds.cons (Rd.blk pkQ (by rfl)) (Rds.cons (Rd.blk pkQ (by rfl)) (Rds.cons (Rd.blk pkQ (by rfl)) (Rds.cons (Rd.blk pkQ (by rfl)) (Rds.cons (Rd.blk pkQ (by rfl)) (Rds.nil)))))) (by rfl)), ?_⟩
      try dsimp only [lay, List.set] at hR
      refine ⟨?_, (hR.sub exQ)⟩
      rw [withD, hxe, withK]
      first | (rw [if_pos (by omega)]; done) | (rw [if_neg (by omega), if_pos (by omega)]; done) | (rw [if_neg (by omega), if_neg (by omega), if_pos (by omega)]; done) | (rw [if_neg (by omega), if_neg (by omega), if_neg (by omega), if_pos (by omega)]; done) | (rw [if_neg (by omega), if_neg (by omega), if_neg (by omega), if_neg (by omega)]; done)
    · intro hg hS
      refine condF hS rfl ?_
      refine wp_seq_k ?_; intro K437 hK437
      refine wp_region_lit ?_
      refine sA hS hR (Yld.move hS rfl) (by decide) ?_; clear hS; intro aa hS
      refine sA hS hR (Yld.lss hS rfl rfl) (by decide) ?_; clear hS; intro aa hS
      refine sA hS hR (Yld.assign hS rfl) (by decide) ?_; clear hS; intro aa hS
      refine wpList_nil ?_
      refine hK437 _ _ ?_
      refine hS.splitB (t := 48) rfl ?_ ?_ <;> clear hS
      · intro hg hS
        have hb : x * 16 ^ (17 - n) < 256 := mul16 (w := 2) hx (by omega)
        refine condT hS rfl ?_
        refine drawn (by kernel_rfl) hR (Ex.of_pk (r := blk bb3 _ _) pkQ) ?_; clear hR; intro ww hR hR0
        refine dA 0 rfl (by kernel_rfl) (by kernel_rfl) (by kernel_rfl) (fun _ _ _ h => h) hS hR0 (Yld.fieldAddr hS rfl 0 Try.underlying34 rfl rfl info5 (by decide)) (by decide) ?_; clear hS; intro aa hS
        refine dA 2 rfl (by kernel_rfl) (by kernel_rfl) (by kernel_rfl) (fun _ _ _ h => h) hS hR0 (Yld.move hS rfl) (by decide) ?_; clear hS; intro aa hS
        refine dA 3 rfl (by kernel_rfl) (by kernel_rfl) (by kernel_rfl) (fun _ _ _ h => h) hS hR0 (Yld.move hS rfl) (by decide) ?_; clear hS; intro aa hS
        refine dA 4 rfl (by kernel_rfl) (by kernel_rfl) (by kernel_rfl) (fun _ _ _ h => h) hS hR0 ((by first | exact Yld.sub64 hS rfl rfl (by omega) | exact Yld.sub hS rfl rfl)) (by decide) ?_; clear hS; intro aa hS
        refine dA 5 rfl (by kernel_rfl) (by kernel_rfl) (by kernel_rfl) (fun _ _ _ h => h) hS hR0 ((by first | exact Yld.mul64 hS rfl rfl (by omega) | exact Yld.mul hS rfl rfl)) (by decide) ?_; clear hS; intro aa hS
        refine dA 6 rfl (by kernel_rfl) (by kernel_rfl) (by kernel_rfl) (fun _ _ _ h => h) hS hR0 (Yld.to (Yld.shlL (4 * (17 - n)) ((16 ^ (17 - n) : Nat) : Int) hS rfl rfl (by omega) (by show _ ≤ 32; omega) (pow16 _)) (congrArg (Value.int .u32) (sh32 hx (by omega)))) (by decide) ?_; clear hS; intro aa hS
        refine dA 7 rfl (by kernel_rfl) (by kernel_rfl) (by kernel_rfl) (fun _ _ _ h => h) hS hR0 (Yld.to (Yld.convInt hS rfl rfl Try.underlying5) (congrArg (Value.int .u8) (IntWalk.u8_in _ (by omega)))) (by decide) ?_; clear hS; intro aa hS
        refine dOne (i := 1) (by kernel_rfl) ?_
        refine dop rfl (BA hS hR (Yld.load1 hS rfl Try.underlying5 rfl (by first | exact Rd.blk pkQ (by rfl) | exact Rd.rec pkQ (by intro _; rfl) (by omega) rfl | exact Rd.rec0 pkQ (by intro _; rfl) (by omega) rfl | exact Rd.flatJ pkQ (by intro _; rfl) (by omega) rfl | exact Rd.flat0 pkQ (by intro _; rfl) (by omega) rfl)) (by decide) ?_); clear hS; intro aa hS; refine ⟨hR0, ?_⟩
        refine dA 8 rfl (by kernel_rfl) (by kernel_rfl) (by kernel_rfl) (fun _ _ _ h => h) hS hR0 (Yld.to (Yld.xor2 hS rfl rfl) (congrArg (Value.int .u8) (fx8 hk.p (by omega)))) (by decide) ?_; clear hS; intro aa hS
        refine dA 9 rfl (by kernel_rfl) (by kernel_rfl) (by kernel_rfl) (fun _ _ _ h => h) hS hR0 (Yld.fieldAddr hS rfl 0 Try.underlying34 rfl rfl info5 (by decide)) (by decide) ?_; clear hS; intro aa hS
        refine dOne (i := 10) (by kernel_rfl) ?_
        refine dop rfl (Bstore hS hR rfl rfl (by rfl) info5 (by rfl) pkQ (by rfl) (Nat.le_of_ble_eq_true rfl) ?_); clear hR hR0; intro ww hR
        refine dnext (hR.sub exQ) ?_; intro hR0
        refine wpAnyH_done (by kernel_rfl) ?_ _; clear hR0
        refine hK432 _ _ ?_
        refine wp_seq_k ?_; intro K438 hK438
        refine wp_region_lit ?_
        refine sA hS hR (Yld.loadAgg hS rfl Try.underlying34 rfl info34 (by first | exact Rds.cons (Rd.blk pkQ (by rfl)) (Rds.cons (Rd.blk pkQ (by rfl)) (Rds.cons (Rd.blk pkQ (by rfl)) (Rds.cons (Rd.blk pkQ (by rfl)) (Rds.cons (Rd.blk pkQ (by rfl)) (Rds.nil))))) | exact Rds.rec pkQ (by intro _; rfl) (by omega) | exact Rds.flat1 pkQ (by intro _; rfl) (by omega)) (by rfl)) (by decide) ?_; clear hS; intro aa hS
        refine sB (Bstore hS hR rfl rfl (by rfl) info34 (by rfl) pkQ (by rfl) (Nat.le_of_ble_eq_true rfl) ?_); clear hR; intro ww hR
        refine wpList_nil ?_
        refine hK438 _ _ ?_
        refine wp_ret ?_
        repeat (first | with_reducible refine thenR ?_ | with_reducible refine blockR ?_ | with_reducible refine scopeR ?_)
        refine ret1 (fn := Try.f22) (e := .ret) (.inl rfl) Try.results22 hS hR ⟨_, (.agg rfl Try.underlying34 rfl info34 (Rds.cons (Rd.blk pkQ (by rfl)) (Rds.cons (Rd.blk pkQ (by rfl)) (Rds.cons (Rd.blk pkQ (by rfl)) (Rds.cons (Rd.blk pkQ (by rfl)) (Rds.cons (Rd.blk pkQ (by rfl)) (Rds.nil)))))) (by rfl)), ?_⟩
        try dsimp only [lay, List.set] at hR
        refine ⟨?_, (hR.sub exQ)⟩
        rw [withD, hxe, withK]
        first | (rw [if_pos (by omega)]; done) | (rw [if_neg (by omega), if_pos (by omega)]; done) | (rw [if_neg (by omega), if_neg (by omega), if_pos (by omega)]; done) | (rw [if_neg (by omega), if_neg (by omega), if_neg (by omega), if_pos (by omega)]; done) | (rw [if_neg (by omega), if_neg (by omega), if_neg (by omega), if_neg (by omega)]; done)
      · intro hg hS
        refine condF hS rfl ?_
        refine wp_seq_k ?_; intro K439 hK439
        refine wp_region_lit ?_
        refine sA hS hR (Yld.move hS rfl) (by decide) ?_; clear hS; intro aa hS
        refine sA hS hR (Yld.lss hS rfl rfl) (by decide) ?_; clear hS; intro aa hS
        refine sA hS hR (Yld.assign hS rfl) (by decide) ?_; clear hS; intro aa hS
        refine wpList_nil ?_
        refine hK439 _ _ ?_
        refine hS.splitB (t := 61) rfl ?_ ?_ <;> clear hS
        · intro hg hS
          have hb : x * 16 ^ (21 - n) < 65536 := mul16 (w := 4) hx (by omega)
          refine condT hS rfl ?_
          refine drawn (by kernel_rfl) hR (Ex.of_pk (r := blk bb3 _ _) pkQ) ?_; clear hR; intro ww hR hR0
          refine dA 0 rfl (by kernel_rfl) (by kernel_rfl) (by kernel_rfl) (fun _ _ _ h => h) hS hR0 (Yld.fieldAddr hS rfl 3 Try.underlying34 rfl rfl info32 (by decide)) (by decide) ?_; clear hS; intro aa hS
          refine dA 2 rfl (by kernel_rfl) (by kernel_rfl) (by kernel_rfl) (fun _ _ _ h => h) hS hR0 (Yld.move hS rfl) (by decide) ?_; clear hS; intro aa hS
          refine dA 3 rfl (by kernel_rfl) (by kernel_rfl) (by kernel_rfl) (fun _ _ _ h => h) hS hR0 (Yld.move hS rfl) (by decide) ?_; clear hS; intro aa hS
          refine dA 4 rfl (by kernel_rfl) (by kernel_rfl) (by kernel_rfl) (fun _ _ _ h => h) hS hR0 ((by first | exact Yld.sub64 hS rfl rfl (by omega) | exact Yld.sub hS rfl rfl)) (by decide) ?_; clear hS; intro aa hS
          refine dA 5 rfl (by kernel_rfl) (by kernel_rfl) (by kernel_rfl) (fun _ _ _ h => h) hS hR0 ((by first | exact Yld.mul64 hS rfl rfl (by omega) | exact Yld.mul hS rfl rfl)) (by decide) ?_; clear hS; intro aa hS
          refine dA 6 rfl (by kernel_rfl) (by kernel_rfl) (by kernel_rfl) (fun _ _ _ h => h) hS hR0 (Yld.to (Yld.shlL (4 * (21 - n)) ((16 ^ (21 - n) : Nat) : Int) hS rfl rfl (by omega) (by show _ ≤ 32; omega) (pow16 _)) (congrArg (Value.int .u32) (sh32 hx (by omega)))) (by decide) ?_; clear hS; intro aa hS
          refine dA 7 rfl (by kernel_rfl) (by kernel_rfl) (by kernel_rfl) (fun _ _ _ h => h) hS hR0 (Yld.to (Yld.convInt hS rfl rfl Try.underlying32) (congrArg (Value.int .u16) (IntWalk.u16_in _ (by omega)))) (by decide) ?_; clear hS; intro aa hS
          refine dOne (i := 1) (by kernel_rfl) ?_
          refine dop rfl (BA hS hR (Yld.load1 hS rfl Try.underlying32 rfl (by first | exact Rd.blk pkQ (by rfl) | exact Rd.rec pkQ (by intro _; rfl) (by omega) rfl | exact Rd.rec0 pkQ (by intro _; rfl) (by omega) rfl | exact Rd.flatJ pkQ (by intro _; rfl) (by omega) rfl | exact Rd.flat0 pkQ (by intro _; rfl) (by omega) rfl)) (by decide) ?_); clear hS; intro aa hS; refine ⟨hR0, ?_⟩
          refine dA 8 rfl (by kernel_rfl) (by kernel_rfl) (by kernel_rfl) (fun _ _ _ h => h) hS hR0 (Yld.to (Yld.xor2 hS rfl rfl) (congrArg (Value.int .u16) (fx16 hk.a (by omega)))) (by decide) ?_; clear hS; intro aa hS
          refine dA 9 rfl (by kernel_rfl) (by kernel_rfl) (by kernel_rfl) (fun _ _ _ h => h) hS hR0 (Yld.fieldAddr hS rfl 3 Try.underlying34 rfl rfl info32 (by decide)) (by decide) ?_; clear hS; intro aa hS
          refine dOne (i := 10) (by kernel_rfl) ?_
          refine dop rfl (Bstore hS hR rfl rfl (by rfl) info32 (by rfl) pkQ (by rfl) (Nat.le_of_ble_eq_true rfl) ?_); clear hR hR0; intro ww hR
          refine dnext (hR.sub exQ) ?_; intro hR0
          refine wpAnyH_done (by kernel_rfl) ?_ _; clear hR0
          refine hK432 _ _ ?_
          refine wp_seq_k ?_; intro K440 hK440
          refine wp_region_lit ?_
          refine sA hS hR (Yld.loadAgg hS rfl Try.underlying34 rfl info34 (by first | exact Rds.cons (Rd.blk pkQ (by rfl)) (Rds.cons (Rd.blk pkQ (by rfl)) (Rds.cons (Rd.blk pkQ (by rfl)) (Rds.cons (Rd.blk pkQ (by rfl)) (Rds.cons (Rd.blk pkQ (by rfl)) (Rds.nil))))) | exact Rds.rec pkQ (by intro _; rfl) (by omega) | exact Rds.flat1 pkQ (by intro _; rfl) (by omega)) (by rfl)) (by decide) ?_; clear hS; intro aa hS
          refine sB (Bstore hS hR rfl rfl (by rfl) info34 (by rfl) pkQ (by rfl) (Nat.le_of_ble_eq_true rfl) ?_); clear hR; intro ww hR
          refine wpList_nil ?_
          refine hK440 _ _ ?_
          refine wp_ret ?_
          repeat (first | with_reducible refine thenR ?_ | with_reducible refine blockR ?_ | with_reducible refine scopeR ?_)
          refine ret1 (fn := Try.f22) (e := .ret) (.inl rfl) Try.results22 hS hR ⟨_, (.agg rfl Try.underlying34 rfl info34 (Rds.cons (Rd.blk pkQ (by rfl)) (Rds.cons (Rd.blk pkQ (by rfl)) (Rds.cons (Rd.blk pkQ (by rfl)) (Rds.cons (Rd.blk pkQ (by rfl)) (Rds.cons (Rd.blk pkQ (by rfl)) (Rds.nil)))))) (by rfl)), ?_⟩
          try dsimp only [lay, List.set] at hR
          refine ⟨?_, (hR.sub exQ)⟩
          rw [withD, hxe, withK]
          first | (rw [if_pos (by omega)]; done) | (rw [if_neg (by omega), if_pos (by omega)]; done) | (rw [if_neg (by omega), if_neg (by omega), if_pos (by omega)]; done) | (rw [if_neg (by omega), if_neg (by omega), if_neg (by omega), if_pos (by omega)]; done) | (rw [if_neg (by omega), if_neg (by omega), if_neg (by omega), if_neg (by omega)]; done)
        · intro hg hS
          have hb : x * 16 ^ (25 - n) < 65536 := mul16 (w := 4) hx (by omega)
          refine condF hS rfl ?_
          refine drawn (by kernel_rfl) hR (Ex.of_pk (r := blk bb3 _ _) pkQ) ?_; clear hR; intro ww hR hR0
          refine dA 0 rfl (by kernel_rfl) (by kernel_rfl) (by kernel_rfl) (fun _ _ _ h => h) hS hR0 (Yld.fieldAddr hS rfl 4 Try.underlying34 rfl rfl info32 (by decide)) (by decide) ?_; clear hS; intro aa hS
          refine dA 2 rfl (by kernel_rfl) (by kernel_rfl) (by kernel_rfl) (fun _ _ _ h => h) hS hR0 (Yld.move hS rfl) (by decide) ?_; clear hS; intro aa hS
          refine dA 3 rfl (by kernel_rfl) (by kernel_rfl) (by kernel_rfl) (fun _ _ _ h => h) hS hR0 (Yld.move hS rfl) (by decide) ?_; clear hS; intro aa hS
          refine dA 4 rfl (by kernel_rfl) (by kernel_rfl) (by kernel_rfl) (fun _ _ _ h => h) hS hR0 ((by first | exact Yld.sub64 hS rfl rfl (by omega) | exact Yld.sub hS rfl rfl)) (by decide) ?_; clear hS; intro aa hS
          refine dA 5 rfl (by kernel_rfl) (by kernel_rfl) (by kernel_rfl) (fun _ _ _ h => h) hS hR0 ((by first | exact Yld.mul64 hS rfl rfl (by omega) | exact Yld.mul hS rfl rfl)) (by decide) ?_; clear hS; intro aa hS
          refine dA 6 rfl (by kernel_rfl) (by kernel_rfl) (by kernel_rfl) (fun _ _ _ h => h) hS hR0 (Yld.to (Yld.shlL (4 * (25 - n)) ((16 ^ (25 - n) : Nat) : Int) hS rfl rfl (by omega) (by show _ ≤ 32; omega) (pow16 _)) (congrArg (Value.int .u32) (sh32 hx (by omega)))) (by decide) ?_; clear hS; intro aa hS
          refine dA 7 rfl (by kernel_rfl) (by kernel_rfl) (by kernel_rfl) (fun _ _ _ h => h) hS hR0 (Yld.to (Yld.convInt hS rfl rfl Try.underlying32) (congrArg (Value.int .u16) (IntWalk.u16_in _ (by omega)))) (by decide) ?_; clear hS; intro aa hS
          refine dOne (i := 1) (by kernel_rfl) ?_
          refine dop rfl (BA hS hR (Yld.load1 hS rfl Try.underlying32 rfl (by first | exact Rd.blk pkQ (by rfl) | exact Rd.rec pkQ (by intro _; rfl) (by omega) rfl | exact Rd.rec0 pkQ (by intro _; rfl) (by omega) rfl | exact Rd.flatJ pkQ (by intro _; rfl) (by omega) rfl | exact Rd.flat0 pkQ (by intro _; rfl) (by omega) rfl)) (by decide) ?_); clear hS; intro aa hS; refine ⟨hR0, ?_⟩
          refine dA 8 rfl (by kernel_rfl) (by kernel_rfl) (by kernel_rfl) (fun _ _ _ h => h) hS hR0 (Yld.to (Yld.xor2 hS rfl rfl) (congrArg (Value.int .u16) (fx16 hk.b (by omega)))) (by decide) ?_; clear hS; intro aa hS
          refine dA 9 rfl (by kernel_rfl) (by kernel_rfl) (by kernel_rfl) (fun _ _ _ h => h) hS hR0 (Yld.fieldAddr hS rfl 4 Try.underlying34 rfl rfl info32 (by decide)) (by decide) ?_; clear hS; intro aa hS
          refine dOne (i := 10) (by kernel_rfl) ?_
          refine dop rfl (Bstore hS hR rfl rfl (by rfl) info32 (by rfl) pkQ (by rfl) (Nat.le_of_ble_eq_true rfl) ?_); clear hR hR0; intro ww hR
          refine dnext (hR.sub exQ) ?_; intro hR0
          refine wpAnyH_done (by kernel_rfl) ?_ _; clear hR0
          refine hK432 _ _ ?_
          refine wp_seq_k ?_; intro K441 hK441
          refine wp_region_lit ?_
          refine sA hS hR (Yld.loadAgg hS rfl Try.underlying34 rfl info34 (by first | exact Rds.cons (Rd.blk pkQ (by rfl)) (Rds.cons (Rd.blk pkQ (by rfl)) (Rds.cons (Rd.blk pkQ (by rfl)) (Rds.cons (Rd.blk pkQ (by rfl)) (Rds.cons (Rd.blk pkQ (by rfl)) (Rds.nil))))) | exact Rds.rec pkQ (by intro _; rfl) (by omega) | exact Rds.flat1 pkQ (by intro _; rfl) (by omega)) (by rfl)) (by decide) ?_; clear hS; intro aa hS
          refine sB (Bstore hS hR rfl rfl (by rfl) info34 (by rfl) pkQ (by rfl) (Nat.le_of_ble_eq_true rfl) ?_); clear hR; intro ww hR
          refine wpList_nil ?_
          refine hK441 _ _ ?_
          refine wp_ret ?_
          repeat (first | with_reducible refine thenR ?_ | with_reducible refine blockR ?_ | with_reducible refine scopeR ?_)
          refine ret1 (fn := Try.f22) (e := .ret) (.inl rfl) Try.results22 hS hR ⟨_, (.agg rfl Try.underlying34 rfl info34 (Rds.cons (Rd.blk pkQ (by rfl)) (Rds.cons (Rd.blk pkQ (by rfl)) (Rds.cons (Rd.blk pkQ (by rfl)) (Rds.cons (Rd.blk pkQ (by rfl)) (Rds.cons (Rd.blk pkQ (by rfl)) (Rds.nil)))))) (by rfl)), ?_⟩
          try dsimp only [lay, List.set] at hR
          refine ⟨?_, (hR.sub exQ)⟩
          rw [withD, hxe, withK]
          first | (rw [if_pos (by omega)]; done) | (rw [if_neg (by omega), if_pos (by omega)]; done) | (rw [if_neg (by omega), if_neg (by omega), if_pos (by omega)]; done) | (rw [if_neg (by omega), if_neg (by omega), if_neg (by omega), if_pos (by omega)]; done) | (rw [if_neg (by omega), if_neg (by omega), if_neg (by omega), if_neg (by omega)]; done)
end Go.Proofs.Ytmcfmhiadlkglaa.Sx
