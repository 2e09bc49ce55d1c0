/-
  My plain texts put together into one module.
-/
import Derived.Test.YthjfclljjcpikaaPd
/-
  The keys there are, in the order of their digits, are told by which keys there are. Nothing of a program stands here.
-/
namespace Go.Proofs.Ythjfclljjcpikaa.Sx
open Go
set_option linter.unusedVariables false
set_option linter.unusedSimpArgs false
theorem sorted_uniq {α : Type} {R : α → α → Prop} (as : ∀ {a b}, R a b → ¬ R b a) : ∀ {l1 l2 : List α}, l1.Pairwise R → l2.Pairwise R → (∀ x, x ∈ l1 ↔ x ∈ l2) → l1 = l2
  | [], [], _, _, _ => rfl
  | [], b :: t2, _, _, h => by have := (h b).2 List.mem_cons_self; simp at this
  | a :: t1, [], _, _, h => by have := (h a).1 List.mem_cons_self; simp at this
  | a :: t1, b :: t2, h1, h2, h => by
    rw [List.pairwise_cons] at h1 h2
    have e : a = b := by
      rcases List.mem_cons.1 ((h a).1 List.mem_cons_self) with e | ha
      · exact e
      · rcases List.mem_cons.1 ((h b).2 List.mem_cons_self) with e | hb
        · exact e.symm
        · exact absurd (h1.1 b hb) (as (h2.1 a ha))
    subst e
    have irr : ¬ R a a := fun r => as r r
    have ht : t1 = t2 := sorted_uniq as h1.2 h2.2 fun x => by
      constructor
      · intro hx
        rcases List.mem_cons.1 ((h x).1 (List.mem_cons_of_mem _ hx)) with e | hx2
        · subst e; exact absurd (h1.1 x hx) irr
        · exact hx2
      · intro hx
        rcases List.mem_cons.1 ((h x).2 (List.mem_cons_of_mem _ hx)) with e | hx2
        · subst e; exact absurd (h2.1 x hx) irr
        · exact hx2
    rw [ht]
theorem ltD.asymm {a b : List Int} (h : ltD a b) : ¬ ltD b a := by
  obtain ⟨i, h1, x, y, h2, h3, h4⟩ := h
  rintro ⟨j, k1, u, v, k2, k3, k4⟩
  rcases Nat.lt_trichotomy i j with h | h | h
  · have h5 : b[i]? = a[i]? := by
      have := congrArg (fun l => l[i]?) k1
      simpa [List.getElem?_take, h] using this
    rw [h2, h3] at h5
    have := Option.some.inj h5
    omega
  · subst h
    rw [h3] at k2; rw [h2] at k3
    have := Option.some.inj k2
    have := Option.some.inj k3
    omega
  · have h5 : a[j]? = b[j]? := by
      have := congrArg (fun l => l[j]?) h1
      simpa [List.getElem?_take, h] using this
    rw [k2, k3] at h5
    have := Option.some.inj h5
    omega
/-- One key comes before another one. -/
def ltK (a b : Ky) : Prop := ltD (dl a) (dl b)
theorem ltK.asymm {a b : Ky} (h : ltK a b) : ¬ ltK b a := ltD.asymm h
theorem undK_sorted {K : List (Ky × Int)} {k : Ky} {n : Int} (hK : ∀ e ∈ K, WfK e.1) : (undK' K k n).Pairwise ltK := by
  unfold undK'
  split
  · rename_i hc
    have hpl : ((dl k).take n.toNat).length = n.toNat := by rw [List.length_take, dl_len]; omega
    rw [List.pairwise_map]
    refine undL_sorted.imp_of_mem fun {a b} ha hb h => ?_
    obtain ⟨e1, _, h1, h2⟩ := undL_key hK (by rw [hpl]; omega) hc.2.2 ha
    obtain ⟨e2, _, h3, h4⟩ := undL_key hK (by rw [hpl]; omega) hc.2.2 hb
    unfold ltK
    rw [h2, h4, h1, h3]; exact h
  · exact List.Pairwise.nil
theorem undK_uniq {K : List (Ky × Int)} {k : Ky} {n : Int} (hK : ∀ e ∈ K, WfK e.1) {l : List Ky} (hs : l.Pairwise ltK) (hm : ∀ y, y ∈ l ↔ y ∈ undK' K k n) : l = undK' K k n := sorted_uniq ltK.asymm hs (undK_sorted hK) hm
theorem undK_mem2 {K : List (Ky × Int)} {k y : Ky} {n : Int} (hK : ∀ e ∈ K, WfK e.1) : y ∈ undK' K k n ↔ (0 ≤ n ∧ n ≤ 26) ∧ has K y ∧ (dl y).take n.toNat = (dl k).take n.toNat := by
  constructor
  · intro h
    exact (undK_mem hK (und_has hK h).2).1 h
  · intro h
    obtain ⟨e, he, h9⟩ := h.2.1
    exact (undK_mem hK (h9 ▸ hK e he)).2 h
theorem undK_same {K M : List (Ky × Int)} {k : Ky} {n : Int} (hK : ∀ e ∈ K, WfK e.1) (hM : ∀ e ∈ M, WfK e.1) (h : ∀ y, has K y ↔ has M y) : undK' K k n = undK' M k n :=
  undK_uniq hM (undK_sorted hK) fun y => by rw [undK_mem2 hK, undK_mem2 hM, h y]
theorem nodes_sub {K M : List (Ky × Int)} (h : ∀ y, has K y → has M y) : nodesOf K ≤ nodesOf M := by
  unfold nodesOf
  refine nodup_le2 (nodup_ddp _) fun x hx => mem_ddp.2 ?_
  have h1 := pres_iff.1 (mem_ddp.1 hx)
  refine pres_iff.2 ?_
  rcases h1 with h1 | ⟨k, hk, h1⟩
  · exact .inl h1
  · obtain ⟨e, he, h2⟩ := List.mem_map.1 hk
    obtain ⟨e', he', h3⟩ := h k ⟨e, he, h2⟩
    exact .inr ⟨k, List.mem_map.2 ⟨e', he', h3⟩, h1⟩
theorem nodes_same {K M : List (Ky × Int)} (h : ∀ y, has K y ↔ has M y) : nodesOf K = nodesOf M := Nat.le_antisymm (nodes_sub fun y => (h y).1) (nodes_sub fun y => (h y).2)
/-- The first digit in which they differ is less. -/
theorem ltK.first {a b : Ky} (h : ltK a b) {d : Nat} (hd : d ≤ 26) (he : ∀ j, j < d → dig a j = dig b j) : d < 26 ∧ (dig a d ≠ dig b d → dig a d < dig b d) := by
  obtain ⟨i, h1, x, y, h2, h3, h4⟩ := h
  have hi : i < 26 := by
    rcases Nat.lt_or_ge i 26 with h | h
    · exact h
    · rw [List.getElem?_eq_none (by rw [dl_len]; exact h)] at h2; exact absurd h2 (by simp)
  rw [dl_get hi] at h2 h3
  have e2 := Option.some.inj h2
  have e3 := Option.some.inj h3
  have hdi : d ≤ i := by
    rcases Nat.lt_or_ge i d with h | h
    · have := he i h; omega
    · exact h
  refine ⟨by omega, fun hne => ?_⟩
  rcases Nat.lt_or_ge d i with h | h
  · exfalso
    have h5 := congrArg (fun l => l[d]?) h1
    simp only [List.getElem?_take, h, if_true] at h5
    rw [dl_get (by omega), dl_get (by omega)] at h5
    exact hne (Option.some.inj h5)
  · have : d = i := by omega
    subst this; omega
/-- Every index is reached from the other end on, turned. -/
theorem turn_onto {N m t : Nat} (hm : m < N) : ∃ j, j < N ∧ (N - 1 - j + t) % N = m := by
  refine ⟨(N - 1 + t - m) % N, Nat.mod_lt _ (by omega), ?_⟩
  have h1 := Nat.div_add_mod (N - 1 + t - m) N
  have h2 := Nat.mod_lt (N - 1 + t - m) (show 0 < N by omega)
  generalize (N - 1 + t - m) % N = j at h1 h2
  generalize (N - 1 + t - m) / N = q at h1
  have h3 : N - 1 - j + t = m + N * q := by omega
  rw [h3, Nat.add_mul_mod_self_left, Nat.mod_eq_of_lt hm]
theorem putK_has2 {K : List (Ky × Int)} {k : Ky} {x most : Int} {i : Nat} (h : KI K i) (hl : (i : Int) < most) (y : Ky) : has (putK K k x most) y ↔ has K y ∨ y = k :=
  putK_mem (by have := h.le; omega) y
/-- What was put, forwards; and in any order. -/
def AllPut (ks : List Ky) (f : Nat → Nat) (K : List (Ky × Int)) (i : Nat) : Prop := KI K i ∧ ∀ y, has K y ↔ ∃ j, j < i ∧ ks[f j]? = some y
theorem AllPut.nil {ks : List Ky} {f : Nat → Nat} : AllPut ks f [] 0 := ⟨KI.nil, fun y => ⟨fun ⟨e, h, _⟩ => by simp at h, fun ⟨j, h, _⟩ => by omega⟩⟩
theorem AllPut.put {ks : List Ky} {f : Nat → Nat} {K : List (Ky × Int)} {i : Nat} {k : Ky} {x most : Int} (h : AllPut ks f K i) (hk : WfK k) (hf : ks[f i]? = some k) (hl : (i : Int) < most) : AllPut ks f (putK K k x most) (i + 1) := by
  refine ⟨h.1.put hk, fun y => ?_⟩
  rw [putK_has2 h.1 hl, h.2 y]
  constructor
  · rintro (⟨j, hj, h1⟩ | rfl)
    · exact ⟨j, by omega, h1⟩
    · exact ⟨i, by omega, hf⟩
  · rintro ⟨j, hj, h1⟩
    by_cases e : j = i
    · subst e; rw [hf] at h1; exact .inr (Option.some.inj h1).symm
    · exact .inl ⟨j, by omega, h1⟩
theorem AllPut.same {ks : List Ky} {t : Nat} {K M : List (Ky × Int)} (h : AllPut ks (fun j => j) K ks.length) (h' : AllPut ks (fun j => (ks.length - 1 - j + t) % ks.length) M ks.length) (y : Ky) : has K y ↔ has M y := by
  rw [h.2 y, h'.2 y]
  constructor
  · rintro ⟨j, hj, h1⟩
    obtain ⟨i, hi, h2⟩ := turn_onto (t := t) hj
    exact ⟨i, hi, (congrArg (fun m => ks[m]?) h2).trans h1⟩
  · rintro ⟨j, hj, h1⟩
    exact ⟨_, Nat.mod_lt _ (by omega), h1⟩
end Go.Proofs.Ythjfclljjcpikaa.Sx

/-
  The keys under a beginning are as many as are counted, and those under its 16 continuations together; keys with another digit. Nothing of a program stands here.
-/
namespace Go.Proofs.Ythjfclljjcpikaa.Sx
open Go
set_option linter.unusedVariables false
set_option linter.unusedSimpArgs false
theorem und_count {K : List (Ky × Int)} {k : Ky} {n : Int} (hK : ∀ e ∈ K, WfK e.1) (hnd : (K.map Prod.fst).Nodup) (hn : 0 ≤ n ∧ n ≤ 26) : (undK' K k n).length = cK K ((dl k).take n.toNat) := by
  have hpl : ((dl k).take n.toNat).length = n.toNat := by rw [List.length_take, dl_len]; omega
  have e : cK K ((dl k).take n.toNat) = ((K.filter fun e => ((dl k).take n.toNat).isPrefixOf (dl e.1)).map Prod.fst).length := by
    rw [List.length_map, ← List.countP_eq_length_filter]; rfl
  have hmem : ∀ y, y ∈ undK' K k n ↔ y ∈ (K.filter fun e => ((dl k).take n.toNat).isPrefixOf (dl e.1)).map Prod.fst := fun y => by
    rw [undK_mem2 hK, List.mem_map]
    constructor
    · rintro ⟨_, ⟨e, he, rfl⟩, h⟩
      exact ⟨e, List.mem_filter.2 ⟨he, isPrefix_iff.2 (by rw [hpl]; exact h.symm)⟩, rfl⟩
    · rintro ⟨e, he, rfl⟩
      obtain ⟨h1, h2⟩ := List.mem_filter.1 he
      have h3 := isPrefix_iff.1 h2
      rw [hpl] at h3
      exact ⟨hn, ⟨e, h1, rfl⟩, h3.symm⟩
  rw [e]
  exact Nat.le_antisymm (nodup_le2 (undK_nodup hK) fun y h => (hmem y).1 h) (nodup_le2 (hnd.sublist (List.filter_sublist.map _)) fun y h => (hmem y).2 h)
def partsTo (f : Nat → List Ky) (x : Nat) : List Ky := (List.range x).flatMap f
theorem partsTo_zero (f : Nat → List Ky) : partsTo f 0 = [] := rfl
theorem partsTo_succ (f : Nat → List Ky) (x : Nat) : partsTo f (x + 1) = partsTo f x ++ f x := by unfold partsTo; rw [List.range_succ, List.flatMap_append]; simp
theorem flatMap_congr' {α β : Type} {f g : α → List β} : ∀ {l : List α}, (∀ x ∈ l, f x = g x) → l.flatMap f = l.flatMap g
  | [], _ => rfl
  | a :: t, h => by rw [List.flatMap_cons, List.flatMap_cons, h a List.mem_cons_self, flatMap_congr' fun x hx => h x (List.mem_cons_of_mem _ hx)]
theorem und_parts {K : List (Ky × Int)} {k : Ky} {n : Nat} (hn : n < 26) (x : Nat → Ky) (hx : ∀ d, d < 16 → (dl (x d)).take (n + 1) = (dl k).take n ++ [(d : Int)]) :
    partsTo (fun d => undK' K (x d) ((n : Int) + 1)) 16 = undK' K k (n : Int) := by
  have e1 : ∀ d, d < 16 → undK' K (x d) ((n : Int) + 1) = if 0 < cK K ((dl k).take n ++ [(d : Int)]) then (undL (cK K) (25 - n) ((dl k).take n ++ [(d : Int)])).map keyD else [] := fun d hd => by
    unfold undK'
    rw [show ((n : Int) + 1).toNat = n + 1 from by omega, hx d hd, show 26 - (n + 1) = 25 - n from by omega]
    by_cases hc : 0 < cK K ((dl k).take n ++ [(d : Int)])
    · rw [if_pos hc, if_pos ⟨by omega, by omega, hc⟩]
    · rw [if_neg hc, if_neg (fun h => hc h.2.2)]
  unfold partsTo
  rw [flatMap_congr' (fun d hd => e1 d (List.mem_range.1 hd))]
  unfold undK'
  rw [Int.toNat_natCast]
  by_cases hc : 0 < cK K ((dl k).take n)
  · rw [if_pos ⟨by omega, by omega, hc⟩, show 26 - n = 25 - n + 1 from by omega]
    show _ = ((List.range 16).flatMap _).map keyD
    rw [List.map_flatMap]
    refine flatMap_congr' fun d _ => ?_
    by_cases h : 0 < cK K ((dl k).take n ++ [(d : Int)])
    · simp only [if_pos h]
    · simp only [if_neg h, List.map_nil]
  · rw [if_neg (fun h => hc h.2.2), List.flatMap_eq_nil_iff]
    intro d _
    have := cK_mono K ((dl k).take n) (d : Int)
    rw [if_neg (by omega)]
/-! ### those that begin alike -/
theorem take_alike {a b : Ky} : ∀ {n : Nat}, n ≤ 26 → ((dl a).take n = (dl b).take n ↔ ∀ j, j < n → dig a j = dig b j)
  | 0, _ => by simp
  | n + 1, h => by
    rw [dl_take (by omega), dl_take (by omega)]
    constructor
    · intro e j hj
      obtain ⟨e1, e2⟩ := snoc_inj e
      by_cases hjn : j = n
      · subst hjn; exact e2
      · exact (take_alike (by omega)).1 e1 j (by omega)
    · intro e
      rw [(take_alike (n := n) (by omega)).2 fun j hj => e j (by omega), e n (by omega)]
def alikeB (k : Ky) (n : Nat) (y : Ky) : Bool := decide (∀ j, j < n → dig y j = dig k j)
theorem alikeB_succ {k y : Ky} {n : Nat} : alikeB k (n + 1) y = (alikeB k n y && decide (dig y n = dig k n)) := by
  unfold alikeB
  rw [Bool.eq_iff_iff, Bool.and_eq_true, decide_eq_true_iff, decide_eq_true_iff, decide_eq_true_iff]
  constructor
  · intro h; exact ⟨fun j hj => h j (by omega), h n (by omega)⟩
  · rintro ⟨h1, h2⟩ j hj
    by_cases e : j = n
    · subst e; exact h2
    · exact h1 j (by omega)
theorem und_filter {K : List (Ky × Int)} {k : Ky} {n : Nat} (hK : ∀ e ∈ K, WfK e.1) (hn : n ≤ 26) : (undK' K (0, 0, 0, 0, 0) 0).filter (alikeB k n) = undK' K k (n : Int) := by
  refine undK_uniq hK ((undK_sorted hK).filter _) fun y => ?_
  rw [List.mem_filter, undK_mem2 hK, undK_mem2 hK, Int.toNat_natCast, take_alike hn, alikeB, decide_eq_true_iff]
  constructor
  · rintro ⟨⟨_, h1, _⟩, h2⟩; exact ⟨⟨by omega, by omega⟩, h1, h2⟩
  · rintro ⟨_, h1, h2⟩; exact ⟨⟨⟨by omega, by omega⟩, h1, rfl⟩, h2⟩
def cntTo (p : Ky → Bool) (ks : List Ky) (i : Nat) : Nat := ((ks.take i).filter p).length
theorem cntTo_at {p : Ky → Bool} {ks : List Ky} {i : Nat} (hi : i < ks.length) (hp : p ks[i] = true) : (ks.filter p)[cntTo p ks i]? = some ks[i] := by
  have h1 : ks.filter p = (ks.take i).filter p ++ (ks[i] :: (ks.drop (i + 1)).filter p) := by
    conv => lhs; rw [← List.take_append_drop i ks, List.filter_append, List.drop_eq_getElem_cons hi]
    rw [List.filter_cons, if_pos hp]
  rw [h1, cntTo, List.getElem?_append_right (Nat.le_refl _)]
  simp
theorem cntTo_yes {p : Ky → Bool} {ks : List Ky} {i : Nat} (hi : i < ks.length) (hp : p ks[i] = true) : cntTo p ks (i + 1) = cntTo p ks i + 1 := by
  unfold cntTo
  rw [List.take_succ_eq_append_getElem hi, List.filter_append, List.length_append, List.filter_cons, if_pos hp]; rfl
theorem cntTo_no {p : Ky → Bool} {ks : List Ky} {i : Nat} (hi : i < ks.length) (hp : ¬ p ks[i] = true) : cntTo p ks (i + 1) = cntTo p ks i := by
  unfold cntTo
  rw [List.take_succ_eq_append_getElem hi, List.filter_append, List.length_append, List.filter_cons, if_neg hp]; simp
theorem cntTo_all {p : Ky → Bool} {ks : List Ky} : cntTo p ks ks.length = (ks.filter p).length := by rw [cntTo, List.take_length]
end Go.Proofs.Ythjfclljjcpikaa.Sx

/-
  Keys with another digit. Nothing of a program stands here.
-/
namespace Go.Proofs.Ythjfclljjcpikaa.Sx
open Go
set_option linter.unusedVariables false
set_option linter.unusedSimpArgs false
theorem xor_dig (a b t : Nat) : (a ^^^ b) / 16 ^ t % 16 = (a / 16 ^ t % 16) ^^^ (b / 16 ^ t % 16) := by
  have e : (16 : Nat) ^ t = 2 ^ (4 * t) := by rw [Nat.pow_mul]
  rw [e, ← Nat.shiftRight_eq_div_pow, ← Nat.shiftRight_eq_div_pow, ← Nat.shiftRight_eq_div_pow, Nat.shiftRight_xor_distrib, show (16 : Nat) = 2 ^ 4 from rfl, Nat.xor_mod_two_pow]
theorem xor_high (a x m t : Nat) (hx : x < 16) (h : m < t) : (a ^^^ x * 16 ^ m) / 16 ^ t % 16 = a / 16 ^ t % 16 := by
  have h1 : x * 16 ^ m < 16 ^ t := by
    have h2 : (16 : Nat) ^ (m + 1) ≤ 16 ^ t := Nat.pow_le_pow_right (by omega) h
    have h3 : x * 16 ^ m < 16 * 16 ^ m := Nat.mul_lt_mul_of_pos_right hx (Nat.pow_pos (by omega))
    rw [Nat.pow_succ] at h2; omega
  rw [xor_dig, Nat.div_eq_of_lt h1, Nat.zero_mod, Nat.xor_zero]
theorem xor_here (a x m : Nat) (hx : x < 16) : (a ^^^ x * 16 ^ m) / 16 ^ m % 16 = (a / 16 ^ m % 16) ^^^ x := by
  rw [xor_dig, Nat.mul_div_cancel _ (Nat.pow_pos (by omega)), Nat.mod_eq_of_lt hx]
theorem xor_lt {a b n : Nat} (ha : a < 2 ^ n) (hb : b < 2 ^ n) : a ^^^ b < 2 ^ n := Nat.xor_lt_two_pow ha hb
theorem xor8 {a b : Nat} (ha : a < 256) (hb : b < 256) : bitsOf .xor .u8 (a : Int) (b : Int) = ((a ^^^ b : Nat) : Int) := by
  have h := xor_lt (n := 8) ha hb
  show IntKind.u8.wrap _ = _
  rw [IntKind.wrap_u8, BitVec.toNat_xor, BitVec.toNat_ofInt, BitVec.toNat_ofInt]
  show ((((a : Int) % 256).toNat ^^^ ((b : Int) % 256).toNat : Nat) : Int) % 256 = _
  rw [show ((a : Int) % 256).toNat = a from by omega, show ((b : Int) % 256).toNat = b from by omega]
  omega
theorem xor16 {a b : Nat} (ha : a < 65536) (hb : b < 65536) : bitsOf .xor .u16 (a : Int) (b : Int) = ((a ^^^ b : Nat) : Int) := by
  have h := xor_lt (n := 16) ha hb
  show IntKind.u16.wrap _ = _
  rw [IntKind.wrap_u16, BitVec.toNat_xor, BitVec.toNat_ofInt, BitVec.toNat_ofInt]
  show ((((a : Int) % 65536).toNat ^^^ ((b : Int) % 65536).toNat : Nat) : Int) % 65536 = _
  rw [show ((a : Int) % 65536).toNat = a from by omega, show ((b : Int) % 65536).toNat = b from by omega]
  omega
theorem xor32 {a b : Nat} (ha : a < 4294967296) (hb : b < 4294967296) : bitsOf .xor .u32 (a : Int) (b : Int) = ((a ^^^ b : Nat) : Int) := by
  have h := xor_lt (n := 32) ha hb
  show IntKind.u32.wrap _ = _
  rw [IntKind.wrap_u32, BitVec.toNat_xor, BitVec.toNat_ofInt, BitVec.toNat_ofInt]
  show ((((a : Int) % 4294967296).toNat ^^^ ((b : Int) % 4294967296).toNat : Nat) : Int) % 4294967296 = _
  rw [show ((a : Int) % 4294967296).toNat = a from by omega, show ((b : Int) % 4294967296).toNat = b from by omega]
  omega
/-- The key with the n-th digit changed by x. -/
def withK (k : Ky) (n x : Nat) : Ky :=
  if n < 8 then (k.1, ((k.2.1.toNat ^^^ x * 16 ^ (7 - n) : Nat) : Int), k.2.2)
  else if n < 16 then (k.1, k.2.1, ((k.2.2.1.toNat ^^^ x * 16 ^ (15 - n) : Nat) : Int), k.2.2.2)
  else if n < 18 then (((k.1.toNat ^^^ x * 16 ^ (17 - n) : Nat) : Int), k.2)
  else if n < 22 then (k.1, k.2.1, k.2.2.1, ((k.2.2.2.1.toNat ^^^ x * 16 ^ (21 - n) : Nat) : Int), k.2.2.2.2)
  else (k.1, k.2.1, k.2.2.1, k.2.2.2.1, ((k.2.2.2.2.toNat ^^^ x * 16 ^ (25 - n) : Nat) : Int))
section
variable {k : Ky}
theorem dig_s (h : WfK k) {i : Nat} (hi : i < 8) : dig k i = ((k.2.1.toNat / 16 ^ (7 - i) % 16 : Nat) : Int) := by
  have q := h.s
  have hc : i = 0 ∨ i = 1 ∨ i = 2 ∨ i = 3 ∨ i = 4 ∨ i = 5 ∨ i = 6 ∨ i = 7 := by omega
  rcases hc with rfl | rfl | rfl | rfl | rfl | rfl | rfl | rfl <;> simp [dig, byts] <;> omega
theorem dig_d (h : WfK k) {i : Nat} (h8 : 8 ≤ i) (hi : i < 16) : dig k i = ((k.2.2.1.toNat / 16 ^ (15 - i) % 16 : Nat) : Int) := by
  have q := h.d
  have hc : i = 8 ∨ i = 9 ∨ i = 10 ∨ i = 11 ∨ i = 12 ∨ i = 13 ∨ i = 14 ∨ i = 15 := by omega
  rcases hc with rfl | rfl | rfl | rfl | rfl | rfl | rfl | rfl <;> simp [dig, byts] <;> omega
theorem dig_p (h : WfK k) {i : Nat} (h8 : 16 ≤ i) (hi : i < 18) : dig k i = ((k.1.toNat / 16 ^ (17 - i) % 16 : Nat) : Int) := by
  have q := h.p
  have hc : i = 16 ∨ i = 17 := by omega
  rcases hc with rfl | rfl <;> simp [dig, byts] <;> omega
theorem dig_a (h : WfK k) {i : Nat} (h8 : 18 ≤ i) (hi : i < 22) : dig k i = ((k.2.2.2.1.toNat / 16 ^ (21 - i) % 16 : Nat) : Int) := by
  have q := h.a
  have hc : i = 18 ∨ i = 19 ∨ i = 20 ∨ i = 21 := by omega
  rcases hc with rfl | rfl | rfl | rfl <;> simp [dig, byts] <;> omega
theorem dig_b (h : WfK k) {i : Nat} (h8 : 22 ≤ i) (hi : i < 26) : dig k i = ((k.2.2.2.2.toNat / 16 ^ (25 - i) % 16 : Nat) : Int) := by
  have q := h.b
  have hc : i = 22 ∨ i = 23 ∨ i = 24 ∨ i = 25 := by omega
  rcases hc with rfl | rfl | rfl | rfl <;> simp [dig, byts] <;> omega
theorem mul16 {x m w : Nat} (hx : x < 16) (hm : m < w) : x * 16 ^ m < 16 ^ w := by
  have h2 : (16 : Nat) ^ (m + 1) ≤ 16 ^ w := Nat.pow_le_pow_right (by omega) hm
  have h3 : x * 16 ^ m < 16 * 16 ^ m := Nat.mul_lt_mul_of_pos_right hx (Nat.pow_pos (by omega))
  rw [Nat.pow_succ] at h2; omega
theorem withK_wf (h : WfK k) {n x : Nat} (hx : x < 16) : WfK (withK k n x) := by
  have q1 := h.p; have q2 := h.s; have q3 := h.d; have q4 := h.a; have q5 := h.b
  unfold withK
  split
  · have := xor_lt (n := 32) (a := k.2.1.toNat) (b := x * 16 ^ (7 - n)) (by omega) (mul16 (w := 8) hx (by omega))
    exact ⟨q1, by dsimp only; omega, q3, q4, q5⟩
  split
  · have := xor_lt (n := 32) (a := k.2.2.1.toNat) (b := x * 16 ^ (15 - n)) (by omega) (mul16 (w := 8) hx (by omega))
    exact ⟨q1, q2, by dsimp only; omega, q4, q5⟩
  split
  · have := xor_lt (n := 8) (a := k.1.toNat) (b := x * 16 ^ (17 - n)) (by omega) (mul16 (w := 2) hx (by omega))
    exact ⟨by dsimp only; omega, q2, q3, q4, q5⟩
  split
  · have := xor_lt (n := 16) (a := k.2.2.2.1.toNat) (b := x * 16 ^ (21 - n)) (by omega) (mul16 (w := 4) hx (by omega))
    exact ⟨q1, q2, q3, by dsimp only; omega, q5⟩
  · have := xor_lt (n := 16) (a := k.2.2.2.2.toNat) (b := x * 16 ^ (25 - n)) (by omega) (mul16 (w := 4) hx (by omega))
    exact ⟨q1, q2, q3, q4, by dsimp only; omega⟩
theorem withK_dig (h : WfK k) {n x : Nat} (hx : x < 16) (hn : n < 26) : (∀ j, j < n → dig (withK k n x) j = dig k j) ∧ dig (withK k n x) n = (((dig k n).toNat ^^^ x : Nat) : Int) := by
  have hw := withK_wf h (n := n) hx
  unfold withK at hw ⊢
  split at hw
  · rename_i h1
    rw [if_pos h1]
    refine ⟨fun j hj => ?_, ?_⟩
    · rw [dig_s hw (by omega), dig_s h (by omega)]; dsimp only; rw [Int.toNat_natCast, xor_high _ _ _ _ hx (by omega)]
    · rw [dig_s hw (by omega), dig_s h (by omega)]; dsimp only; rw [Int.toNat_natCast, xor_here _ _ _ hx, Int.toNat_natCast]
  split at hw
  · rename_i h1 h2
    rw [if_neg h1, if_pos h2]
    refine ⟨fun j hj => ?_, ?_⟩
    · by_cases hj1 : j < 8
      · rw [dig_s hw hj1, dig_s h hj1]
      · rw [dig_d hw (by omega) (by omega), dig_d h (by omega) (by omega)]; dsimp only; rw [Int.toNat_natCast, xor_high _ _ _ _ hx (by omega)]
    · rw [dig_d hw (by omega) (by omega), dig_d h (by omega) (by omega)]; dsimp only; rw [Int.toNat_natCast, xor_here _ _ _ hx, Int.toNat_natCast]
  split at hw
  · rename_i h1 h2 h3
    rw [if_neg h1, if_neg h2, if_pos h3]
    refine ⟨fun j hj => ?_, ?_⟩
    · by_cases hj1 : j < 8
      · rw [dig_s hw hj1, dig_s h hj1]
      · by_cases hj2 : j < 16
        · rw [dig_d hw (by omega) hj2, dig_d h (by omega) hj2]
        · rw [dig_p hw (by omega) (by omega), dig_p h (by omega) (by omega)]; dsimp only; rw [Int.toNat_natCast, xor_high _ _ _ _ hx (by omega)]
    · rw [dig_p hw (by omega) (by omega), dig_p h (by omega) (by omega)]; dsimp only; rw [Int.toNat_natCast, xor_here _ _ _ hx, Int.toNat_natCast]
  split at hw
  · rename_i h1 h2 h3 h4
    rw [if_neg h1, if_neg h2, if_neg h3, if_pos h4]
    refine ⟨fun j hj => ?_, ?_⟩
    · by_cases hj1 : j < 8
      · rw [dig_s hw hj1, dig_s h hj1]
      · by_cases hj2 : j < 16
        · rw [dig_d hw (by omega) hj2, dig_d h (by omega) hj2]
        · by_cases hj3 : j < 18
          · rw [dig_p hw (by omega) hj3, dig_p h (by omega) hj3]
          · rw [dig_a hw (by omega) (by omega), dig_a h (by omega) (by omega)]; dsimp only; rw [Int.toNat_natCast, xor_high _ _ _ _ hx (by omega)]
    · rw [dig_a hw (by omega) (by omega), dig_a h (by omega) (by omega)]; dsimp only; rw [Int.toNat_natCast, xor_here _ _ _ hx, Int.toNat_natCast]
  · rename_i h1 h2 h3 h4
    rw [if_neg h1, if_neg h2, if_neg h3, if_neg h4]
    refine ⟨fun j hj => ?_, ?_⟩
    · by_cases hj1 : j < 8
      · rw [dig_s hw hj1, dig_s h hj1]
      · by_cases hj2 : j < 16
        · rw [dig_d hw (by omega) hj2, dig_d h (by omega) hj2]
        · by_cases hj3 : j < 18
          · rw [dig_p hw (by omega) hj3, dig_p h (by omega) hj3]
          · by_cases hj4 : j < 22
            · rw [dig_a hw (by omega) hj4, dig_a h (by omega) hj4]
            · rw [dig_b hw (by omega) (by omega), dig_b h (by omega) (by omega)]; dsimp only; rw [Int.toNat_natCast, xor_high _ _ _ _ hx (by omega)]
    · rw [dig_b hw (by omega) (by omega), dig_b h (by omega) (by omega)]; dsimp only; rw [Int.toNat_natCast, xor_here _ _ _ hx, Int.toNat_natCast]
/-- The key with the digit d at the place n. -/
def withD (k : Ky) (n d : Nat) : Ky := withK k n ((dig k n).toNat ^^^ d)
theorem dx_lt {n d : Nat} (hd : d < 16) : (dig k n).toNat ^^^ d < 16 := by
  have := dig_bd k n
  exact Nat.xor_lt_two_pow (n := 4) (by omega) hd
theorem withD_wf (h : WfK k) {n d : Nat} (hd : d < 16) : WfK (withD k n d) := withK_wf h (dx_lt hd)
theorem withD_dl (h : WfK k) {n d : Nat} (hn : n < 26) (hd : d < 16) : (dl (withD k n d)).take (n + 1) = (dl k).take n ++ [(d : Int)] := by
  have hx := withK_dig h (x := (dig k n).toNat ^^^ d) (dx_lt (k := k) (n := n) hd) hn
  rw [dl_take hn, (take_alike (a := withD k n d) (b := k) (by omega)).2 hx.1]
  unfold withD
  rw [hx.2, ← Nat.xor_assoc, Nat.xor_self, Nat.zero_xor]
theorem dx8 {n d : Nat} (hd : d < 16) : bitsOf .xor .u8 (dig k n) (d : Int) = (((dig k n).toNat ^^^ d : Nat) : Int) := by
  have := dig_bd k n
  obtain ⟨m, hm⟩ : ∃ m : Nat, dig k n = (m : Int) := ⟨(dig k n).toNat, by omega⟩
  rw [hm, Int.toNat_natCast]
  exact xor8 (by omega) (by omega)
end
theorem pow16 (m : Nat) : (2 : Int) ^ (4 * m) = ((16 ^ m : Nat) : Int) := by
  rw [Int.pow_mul, Int.natCast_pow]; rfl
theorem sh32 {x m : Nat} (hx : x < 16) (hm : m < 8) : IntKind.u32.wrap ((x : Int) * ((16 ^ m : Nat) : Int)) = ((x * 16 ^ m : Nat) : Int) := by
  have h : x * 16 ^ m < 4294967296 := mul16 (w := 8) hx hm
  rw [← Int.natCast_mul]
  exact IntWalk.u32_in _ (by omega)
theorem fx32 {a : Int} {b : Nat} (ha : 0 ≤ a ∧ a ≤ 4294967295) (hb : b < 4294967296) : bitsOf .xor .u32 a (b : Int) = ((a.toNat ^^^ b : Nat) : Int) := by
  obtain ⟨m, rfl⟩ : ∃ m : Nat, a = (m : Int) := ⟨a.toNat, by omega⟩
  rw [Int.toNat_natCast]; exact xor32 (by omega) hb
theorem fx16 {a : Int} {b : Nat} (ha : 0 ≤ a ∧ a ≤ 65535) (hb : b < 65536) : bitsOf .xor .u16 a (b : Int) = ((a.toNat ^^^ b : Nat) : Int) := by
  obtain ⟨m, rfl⟩ : ∃ m : Nat, a = (m : Int) := ⟨a.toNat, by omega⟩
  rw [Int.toNat_natCast]; exact xor16 (by omega) hb
theorem fx8 {a : Int} {b : Nat} (ha : 0 ≤ a ∧ a ≤ 255) (hb : b < 256) : bitsOf .xor .u8 a (b : Int) = ((a.toNat ^^^ b : Nat) : Int) := by
  obtain ⟨m, rfl⟩ : ∃ m : Nat, a = (m : Int) := ⟨a.toNat, by omega⟩
  rw [Int.toNat_natCast]; exact xor8 (by omega) hb
end Go.Proofs.Ythjfclljjcpikaa.Sx

/-
  The reference of package trie as plain lists: keys in order, how many digits are alike, places, nodes. Nothing of a program stands here.
-/
namespace Go.Proofs.Ythjfclljjcpikaa.Sx
open Go
set_option linter.unusedVariables false
set_option linter.unusedSimpArgs false
def upto (p : Nat → Bool) : Nat → Nat
  | 0 => 0
  | n + 1 => if upto p n = n ∧ p n = true then n + 1 else upto p n
theorem upto_spec (p : Nat → Bool) : ∀ n, upto p n ≤ n ∧ (∀ j, j < upto p n → p j = true) ∧ (upto p n < n → p (upto p n) = false)
  | 0 => ⟨Nat.le_refl _, fun j h => by simp [upto] at h, fun h => by simp [upto] at h⟩
  | n + 1 => by
    obtain ⟨h1, h2, h3⟩ := upto_spec p n
    unfold upto
    split
    · rename_i h
      refine ⟨Nat.le_refl _, fun j hj => ?_, fun h => by omega⟩
      by_cases e : j = n
      · subst e; exact h.2
      · exact h2 j (by omega)
    · rename_i h
      refine ⟨by omega, h2, fun _ => ?_⟩
      by_cases e : upto p n = n
      · rw [e]
        cases hp : p n with
        | false => rfl
        | true => exact absurd ⟨e, hp⟩ h
      · exact h3 (by omega)
/-- In how many digits two keys begin alike. -/
def al (a b : Ky) : Nat := upto (fun j => decide (dig a j = dig b j)) 26
section
variable {a b c : Ky}
theorem al_spec : al a b ≤ 26 ∧ (∀ j, j < al a b → dig a j = dig b j) ∧ (al a b < 26 → dig a (al a b) ≠ dig b (al a b)) := by
  have h := upto_spec (fun j => decide (dig a j = dig b j)) 26
  unfold al
  obtain ⟨m, hm⟩ : ∃ m, upto (fun j => decide (dig a j = dig b j)) 26 = m := ⟨_, rfl⟩
  rw [hm] at h ⊢
  exact ⟨h.1, fun j hj => of_decide_eq_true (h.2.1 j hj), fun hl => of_decide_eq_false (h.2.2 hl)⟩
theorem al_le : al a b ≤ 26 := al_spec.1
theorem al_eq {j : Nat} (h : j < al a b) : dig a j = dig b j := al_spec.2.1 j h
theorem al_ne (h : al a b < 26) : dig a (al a b) ≠ dig b (al a b) := al_spec.2.2 h
theorem al_uniq {m : Nat} (h : m ≤ 26) (he : ∀ j, j < m → dig a j = dig b j) (hn : m < 26 → dig a m ≠ dig b m) : al a b = m := by
  rcases Nat.lt_trichotomy (al a b) m with h1 | h1 | h1
  · exact absurd (he _ h1) (al_ne (by omega))
  · exact h1
  · have := al_le (a := a) (b := b)
    exact absurd (al_eq h1) (hn (by omega))
theorem al_ge {n : Nat} (hn : n ≤ 26) : n ≤ al a b ↔ ∀ j, j < n → dig a j = dig b j := by
  constructor
  · intro h j hj; exact al_eq (by omega)
  · intro h
    rcases Nat.lt_or_ge (al a b) n with h1 | h1
    · exact absurd (h _ h1) (al_ne (by omega))
    · exact h1
theorem al_comm : al a b = al b a := al_uniq al_le (fun j h => (al_eq h).symm) (fun h e => al_ne h e.symm)
theorem dl_ext (h : ∀ j, j < 26 → dig a j = dig b j) : dl a = dl b := by
  have := (take_alike (a := a) (b := b) (Nat.le_refl 26)).2 h
  rwa [List.take_of_length_le (by rw [dl_len]; omega), List.take_of_length_le (by rw [dl_len]; omega)] at this
theorem al_full (ha : WfK a) (hb : WfK b) : al a b = 26 ↔ a = b := by
  constructor
  · intro h; exact dl_inj ha hb (dl_ext fun j hj => al_eq (by omega))
  · rintro rfl; exact al_uniq (Nat.le_refl _) (fun _ _ => rfl) (fun h => by omega)
theorem ltK_iff : ltK a b ↔ al a b < 26 ∧ dig a (al a b) < dig b (al a b) := by
  constructor
  · intro h
    have h1 := h.first (d := al a b) al_le fun j hj => al_eq hj
    exact ⟨h1.1, h1.2 (al_ne h1.1)⟩
  · rintro ⟨h1, h2⟩
    exact ⟨al a b, (take_alike al_le).2 fun j hj => al_eq hj, _, _, dl_get h1, dl_get h1, h2⟩
theorem ltK.tri (ha : WfK a) (hb : WfK b) : ltK a b ∨ a = b ∨ ltK b a := by
  by_cases h : al a b < 26
  · have h1 := al_ne h
    rcases Int.lt_or_gt_of_ne h1 with h2 | h2
    · exact .inl (ltK_iff.2 ⟨h, h2⟩)
    · exact .inr (.inr (ltK_iff.2 ⟨by rw [al_comm]; exact h, by rw [al_comm]; exact h2⟩))
  · exact .inr (.inl ((al_full ha hb).1 (by have := al_le (a := a) (b := b); omega)))
theorem ltK.trans (h1 : ltK a b) (h2 : ltK b c) : ltK a c := by
  rw [ltK_iff] at h1 h2
  obtain ⟨i1, i2⟩ := h1
  obtain ⟨j1, j2⟩ := h2
  rcases Nat.lt_trichotomy (al a b) (al b c) with h | h | h
  · have e : al a c = al a b := al_uniq (by omega) (fun j hj => (al_eq hj).trans (al_eq (by omega))) (fun _ => by rw [← al_eq h]; omega)
    exact ltK_iff.2 ⟨by omega, by rw [e, ← al_eq h]; exact i2⟩
  · have e : al a c = al a b := al_uniq (by omega) (fun j hj => (al_eq hj).trans (al_eq (by omega))) (fun _ => by rw [h] at i2 ⊢; omega)
    exact ltK_iff.2 ⟨by omega, by rw [e]; rw [h] at i2 ⊢; omega⟩
  · have e : al a c = al b c := al_uniq (by omega) (fun j hj => (al_eq (by omega)).trans (al_eq hj)) (fun _ => by rw [al_eq h]; omega)
    exact ltK_iff.2 ⟨by omega, by rw [e, al_eq h]; exact j2⟩
/-- Of three keys in order the last two are alike in more. -/
theorem al_mid (h1 : ltK a b) : ltK b c → al a c ≤ al b c := by
  intro h2
  rcases Nat.lt_or_ge (al b c) (al a c) with h | h
  · exfalso
    have h3 := ltK_iff.1 h2
    have e : al b a = al b c := al_uniq (by omega) (fun j hj => (al_eq hj).trans (al_eq (a := a) (b := c) (by omega)).symm) (fun _ => by rw [al_eq h]; omega)
    exact h1.asymm (ltK_iff.2 ⟨by omega, by rw [e, al_eq h]; exact h3.2⟩)
  · exact h
end
/-! ### the keys in order, with their values -/
abbrev k0 : Ky := (0, 0, 0, 0, 0)
def srt (K : List (Ky × Int)) : List Ky := undK' K k0 0
def vals (K : List (Ky × Int)) : List Int := (srt K).map fun k => (findV K k).getD 0
structure Good (K : List (Ky × Int)) : Prop where
  wf : ∀ e ∈ K, WfK e.1
  nd : (K.map Prod.fst).Nodup
section
variable {K : List (Ky × Int)} {k : Ky}
theorem srt_mem (h : Good K) {y : Ky} : y ∈ srt K ↔ has K y := by
  unfold srt
  rw [undK_mem2 h.wf]
  exact ⟨fun h => h.2.1, fun h => ⟨⟨by omega, by omega⟩, h, rfl⟩⟩
theorem srt_wf (h : Good K) {y : Ky} (hy : y ∈ srt K) : WfK y := by
  obtain ⟨e, he, h9⟩ := (srt_mem h).1 hy
  exact h9 ▸ h.wf e he
theorem srt_len (h : Good K) : (srt K).length = K.length := by
  unfold srt
  rw [und_count h.wf h.nd ⟨by omega, by omega⟩]
  exact cK_nil K
theorem vals_len : (vals K).length = (srt K).length := by unfold vals; rw [List.length_map]
theorem srt_sorted (h : Good K) : (srt K).Pairwise ltK := undK_sorted h.wf
theorem srt_uniq (h : Good K) {l : List Ky} (hs : l.Pairwise ltK) (hm : ∀ y, y ∈ l ↔ has K y) : l = srt K := sorted_uniq ltK.asymm hs (srt_sorted h) fun y => by rw [hm y, srt_mem h]
/-- How many keys come before one. -/
def plc (K : List (Ky × Int)) (k : Ky) : Nat := upto (fun j => match (srt K)[j]? with | some y => decide (al y k < 26 ∧ dig y (al y k) < dig k (al y k)) | none => false) (srt K).length
theorem plc_le : plc K k ≤ (srt K).length := (upto_spec _ _).1
theorem plc_lt {j : Nat} (h : j < plc K k) (hl : j < (srt K).length) : ltK (srt K)[j] k := by
  have h1 := (upto_spec _ _).2.1 j h
  rw [List.getElem?_eq_getElem hl] at h1
  exact ltK_iff.2 (of_decide_eq_true h1)
theorem plc_ge (h : plc K k < (srt K).length) : ¬ ltK (srt K)[plc K k] k := by
  have h1 := (upto_spec _ _).2.2 h
  change (match (srt K)[plc K k]? with | some y => decide (al y k < 26 ∧ dig y (al y k) < dig k (al y k)) | none => false) = false at h1
  rw [List.getElem?_eq_getElem h] at h1
  exact fun h2 => of_decide_eq_false h1 (ltK_iff.1 h2)
theorem plc_uniq {m : Nat} (hm : m ≤ (srt K).length) (h1 : ∀ j (hj : j < m), ltK ((srt K)[j]'(by omega)) k) (h2 : ∀ h : m < (srt K).length, ¬ ltK (srt K)[m] k) : plc K k = m := by
  rcases Nat.lt_trichotomy (plc K k) m with h | h | h
  · exact absurd (h1 _ h) (plc_ge (by omega))
  · exact h
  · exact absurd (plc_lt h (by have := plc_le (K := K) (k := k); omega)) (h2 _)
theorem plc_is (hg : Good K) (hk : WfK k) : (∃ h : plc K k < (srt K).length, (srt K)[plc K k] = k) ↔ has K k := by
  constructor
  · rintro ⟨h, e⟩
    exact (srt_mem hg).1 (e ▸ List.getElem_mem h)
  · intro h
    obtain ⟨i, hi, e⟩ := List.getElem_of_mem ((srt_mem hg).2 h)
    have hs := List.pairwise_iff_getElem.1 (srt_sorted hg)
    have : plc K k = i := by
      refine plc_uniq (by omega) (fun j hj => ?_) (fun h => by rw [e]; exact fun h2 => h2.asymm h2)
      have := hs j i (by omega) hi hj
      rwa [e] at this
    subst this
    exact ⟨hi, e⟩
theorem plc_after (hg : Good K) (hk : WfK k) (hn : ¬ has K k) {j : Nat} (hj : plc K k ≤ j) (hl : j < (srt K).length) : ltK k (srt K)[j] := by
  have h0 : plc K k < (srt K).length := by omega
  have h1 : ltK k (srt K)[plc K k] := by
    rcases ltK.tri hk (srt_wf hg (List.getElem_mem h0)) with h | h | h
    · exact h
    · exact absurd ((plc_is hg hk).1 ⟨h0, h.symm⟩) hn
    · exact absurd h (plc_ge h0)
  by_cases e : plc K k = j
  · subst e; exact h1
  · exact h1.trans (List.pairwise_iff_getElem.1 (srt_sorted hg) _ _ h0 hl (by omega))
theorem Good.nil : Good [] := ⟨by simp, by simp⟩
theorem Good.snoc (h : Good K) (hk : WfK k) (hn : ¬ has K k) (x : Int) : Good (K ++ [(k, x)]) :=
  have h1 : KI (K ++ [(k, x)]) (K.length + 1) := KI.snoc ⟨Nat.le_refl _, h.nd, h.wf⟩ hk hn
  ⟨h1.wf, h1.nd⟩
theorem Good.put (h : Good K) (hk : WfK k) (x most : Int) : Good (putK K k x most) :=
  have h1 := KI.put (x := x) (most := most) ⟨Nat.le_refl K.length, h.nd, h.wf⟩ hk
  ⟨h1.wf, h1.nd⟩
theorem Good.out (h : Good K) (k : Ky) : Good (outK K k) := ⟨fun e he => h.wf e (List.mem_filter.1 he).1, h.nd.sublist (List.filter_sublist.map _)⟩
theorem has_snoc {x : Int} {y : Ky} : has (K ++ [(k, x)]) y ↔ y = k ∨ has K y := by
  constructor
  · rintro ⟨e, he, rfl⟩
    rcases List.mem_append.1 he with h | h
    · exact .inr ⟨e, h, rfl⟩
    · simp only [List.mem_singleton] at h; subst h; exact .inl rfl
  · rintro (rfl | ⟨e, he, h⟩)
    · exact ⟨(y, x), by simp, rfl⟩
    · exact ⟨e, List.mem_append.2 (.inl he), h⟩
theorem has_out {y : Ky} : has (outK K k) y ↔ has K y ∧ y ≠ k := by
  unfold outK
  constructor
  · rintro ⟨e, he, rfl⟩
    obtain ⟨h1, h2⟩ := List.mem_filter.1 he
    exact ⟨⟨e, h1, rfl⟩, by simpa using h2⟩
  · rintro ⟨⟨e, he, rfl⟩, h⟩
    exact ⟨e, List.mem_filter.2 ⟨he, by simpa using h⟩, rfl⟩
theorem srt_snoc (hg : Good K) (hk : WfK k) (hn : ¬ has K k) {x : Int} : srt (K ++ [(k, x)]) = (srt K).take (plc K k) ++ [k] ++ (srt K).drop (plc K k) := by
  refine (srt_uniq (hg.snoc hk hn x) ?_ fun y => ?_).symm
  · have hlt : ∀ y ∈ (srt K).take (plc K k), ltK y k := fun y hy => by
      obtain ⟨j, hj, e⟩ := List.getElem_of_mem hy
      rw [List.length_take] at hj
      rw [List.getElem_take] at e
      exact e ▸ plc_lt (by omega) (by omega)
    have hgt : ∀ y ∈ (srt K).drop (plc K k), ltK k y := fun y hy => by
      obtain ⟨j, hj, e⟩ := List.getElem_of_mem hy
      rw [List.length_drop] at hj
      rw [List.getElem_drop] at e
      exact e ▸ plc_after hg hk hn (by omega) (by omega)
    rw [List.append_assoc, List.pairwise_append]
    refine ⟨(srt_sorted hg).sublist (List.take_sublist _ _), ?_, fun a ha b hb => ?_⟩
    · rw [List.singleton_append, List.pairwise_cons]
      exact ⟨hgt, (srt_sorted hg).sublist (List.drop_sublist _ _)⟩
    · rcases List.mem_cons.1 hb with rfl | hb
      · exact hlt a ha
      · exact (hlt a ha).trans (hgt b hb)
  · rw [has_snoc, ← srt_mem hg]
    conv => rhs; rw [← List.take_append_drop (plc K k) (srt K)]
    simp only [List.mem_append, List.mem_singleton]
    constructor
    · rintro ((h | h) | h)
      · exact .inr (.inl h)
      · exact .inl h
      · exact .inr (.inr h)
    · rintro (h | h | h)
      · exact .inl (.inr h)
      · exact .inl (.inl h)
      · exact .inr h
theorem findV_snoc_ne {x : Int} {y : Ky} (h : y ≠ k) : findV (K ++ [(k, x)]) y = findV K y := by
  unfold findV
  rw [List.find?_append]
  have : ([(k, x)] : List (Ky × Int)).find? (fun e => e.1 == y) = none := by
    simp; exact fun e => h e.symm
  rw [this, Option.or_none]
theorem findV_out_ne {y : Ky} (h : y ≠ k) : findV (outK K k) y = findV K y := by
  unfold findV outK
  rw [List.find?_filter]
  congr 2
  funext e
  by_cases h1 : e.1 = y
  · subst h1; simp [h]
  · simp [h1]
theorem vals_snoc (hg : Good K) (hk : WfK k) (hn : ¬ has K k) {x : Int} : vals (K ++ [(k, x)]) = (vals K).take (plc K k) ++ [x] ++ (vals K).drop (plc K k) := by
  have e : ∀ y ∈ srt K, (findV (K ++ [(k, x)]) y).getD 0 = (findV K y).getD 0 := fun y hy => by
    rw [findV_snoc_ne]
    rintro rfl
    exact hn ((srt_mem hg).1 hy)
  unfold vals
  rw [srt_snoc hg hk hn, List.map_append, List.map_append, List.map_cons, List.map_nil, findV_snoc hn, ← List.map_take, ← List.map_drop]
  rw [List.map_congr_left fun y hy => e y (List.mem_of_mem_take hy), List.map_congr_left (l := (srt K).drop _) fun y hy => e y (List.mem_of_mem_drop hy)]
  rfl
theorem srt_out (hg : Good K) (hk : WfK k) (hh : has K k) : srt (outK K k) = (srt K).take (plc K k) ++ (srt K).drop (plc K k + 1) := by
  obtain ⟨hl, he⟩ := (plc_is hg hk).2 hh
  have hs := srt_sorted hg
  have e1 : srt K = (srt K).take (plc K k) ++ (k :: (srt K).drop (plc K k + 1)) := by
    conv => lhs; rw [← List.take_append_drop (plc K k) (srt K), List.drop_eq_getElem_cons hl, he]
  refine (srt_uniq (hg.out k) ?_ fun y => ?_).symm
  · rw [e1] at hs
    exact hs.sublist (List.Sublist.append (List.Sublist.refl _) (List.sublist_cons_self _ _))
  · rw [has_out, ← srt_mem hg]
    rw [e1, List.pairwise_append, List.pairwise_cons] at hs
    constructor
    · intro h
      rcases List.mem_append.1 h with h | h
      · exact ⟨List.mem_of_mem_take h, fun e => by subst e; exact absurd (hs.2.2 _ h _ List.mem_cons_self) (fun r => r.asymm r)⟩
      · exact ⟨List.mem_of_mem_drop h, fun e => by subst e; exact absurd (hs.2.1.1 _ h) (fun r => r.asymm r)⟩
    · rintro ⟨h, hne⟩
      rw [e1] at h
      rcases List.mem_append.1 h with h | h
      · exact List.mem_append.2 (.inl h)
      · rcases List.mem_cons.1 h with h | h
        · exact absurd h hne
        · exact List.mem_append.2 (.inr h)
theorem vals_out (hg : Good K) (hk : WfK k) (hh : has K k) : vals (outK K k) = (vals K).take (plc K k) ++ (vals K).drop (plc K k + 1) := by
  have e : ∀ y ∈ srt (outK K k), (findV (outK K k) y).getD 0 = (findV K y).getD 0 := fun y hy => by
    rw [findV_out_ne ((has_out.1 ((srt_mem (hg.out k)).1 hy)).2)]
  unfold vals
  rw [List.map_congr_left e, srt_out hg hk hh, List.map_append, List.map_take, List.map_drop]
theorem vals_at (hg : Good K) (hk : WfK k) (hh : has K k) : (vals K)[plc K k]? = some ((findV K k).getD 0) := by
  obtain ⟨hl, he⟩ := (plc_is hg hk).2 hh
  unfold vals
  rw [List.getElem?_map, List.getElem?_eq_getElem hl, he]; rfl
/-! ### what is alike -/
theorem und_al (hg : Good K) {n : Nat} (hn : n ≤ 26) : undK' K k (n : Int) = (srt K).filter fun y => decide (n ≤ al y k) := by
  have h := und_filter (k := k) hg.wf hn
  rw [← h]
  unfold srt
  congr 1
  funext y
  unfold alikeB
  rw [Bool.eq_iff_iff, decide_eq_true_iff, decide_eq_true_iff, al_ge hn]
theorem und_off {n : Int} (h : ¬ (0 ≤ n ∧ n ≤ 26)) : undK' K k n = [] := by
  unfold undK'; rw [if_neg (fun x => h ⟨x.1, x.2.1⟩)]
def mxTo (ks : List Ky) (k : Ky) (i : Nat) : Nat := (ks.take i).foldl (fun m y => max m (al y k)) 0
theorem mxTo_succ {ks : List Ky} {i : Nat} (hi : i < ks.length) : mxTo ks k (i + 1) = max (mxTo ks k i) (al ks[i] k) := by
  unfold mxTo; rw [List.take_succ_eq_append_getElem hi, List.foldl_append]; rfl
theorem mxTo_ge {ks : List Ky} : ∀ {i : Nat}, i ≤ ks.length → ∀ m, m ≤ mxTo ks k i ↔ m = 0 ∨ ∃ y ∈ ks.take i, m ≤ al y k
  | 0, _, m => by simp [mxTo]
  | i + 1, hi, m => by
    rw [mxTo_succ (by omega), show (m ≤ max (mxTo ks k i) (al ks[i] k) ↔ m ≤ mxTo ks k i ∨ m ≤ al ks[i] k) from by omega, mxTo_ge (i := i) (by omega) m, List.take_succ_eq_append_getElem (by omega)]
    constructor
    · rintro ((h | ⟨y, hy, h⟩) | h)
      · exact .inl h
      · exact .inr ⟨y, List.mem_append.2 (.inl hy), h⟩
      · exact .inr ⟨_, List.mem_append.2 (.inr List.mem_cons_self), h⟩
    · rintro (h | ⟨y, hy, h⟩)
      · exact .inl (.inl h)
      · rcases List.mem_append.1 hy with hy | hy
        · exact .inl (.inr ⟨y, hy, h⟩)
        · simp only [List.mem_singleton] at hy; subst hy; exact .inr h
theorem dep_idem (c : List Int → Nat) (ds : List Int) : ∀ n, dep c ds (dep c ds n) = dep c ds n
  | 0 => rfl
  | n + 1 => by
    by_cases h : dep c ds n = n ∧ 0 < c (ds.take (n + 1))
    · have : dep c ds (n + 1) = n + 1 := dep_yes h.1 h.2
      rw [this, this]
    · have : dep c ds (n + 1) = dep c ds n := by rw [dep, if_neg h]
      rw [this]; exact dep_idem c ds n
theorem dep_ge {c : List Int → Nat} {ds : List Int} : ∀ {n m : Nat}, m ≤ n → (m ≤ dep c ds n ↔ dep c ds m = m)
  | n, m, h => by
    constructor
    · intro h1; exact dep_pre (dep_idem c ds n) h1
    · intro h1
      induction n with
      | zero => have : m = 0 := by omega
                subst this; exact Nat.zero_le _
      | succ n ih =>
        by_cases e : m = n + 1
        · subst e; omega
        · have h2 := ih (by omega)
          by_cases h3 : dep c ds n = n ∧ 0 < c (ds.take (n + 1))
          · rw [dep_yes h3.1 h3.2]; omega
          · rw [dep, if_neg h3]; exact h2
theorem cK_alike (hg : Good K) {m : Nat} (hm : m ≤ 26) : 0 < cK K ((dl k).take m) ↔ ∃ y ∈ srt K, m ≤ al y k := by
  have hpl : ((dl k).take m).length = m := by rw [List.length_take, dl_len]; omega
  unfold cK
  rw [List.countP_pos_iff]
  constructor
  · rintro ⟨e, he, h⟩
    have h1 := isPrefix_iff.1 h
    rw [hpl] at h1
    exact ⟨e.1, (srt_mem hg).2 ⟨e, he, rfl⟩, (al_ge hm).2 ((take_alike hm).1 h1.symm)⟩
  · rintro ⟨y, hy, h⟩
    obtain ⟨e, he, rfl⟩ := (srt_mem hg).1 hy
    exact ⟨e, he, isPrefix_iff.2 (by rw [hpl]; exact ((take_alike hm).2 ((al_ge hm).1 h)).symm)⟩
theorem steps_eq (hg : Good K) : findN (cK K) (dl k) 26 = (mxTo (srt K) k (srt K).length : Int) + 1 := by
  have hmx : mxTo (srt K) k (srt K).length ≤ 26 := by
    rcases (mxTo_ge (k := k) (Nat.le_refl (srt K).length) _).1 (Nat.le_refl _) with h | ⟨y, _, h⟩
    · omega
    · exact Nat.le_trans h al_le
  have key : ∀ m, m ≤ 26 → (m ≤ dep (cK K) (dl k) 26 ↔ m ≤ mxTo (srt K) k (srt K).length) := fun m hm => by
    rw [dep_ge hm, mxTo_ge (Nat.le_refl _), List.take_length]
    rcases Nat.eq_zero_or_pos m with h | h
    · subst h; exact ⟨fun _ => .inl rfl, fun _ => rfl⟩
    · rw [dep_full h, cK_alike hg hm]
      exact ⟨fun x => .inr x, fun x => x.resolve_left (by omega)⟩
  have h1 := (key _ (dep_le _ _ _)).1 (Nat.le_refl _)
  have h2 := (key _ hmx).2 (Nat.le_refl _)
  unfold findN
  omega
/-! ### nodes -/
def ndk (ks : List Ky) : Nat := (ddp (pres ks)).length
theorem ndk_same {ks ls : List Ky} (h : ∀ y, y ∈ ks ↔ y ∈ ls) : ndk ks = ndk ls := by
  have h1 : ∀ p, p ∈ pres ks ↔ p ∈ pres ls := fun p => by
    rw [pres_iff, pres_iff]
    constructor
    · rintro (h2 | ⟨y, hy, h2⟩)
      · exact .inl h2
      · exact .inr ⟨y, (h y).1 hy, h2⟩
    · rintro (h2 | ⟨y, hy, h2⟩)
      · exact .inl h2
      · exact .inr ⟨y, (h y).2 hy, h2⟩
  exact Nat.le_antisymm (nodup_le2 (nodup_ddp _) fun x hx => mem_ddp.2 ((h1 x).1 (mem_ddp.1 hx))) (nodup_le2 (nodup_ddp _) fun x hx => mem_ddp.2 ((h1 x).2 (mem_ddp.1 hx)))
theorem ndk_nil : ndk [] = 1 := by decide +kernel
theorem pre_iff {p : List Int} {y : Ky} : p.isPrefixOf (dl y) = true ↔ p.length ≤ 26 ∧ p = (dl y).take p.length := by
  rw [isPrefix_iff]
  constructor
  · intro h
    refine ⟨?_, h⟩
    have := congrArg List.length h
    rw [List.length_take, dl_len] at this
    omega
  · exact fun h => h.2
/-- A key that is alike in m digits with those before, and not in more with any, brings 26 - m nodes. -/
theorem ndk_snoc {ks : List Ky} {y : Ky} {m : Nat} (hm : m ≤ 26) (h0 : 0 < m → ∃ z ∈ ks, m ≤ al z y) (h1 : ∀ z ∈ ks, al z y ≤ m) : ndk (ks ++ [y]) = ndk ks + (26 - m) := by
  have tl : ∀ i, i < 26 → ((dl y).take (i + 1)).length = i + 1 := fun i hi => by rw [List.length_take, dl_len]; omega
  have hnd : (ddp (pres ks) ++ (List.range' m (26 - m)).map fun i => (dl y).take (i + 1)).Nodup := by
    rw [List.nodup_append]
    refine ⟨nodup_ddp _, ?_, fun a ha b hb e => ?_⟩
    · rw [List.Nodup, List.pairwise_map]
      refine (List.nodup_range' (step := 1)).imp_of_mem fun {a b} ha hb hne e => hne ?_
      rw [List.mem_range'_1] at ha hb
      have := congrArg List.length e
      rw [tl a (by omega), tl b (by omega)] at this
      omega
    · subst e
      obtain ⟨i, hi, rfl⟩ := List.mem_map.1 hb
      rw [List.mem_range'_1] at hi
      rcases pres_iff.1 (mem_ddp.1 ha) with h | ⟨z, hz, h⟩
      · have := congrArg List.length h
        rw [tl i (by omega)] at this; simp at this
      · have h2 := (pre_iff.1 h).2
        rw [tl i (by omega)] at h2
        have h3 := (al_ge (a := z) (b := y) (n := i + 1) (by omega)).2 ((take_alike (by omega)).1 h2.symm)
        have := h1 z hz
        omega
  have hmem : ∀ p, p ∈ ddp (pres (ks ++ [y])) ↔ p ∈ ddp (pres ks) ++ (List.range' m (26 - m)).map fun i => (dl y).take (i + 1) := fun p => by
    rw [List.mem_append, mem_ddp, mem_ddp, pres_iff, pres_iff, List.mem_map]
    constructor
    · rintro (h | ⟨z, hz, h⟩)
      · exact .inl (.inl h)
      · rcases List.mem_append.1 hz with hz | hz
        · exact .inl (.inr ⟨z, hz, h⟩)
        · simp only [List.mem_singleton] at hz; subst hz
          obtain ⟨hl, he⟩ := pre_iff.1 h
          by_cases hp : p = []
          · exact .inl (.inl hp)
          have hp1 : 0 < p.length := List.length_pos_iff.2 hp
          by_cases hpm : p.length ≤ m
          · obtain ⟨z', hz', h'⟩ := h0 (by omega)
            refine .inl (.inr ⟨z', hz', pre_iff.2 ⟨hl, ?_⟩⟩)
            rw [(take_alike hl).2 fun j hj => al_eq (a := z') (b := z) (by omega)]; exact he
          · exact .inr ⟨p.length - 1, by rw [List.mem_range'_1]; omega, by rw [show p.length - 1 + 1 = p.length from by omega]; exact he.symm⟩
    · rintro ((h | ⟨z, hz, h⟩) | ⟨i, hi, rfl⟩)
      · exact .inl h
      · exact .inr ⟨z, List.mem_append.2 (.inl hz), h⟩
      · rw [List.mem_range'_1] at hi
        exact .inr ⟨y, List.mem_append.2 (.inr List.mem_cons_self), pre_iff.2 ⟨by rw [tl i (by omega)]; omega, by rw [tl i (by omega)]⟩⟩
  have h2 := Nat.le_antisymm (nodup_le2 (nodup_ddp _) fun x hx => (hmem x).1 hx) (nodup_le2 hnd fun x hx => (hmem x).2 hx)
  rw [List.length_append, List.length_map, List.length_range'] at h2
  exact h2
theorem ndk_first {ks : List Ky} (hi : 0 < ks.length) : ndk (ks.take 1) = 27 := by
  rw [List.take_succ_eq_append_getElem hi, List.take_zero]
  have := ndk_snoc (ks := []) (y := ks[0]) (m := 0) (by omega) (by omega) (by simp)
  rw [this, ndk_nil]
theorem ndk_next {ks : List Ky} (hs : ks.Pairwise ltK) {i : Nat} (hi : i + 1 < ks.length) : ndk (ks.take (i + 2)) = ndk (ks.take (i + 1)) + (26 - al (ks[i]'(by omega)) ks[i + 1]) := by
  rw [show i + 2 = i + 1 + 1 from rfl, List.take_succ_eq_append_getElem hi]
  have hp := List.pairwise_iff_getElem.1 hs
  refine ndk_snoc al_le (fun _ => ⟨ks[i]'(by omega), ?_, Nat.le_refl _⟩) fun z hz => ?_
  · rw [List.take_succ_eq_append_getElem (by omega)]
    exact List.mem_append.2 (.inr List.mem_cons_self)
  · obtain ⟨j, hj, e⟩ := List.getElem_of_mem hz
    rw [List.length_take] at hj
    rw [List.getElem_take] at e
    subst e
    by_cases h : j = i
    · subst h; exact Nat.le_refl _
    · exact al_mid (hp j i (by omega) (by omega) (by omega)) (hp i (i + 1) (by omega) (by omega) (by omega))
theorem nodes_eq (hg : Good K) : nodesOf K = ndk (srt K) :=
  ndk_same fun y => by
    rw [srt_mem hg, List.mem_map]
    exact ⟨fun ⟨e, he, h⟩ => ⟨e, he, h⟩, fun ⟨e, he, h⟩ => ⟨e, he, h⟩⟩
end
end Go.Proofs.Ythjfclljjcpikaa.Sx
