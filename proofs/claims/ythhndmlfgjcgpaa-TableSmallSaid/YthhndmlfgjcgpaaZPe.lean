/-
  My plain texts put together into one module.
-/
import Derived.Test.YthhndmlfgjcgpaaZPd
namespace Go.Proofs.Ythhndmlfgjcgpaa.Sx
open Go
set_option linter.unusedVariables false
set_option linter.unusedSimpArgs false
theorem sorted_uniq {α : Type} {R : α → α → Prop} (as : ∀ {a b}, R a b → ¬ R b a) : ∀ {l1 l2 : List α}, l1.Pairwise R → l2.Pairwise R → (∀ x, x ∈ l1 ↔ x ∈ l2) → l1 = l2
  | [], [], _, _, _ => rfl
  | [], b :: t2, _, _, h => by have := (h b).2 List.mem_cons_self; simp at this
  | a :: t1, [], _, _, h => by have := (h a).1 List.mem_cons_self; simp at this
  | a :: t1, b :: t2, h1, h2, h => by
    rw [List.pairwise_cons] at h1 h2
    have e : a = b := by
      rcases List.mem_cons.1 ((h a).1 List.mem_cons_self) with e | ha
      · exact e
      · rcases List.mem_cons.1 ((h b).2 List.mem_cons_self) with e | hb
        · exact e.symm
        · exact absurd (h1.1 b hb) (as (h2.1 a ha))
    subst e
    have irr : ¬ R a a := fun r => as r r
    have ht : t1 = t2 := sorted_uniq as h1.2 h2.2 fun x => by
      constructor
      · intro hx
        rcases List.mem_cons.1 ((h x).1 (List.mem_cons_of_mem _ hx)) with e | hx2
        · subst e; exact absurd (h1.1 x hx) irr
        · exact hx2
      · intro hx
        rcases List.mem_cons.1 ((h x).2 (List.mem_cons_of_mem _ hx)) with e | hx2
        · subst e; exact absurd (h2.1 x hx) irr
        · exact hx2
    rw [ht]
theorem ltD.asymm {a b : List Int} (h : ltD a b) : ¬ ltD b a := by
  obtain ⟨i, h1, x, y, h2, h3, h4⟩ := h
  rintro ⟨j, k1, u, v, k2, k3, k4⟩
  rcases Nat.lt_trichotomy i j with h | h | h
  · have h5 : b[i]? = a[i]? := by
      have := congrArg (fun l => l[i]?) k1
      simpa [List.getElem?_take, h] using this
    rw [h2, h3] at h5
    have := Option.some.inj h5
    omega
  · subst h
    rw [h3] at k2; rw [h2] at k3
    have := Option.some.inj k2
    have := Option.some.inj k3
    omega
  · have h5 : a[j]? = b[j]? := by
      have := congrArg (fun l => l[j]?) h1
      simpa [List.getElem?_take, h] using this
    rw [k2, k3] at h5
    have := Option.some.inj h5
    omega
def ltK (a b : Ky) : Prop := ltD (dl a) (dl b)
theorem ltK.asymm {a b : Ky} (h : ltK a b) : ¬ ltK b a := ltD.asymm h
theorem undK_sorted {K : List (Ky × Int)} {k : Ky} {n : Int} (hK : ∀ e ∈ K, WfK e.1) : (undK' K k n).Pairwise ltK := by
  unfold undK'
  split
  · rename_i hc
    have hpl : ((dl k).take n.toNat).length = n.toNat := by rw [List.length_take, dl_len]; omega
    rw [List.pairwise_map]
    refine undL_sorted.imp_of_mem fun {a b} ha hb h => ?_
    obtain ⟨e1, _, h1, h2⟩ := undL_key hK (by rw [hpl]; omega) hc.2.2 ha
    obtain ⟨e2, _, h3, h4⟩ := undL_key hK (by rw [hpl]; omega) hc.2.2 hb
    unfold ltK
    rw [h2, h4, h1, h3]; exact h
  · exact List.Pairwise.nil
theorem undK_uniq {K : List (Ky × Int)} {k : Ky} {n : Int} (hK : ∀ e ∈ K, WfK e.1) {l : List Ky} (hs : l.Pairwise ltK) (hm : ∀ y, y ∈ l ↔ y ∈ undK' K k n) : l = undK' K k n := sorted_uniq ltK.asymm hs (undK_sorted hK) hm
theorem undK_mem2 {K : List (Ky × Int)} {k y : Ky} {n : Int} (hK : ∀ e ∈ K, WfK e.1) : y ∈ undK' K k n ↔ (0 ≤ n ∧ n ≤ 26) ∧ has K y ∧ (dl y).take n.toNat = (dl k).take n.toNat := by
  constructor
  · intro h
    exact (undK_mem hK (und_has hK h).2).1 h
  · intro h
    obtain ⟨e, he, h9⟩ := h.2.1
    exact (undK_mem hK (h9 ▸ hK e he)).2 h
theorem undK_same {K M : List (Ky × Int)} {k : Ky} {n : Int} (hK : ∀ e ∈ K, WfK e.1) (hM : ∀ e ∈ M, WfK e.1) (h : ∀ y, has K y ↔ has M y) : undK' K k n = undK' M k n :=
  undK_uniq hM (undK_sorted hK) fun y => by rw [undK_mem2 hK, undK_mem2 hM, h y]
theorem ltK.first {a b : Ky} (h : ltK a b) {d : Nat} (hd : d ≤ 26) (he : ∀ j, j < d → dig a j = dig b j) : d < 26 ∧ (dig a d ≠ dig b d → dig a d < dig b d) := by
  obtain ⟨i, h1, x, y, h2, h3, h4⟩ := h
  have hi : i < 26 := by
    rcases Nat.lt_or_ge i 26 with h | h
    · exact h
    · rw [List.getElem?_eq_none (by rw [dl_len]; exact h)] at h2; exact absurd h2 (by simp)
  rw [dl_get hi] at h2 h3
  have e2 := Option.some.inj h2
  have e3 := Option.some.inj h3
  have hdi : d ≤ i := by
    rcases Nat.lt_or_ge i d with h | h
    · have := he i h; omega
    · exact h
  refine ⟨by omega, fun hne => ?_⟩
  rcases Nat.lt_or_ge d i with h | h
  · exfalso
    have h5 := congrArg (fun l => l[d]?) h1
    simp only [List.getElem?_take, h, if_true] at h5
    rw [dl_get (by omega), dl_get (by omega)] at h5
    exact hne (Option.some.inj h5)
  · have : d = i := by omega
    subst this; omega
theorem turn_onto {N m t : Nat} (hm : m < N) : ∃ j, j < N ∧ (N - 1 - j + t) % N = m := by
  refine ⟨(N - 1 + t - m) % N, Nat.mod_lt _ (by omega), ?_⟩
  have h1 := Nat.div_add_mod (N - 1 + t - m) N
  have h2 := Nat.mod_lt (N - 1 + t - m) (show 0 < N by omega)
  generalize (N - 1 + t - m) % N = j at h1 h2
  generalize (N - 1 + t - m) / N = q at h1
  have h3 : N - 1 - j + t = m + N * q := by omega
  rw [h3, Nat.add_mul_mod_self_left, Nat.mod_eq_of_lt hm]
theorem putK_has2 {K : List (Ky × Int)} {k : Ky} {x most : Int} {i : Nat} (h : KI K i) (hl : (i : Int) < most) (y : Ky) : has (putK K k x most) y ↔ has K y ∨ y = k :=
  putK_mem (by have := h.le; omega) y
def AllPut (ks : List Ky) (f : Nat → Nat) (K : List (Ky × Int)) (i : Nat) : Prop := KI K i ∧ ∀ y, has K y ↔ ∃ j, j < i ∧ ks[f j]? = some y
theorem AllPut.nil {ks : List Ky} {f : Nat → Nat} : AllPut ks f [] 0 := ⟨KI.nil, fun y => ⟨fun ⟨e, h, _⟩ => by simp at h, fun ⟨j, h, _⟩ => by omega⟩⟩
theorem AllPut.put {ks : List Ky} {f : Nat → Nat} {K : List (Ky × Int)} {i : Nat} {k : Ky} {x most : Int} (h : AllPut ks f K i) (hk : WfK k) (hf : ks[f i]? = some k) (hl : (i : Int) < most) : AllPut ks f (putK K k x most) (i + 1) := by
  refine ⟨h.1.put hk, fun y => ?_⟩
  rw [putK_has2 h.1 hl, h.2 y]
  constructor
  · rintro (⟨j, hj, h1⟩ | rfl)
    · exact ⟨j, by omega, h1⟩
    · exact ⟨i, by omega, hf⟩
  · rintro ⟨j, hj, h1⟩
    by_cases e : j = i
    · subst e; rw [hf] at h1; exact .inr (Option.some.inj h1).symm
    · exact .inl ⟨j, by omega, h1⟩
theorem AllPut.same {ks : List Ky} {t : Nat} {K M : List (Ky × Int)} (h : AllPut ks (fun j => j) K ks.length) (h' : AllPut ks (fun j => (ks.length - 1 - j + t) % ks.length) M ks.length) (y : Ky) : has K y ↔ has M y := by
  rw [h.2 y, h'.2 y]
  constructor
  · rintro ⟨j, hj, h1⟩
    obtain ⟨i, hi, h2⟩ := turn_onto (t := t) hj
    exact ⟨i, hi, (congrArg (fun m => ks[m]?) h2).trans h1⟩
  · rintro ⟨j, hj, h1⟩
    exact ⟨_, Nat.mod_lt _ (by omega), h1⟩
end Go.Proofs.Ythhndmlfgjcgpaa.Sx
namespace Go.Proofs.Ythhndmlfgjcgpaa.Sx
open Go
set_option linter.unusedVariables false
set_option linter.unusedSimpArgs false
theorem und_count {K : List (Ky × Int)} {k : Ky} {n : Int} (hK : ∀ e ∈ K, WfK e.1) (hnd : (K.map Prod.fst).Nodup) (hn : 0 ≤ n ∧ n ≤ 26) : (undK' K k n).length = cK K ((dl k).take n.toNat) := by
  have hpl : ((dl k).take n.toNat).length = n.toNat := by rw [List.length_take, dl_len]; omega
  have e : cK K ((dl k).take n.toNat) = ((K.filter fun e => ((dl k).take n.toNat).isPrefixOf (dl e.1)).map Prod.fst).length := by
    rw [List.length_map, ← List.countP_eq_length_filter]; rfl
  have hmem : ∀ y, y ∈ undK' K k n ↔ y ∈ (K.filter fun e => ((dl k).take n.toNat).isPrefixOf (dl e.1)).map Prod.fst := fun y => by
    rw [undK_mem2 hK, List.mem_map]
    constructor
    · rintro ⟨_, ⟨e, he, rfl⟩, h⟩
      exact ⟨e, List.mem_filter.2 ⟨he, isPrefix_iff.2 (by rw [hpl]; exact h.symm)⟩, rfl⟩
    · rintro ⟨e, he, rfl⟩
      obtain ⟨h1, h2⟩ := List.mem_filter.1 he
      have h3 := isPrefix_iff.1 h2
      rw [hpl] at h3
      exact ⟨hn, ⟨e, h1, rfl⟩, h3.symm⟩
  rw [e]
  exact Nat.le_antisymm (nodup_le2 (undK_nodup hK) fun y h => (hmem y).1 h) (nodup_le2 (hnd.sublist (List.filter_sublist.map _)) fun y h => (hmem y).2 h)
theorem take_alike {a b : Ky} : ∀ {n : Nat}, n ≤ 26 → ((dl a).take n = (dl b).take n ↔ ∀ j, j < n → dig a j = dig b j)
  | 0, _ => by simp
  | n + 1, h => by
    rw [dl_take (by omega), dl_take (by omega)]
    constructor
    · intro e j hj
      obtain ⟨e1, e2⟩ := snoc_inj e
      by_cases hjn : j = n
      · subst hjn; exact e2
      · exact (take_alike (by omega)).1 e1 j (by omega)
    · intro e
      rw [(take_alike (n := n) (by omega)).2 fun j hj => e j (by omega), e n (by omega)]
end Go.Proofs.Ythhndmlfgjcgpaa.Sx
namespace Go.Proofs.Ythhndmlfgjcgpaa.Sx
open Go
set_option linter.unusedVariables false
set_option linter.unusedSimpArgs false
section
variable {k : Ky}
theorem dig_s (h : WfK k) {i : Nat} (hi : i < 8) : dig k i = ((k.2.1.toNat / 16 ^ (7 - i) % 16 : Nat) : Int) := by
  have q := h.s
  have hc : i = 0 ∨ i = 1 ∨ i = 2 ∨ i = 3 ∨ i = 4 ∨ i = 5 ∨ i = 6 ∨ i = 7 := by omega
  rcases hc with rfl | rfl | rfl | rfl | rfl | rfl | rfl | rfl <;> simp [dig, byts] <;> omega
theorem dig_d (h : WfK k) {i : Nat} (h8 : 8 ≤ i) (hi : i < 16) : dig k i = ((k.2.2.1.toNat / 16 ^ (15 - i) % 16 : Nat) : Int) := by
  have q := h.d
  have hc : i = 8 ∨ i = 9 ∨ i = 10 ∨ i = 11 ∨ i = 12 ∨ i = 13 ∨ i = 14 ∨ i = 15 := by omega
  rcases hc with rfl | rfl | rfl | rfl | rfl | rfl | rfl | rfl <;> simp [dig, byts] <;> omega
theorem dig_p (h : WfK k) {i : Nat} (h8 : 16 ≤ i) (hi : i < 18) : dig k i = ((k.1.toNat / 16 ^ (17 - i) % 16 : Nat) : Int) := by
  have q := h.p
  have hc : i = 16 ∨ i = 17 := by omega
  rcases hc with rfl | rfl <;> simp [dig, byts] <;> omega
theorem dig_a (h : WfK k) {i : Nat} (h8 : 18 ≤ i) (hi : i < 22) : dig k i = ((k.2.2.2.1.toNat / 16 ^ (21 - i) % 16 : Nat) : Int) := by
  have q := h.a
  have hc : i = 18 ∨ i = 19 ∨ i = 20 ∨ i = 21 := by omega
  rcases hc with rfl | rfl | rfl | rfl <;> simp [dig, byts] <;> omega
theorem dig_b (h : WfK k) {i : Nat} (h8 : 22 ≤ i) (hi : i < 26) : dig k i = ((k.2.2.2.2.toNat / 16 ^ (25 - i) % 16 : Nat) : Int) := by
  have q := h.b
  have hc : i = 22 ∨ i = 23 ∨ i = 24 ∨ i = 25 := by omega
  rcases hc with rfl | rfl | rfl | rfl <;> simp [dig, byts] <;> omega
end
theorem pow16 (m : Nat) : (2 : Int) ^ (4 * m) = ((16 ^ m : Nat) : Int) := by
  rw [Int.pow_mul, Int.natCast_pow]; rfl
end Go.Proofs.Ythhndmlfgjcgpaa.Sx
namespace Go.Proofs.Ythhndmlfgjcgpaa.Sx
open Go
set_option linter.unusedVariables false
set_option linter.unusedSimpArgs false
def upto (p : Nat → Bool) : Nat → Nat
  | 0 => 0
  | n + 1 => if upto p n = n ∧ p n = true then n + 1 else upto p n
theorem upto_spec (p : Nat → Bool) : ∀ n, upto p n ≤ n ∧ (∀ j, j < upto p n → p j = true) ∧ (upto p n < n → p (upto p n) = false)
  | 0 => ⟨Nat.le_refl _, fun j h => by simp [upto] at h, fun h => by simp [upto] at h⟩
  | n + 1 => by
    obtain ⟨h1, h2, h3⟩ := upto_spec p n
    unfold upto
    split
    · rename_i h
      refine ⟨Nat.le_refl _, fun j hj => ?_, fun h => by omega⟩
      by_cases e : j = n
      · subst e; exact h.2
      · exact h2 j (by omega)
    · rename_i h
      refine ⟨by omega, h2, fun _ => ?_⟩
      by_cases e : upto p n = n
      · rw [e]
        cases hp : p n with
        | false => rfl
        | true => exact absurd ⟨e, hp⟩ h
      · exact h3 (by omega)
def al (a b : Ky) : Nat := upto (fun j => decide (dig a j = dig b j)) 26
section
variable {a b c : Ky}
theorem al_spec : al a b ≤ 26 ∧ (∀ j, j < al a b → dig a j = dig b j) ∧ (al a b < 26 → dig a (al a b) ≠ dig b (al a b)) := by
  have h := upto_spec (fun j => decide (dig a j = dig b j)) 26
  unfold al
  obtain ⟨m, hm⟩ : ∃ m, upto (fun j => decide (dig a j = dig b j)) 26 = m := ⟨_, rfl⟩
  rw [hm] at h ⊢
  exact ⟨h.1, fun j hj => of_decide_eq_true (h.2.1 j hj), fun hl => of_decide_eq_false (h.2.2 hl)⟩
theorem al_le : al a b ≤ 26 := al_spec.1
theorem al_eq {j : Nat} (h : j < al a b) : dig a j = dig b j := al_spec.2.1 j h
theorem al_ne (h : al a b < 26) : dig a (al a b) ≠ dig b (al a b) := al_spec.2.2 h
theorem al_uniq {m : Nat} (h : m ≤ 26) (he : ∀ j, j < m → dig a j = dig b j) (hn : m < 26 → dig a m ≠ dig b m) : al a b = m := by
  rcases Nat.lt_trichotomy (al a b) m with h1 | h1 | h1
  · exact absurd (he _ h1) (al_ne (by omega))
  · exact h1
  · have := al_le (a := a) (b := b)
    exact absurd (al_eq h1) (hn (by omega))
theorem al_comm : al a b = al b a := al_uniq al_le (fun j h => (al_eq h).symm) (fun h e => al_ne h e.symm)
theorem dl_ext (h : ∀ j, j < 26 → dig a j = dig b j) : dl a = dl b := by
  have := (take_alike (a := a) (b := b) (Nat.le_refl 26)).2 h
  rwa [List.take_of_length_le (by rw [dl_len]; omega), List.take_of_length_le (by rw [dl_len]; omega)] at this
theorem al_full (ha : WfK a) (hb : WfK b) : al a b = 26 ↔ a = b := by
  constructor
  · intro h; exact dl_inj ha hb (dl_ext fun j hj => al_eq (by omega))
  · rintro rfl; exact al_uniq (Nat.le_refl _) (fun _ _ => rfl) (fun h => by omega)
theorem ltK_iff : ltK a b ↔ al a b < 26 ∧ dig a (al a b) < dig b (al a b) := by
  constructor
  · intro h
    have h1 := h.first (d := al a b) al_le fun j hj => al_eq hj
    exact ⟨h1.1, h1.2 (al_ne h1.1)⟩
  · rintro ⟨h1, h2⟩
    exact ⟨al a b, (take_alike al_le).2 fun j hj => al_eq hj, _, _, dl_get h1, dl_get h1, h2⟩
theorem ltK.tri (ha : WfK a) (hb : WfK b) : ltK a b ∨ a = b ∨ ltK b a := by
  by_cases h : al a b < 26
  · have h1 := al_ne h
    rcases Int.lt_or_gt_of_ne h1 with h2 | h2
    · exact .inl (ltK_iff.2 ⟨h, h2⟩)
    · exact .inr (.inr (ltK_iff.2 ⟨by rw [al_comm]; exact h, by rw [al_comm]; exact h2⟩))
  · exact .inr (.inl ((al_full ha hb).1 (by have := al_le (a := a) (b := b); omega)))
theorem ltK.trans (h1 : ltK a b) (h2 : ltK b c) : ltK a c := by
  rw [ltK_iff] at h1 h2
  obtain ⟨i1, i2⟩ := h1
  obtain ⟨j1, j2⟩ := h2
  rcases Nat.lt_trichotomy (al a b) (al b c) with h | h | h
  · have e : al a c = al a b := al_uniq (by omega) (fun j hj => (al_eq hj).trans (al_eq (by omega))) (fun _ => by rw [← al_eq h]; omega)
    exact ltK_iff.2 ⟨by omega, by rw [e, ← al_eq h]; exact i2⟩
  · have e : al a c = al a b := al_uniq (by omega) (fun j hj => (al_eq hj).trans (al_eq (by omega))) (fun _ => by rw [h] at i2 ⊢; omega)
    exact ltK_iff.2 ⟨by omega, by rw [e]; rw [h] at i2 ⊢; omega⟩
  · have e : al a c = al b c := al_uniq (by omega) (fun j hj => (al_eq (by omega)).trans (al_eq hj)) (fun _ => by rw [al_eq h]; omega)
    exact ltK_iff.2 ⟨by omega, by rw [e, al_eq h]; exact j2⟩
end
abbrev k0 : Ky := (0, 0, 0, 0, 0)
def srt (K : List (Ky × Int)) : List Ky := undK' K k0 0
def vals (K : List (Ky × Int)) : List Int := (srt K).map fun k => (findV K k).getD 0
structure Good (K : List (Ky × Int)) : Prop where
  wf : ∀ e ∈ K, WfK e.1
  nd : (K.map Prod.fst).Nodup
section
variable {K : List (Ky × Int)} {k : Ky}
theorem srt_mem (h : Good K) {y : Ky} : y ∈ srt K ↔ has K y := by
  unfold srt
  rw [undK_mem2 h.wf]
  exact ⟨fun h => h.2.1, fun h => ⟨⟨by omega, by omega⟩, h, rfl⟩⟩
theorem srt_wf (h : Good K) {y : Ky} (hy : y ∈ srt K) : WfK y := by
  obtain ⟨e, he, h9⟩ := (srt_mem h).1 hy
  exact h9 ▸ h.wf e he
theorem srt_len (h : Good K) : (srt K).length = K.length := by
  unfold srt
  rw [und_count h.wf h.nd ⟨by omega, by omega⟩]
  exact cK_nil K
theorem vals_len : (vals K).length = (srt K).length := by unfold vals; rw [List.length_map]
theorem srt_sorted (h : Good K) : (srt K).Pairwise ltK := undK_sorted h.wf
theorem srt_uniq (h : Good K) {l : List Ky} (hs : l.Pairwise ltK) (hm : ∀ y, y ∈ l ↔ has K y) : l = srt K := sorted_uniq ltK.asymm hs (srt_sorted h) fun y => by rw [hm y, srt_mem h]
def plc (K : List (Ky × Int)) (k : Ky) : Nat := upto (fun j => match (srt K)[j]? with | some y => decide (al y k < 26 ∧ dig y (al y k) < dig k (al y k)) | none => false) (srt K).length
theorem plc_le : plc K k ≤ (srt K).length := (upto_spec _ _).1
theorem plc_lt {j : Nat} (h : j < plc K k) (hl : j < (srt K).length) : ltK (srt K)[j] k := by
  have h1 := (upto_spec _ _).2.1 j h
  rw [List.getElem?_eq_getElem hl] at h1
  exact ltK_iff.2 (of_decide_eq_true h1)
theorem plc_ge (h : plc K k < (srt K).length) : ¬ ltK (srt K)[plc K k] k := by
  have h1 := (upto_spec _ _).2.2 h
  change (match (srt K)[plc K k]? with | some y => decide (al y k < 26 ∧ dig y (al y k) < dig k (al y k)) | none => false) = false at h1
  rw [List.getElem?_eq_getElem h] at h1
  exact fun h2 => of_decide_eq_false h1 (ltK_iff.1 h2)
theorem plc_uniq {m : Nat} (hm : m ≤ (srt K).length) (h1 : ∀ j (hj : j < m), ltK ((srt K)[j]'(by omega)) k) (h2 : ∀ h : m < (srt K).length, ¬ ltK (srt K)[m] k) : plc K k = m := by
  rcases Nat.lt_trichotomy (plc K k) m with h | h | h
  · exact absurd (h1 _ h) (plc_ge (by omega))
  · exact h
  · exact absurd (plc_lt h (by have := plc_le (K := K) (k := k); omega)) (h2 _)
theorem plc_is (hg : Good K) (hk : WfK k) : (∃ h : plc K k < (srt K).length, (srt K)[plc K k] = k) ↔ has K k := by
  constructor
  · rintro ⟨h, e⟩
    exact (srt_mem hg).1 (e ▸ List.getElem_mem h)
  · intro h
    obtain ⟨i, hi, e⟩ := List.getElem_of_mem ((srt_mem hg).2 h)
    have hs := List.pairwise_iff_getElem.1 (srt_sorted hg)
    have : plc K k = i := by
      refine plc_uniq (by omega) (fun j hj => ?_) (fun h => by rw [e]; exact fun h2 => h2.asymm h2)
      have := hs j i (by omega) hi hj
      rwa [e] at this
    subst this
    exact ⟨hi, e⟩
theorem plc_after (hg : Good K) (hk : WfK k) (hn : ¬ has K k) {j : Nat} (hj : plc K k ≤ j) (hl : j < (srt K).length) : ltK k (srt K)[j] := by
  have h0 : plc K k < (srt K).length := by omega
  have h1 : ltK k (srt K)[plc K k] := by
    rcases ltK.tri hk (srt_wf hg (List.getElem_mem h0)) with h | h | h
    · exact h
    · exact absurd ((plc_is hg hk).1 ⟨h0, h.symm⟩) hn
    · exact absurd h (plc_ge h0)
  by_cases e : plc K k = j
  · subst e; exact h1
  · exact h1.trans (List.pairwise_iff_getElem.1 (srt_sorted hg) _ _ h0 hl (by omega))
theorem Good.nil : Good [] := ⟨by simp, by simp⟩
theorem Good.snoc (h : Good K) (hk : WfK k) (hn : ¬ has K k) (x : Int) : Good (K ++ [(k, x)]) :=
  have h1 : KI (K ++ [(k, x)]) (K.length + 1) := KI.snoc ⟨Nat.le_refl _, h.nd, h.wf⟩ hk hn
  ⟨h1.wf, h1.nd⟩
theorem Good.put (h : Good K) (hk : WfK k) (x most : Int) : Good (putK K k x most) :=
  have h1 := KI.put (x := x) (most := most) ⟨Nat.le_refl K.length, h.nd, h.wf⟩ hk
  ⟨h1.wf, h1.nd⟩
theorem Good.out (h : Good K) (k : Ky) : Good (outK K k) := ⟨fun e he => h.wf e (List.mem_filter.1 he).1, h.nd.sublist (List.filter_sublist.map _)⟩
theorem has_snoc {x : Int} {y : Ky} : has (K ++ [(k, x)]) y ↔ y = k ∨ has K y := by
  constructor
  · rintro ⟨e, he, rfl⟩
    rcases List.mem_append.1 he with h | h
    · exact .inr ⟨e, h, rfl⟩
    · simp only [List.mem_singleton] at h; subst h; exact .inl rfl
  · rintro (rfl | ⟨e, he, h⟩)
    · exact ⟨(y, x), by simp, rfl⟩
    · exact ⟨e, List.mem_append.2 (.inl he), h⟩
theorem srt_snoc (hg : Good K) (hk : WfK k) (hn : ¬ has K k) {x : Int} : srt (K ++ [(k, x)]) = (srt K).take (plc K k) ++ [k] ++ (srt K).drop (plc K k) := by
  refine (srt_uniq (hg.snoc hk hn x) ?_ fun y => ?_).symm
  · have hlt : ∀ y ∈ (srt K).take (plc K k), ltK y k := fun y hy => by
      obtain ⟨j, hj, e⟩ := List.getElem_of_mem hy
      rw [List.length_take] at hj
      rw [List.getElem_take] at e
      exact e ▸ plc_lt (by omega) (by omega)
    have hgt : ∀ y ∈ (srt K).drop (plc K k), ltK k y := fun y hy => by
      obtain ⟨j, hj, e⟩ := List.getElem_of_mem hy
      rw [List.length_drop] at hj
      rw [List.getElem_drop] at e
      exact e ▸ plc_after hg hk hn (by omega) (by omega)
    rw [List.append_assoc, List.pairwise_append]
    refine ⟨(srt_sorted hg).sublist (List.take_sublist _ _), ?_, fun a ha b hb => ?_⟩
    · rw [List.singleton_append, List.pairwise_cons]
      exact ⟨hgt, (srt_sorted hg).sublist (List.drop_sublist _ _)⟩
    · rcases List.mem_cons.1 hb with rfl | hb
      · exact hlt a ha
      · exact (hlt a ha).trans (hgt b hb)
  · rw [has_snoc, ← srt_mem hg]
    conv => rhs; rw [← List.take_append_drop (plc K k) (srt K)]
    simp only [List.mem_append, List.mem_singleton]
    constructor
    · rintro ((h | h) | h)
      · exact .inr (.inl h)
      · exact .inl h
      · exact .inr (.inr h)
    · rintro (h | h | h)
      · exact .inl (.inr h)
      · exact .inl (.inl h)
      · exact .inr h
theorem findV_snoc_ne {x : Int} {y : Ky} (h : y ≠ k) : findV (K ++ [(k, x)]) y = findV K y := by
  unfold findV
  rw [List.find?_append]
  have : ([(k, x)] : List (Ky × Int)).find? (fun e => e.1 == y) = none := by
    simp; exact fun e => h e.symm
  rw [this, Option.or_none]
theorem vals_snoc (hg : Good K) (hk : WfK k) (hn : ¬ has K k) {x : Int} : vals (K ++ [(k, x)]) = (vals K).take (plc K k) ++ [x] ++ (vals K).drop (plc K k) := by
  have e : ∀ y ∈ srt K, (findV (K ++ [(k, x)]) y).getD 0 = (findV K y).getD 0 := fun y hy => by
    rw [findV_snoc_ne]
    rintro rfl
    exact hn ((srt_mem hg).1 hy)
  unfold vals
  rw [srt_snoc hg hk hn, List.map_append, List.map_append, List.map_cons, List.map_nil, findV_snoc hn, ← List.map_take, ← List.map_drop]
  rw [List.map_congr_left fun y hy => e y (List.mem_of_mem_take hy), List.map_congr_left (l := (srt K).drop _) fun y hy => e y (List.mem_of_mem_drop hy)]
  rfl
end
end Go.Proofs.Ythhndmlfgjcgpaa.Sx
