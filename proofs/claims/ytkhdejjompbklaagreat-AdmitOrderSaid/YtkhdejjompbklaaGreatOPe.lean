/-
  My plain texts put together into one module.
-/
import Derived.Test.YtkhdejjompbklaaGreatOPd
namespace Go.Proofs.YtkhdejjompbklaaGreat.Sx
open Go
set_option linter.unusedVariables false
set_option linter.unusedSimpArgs false
theorem sorted_uniq {α : Type} {R : α → α → Prop} (as : ∀ {a b}, R a b → ¬ R b a) : ∀ {l1 l2 : List α}, l1.Pairwise R → l2.Pairwise R → (∀ x, x ∈ l1 ↔ x ∈ l2) → l1 = l2
  | [], [], _, _, _ => rfl
  | [], b :: t2, _, _, h => by have := (h b).2 List.mem_cons_self; simp at this
  | a :: t1, [], _, _, h => by have := (h a).1 List.mem_cons_self; simp at this
  | a :: t1, b :: t2, h1, h2, h => by
    rw [List.pairwise_cons] at h1 h2
    have e : a = b := by
      rcases List.mem_cons.1 ((h a).1 List.mem_cons_self) with e | ha
      · exact e
      · rcases List.mem_cons.1 ((h b).2 List.mem_cons_self) with e | hb
        · exact e.symm
        · exact absurd (h1.1 b hb) (as (h2.1 a ha))
    subst e
    have irr : ¬ R a a := fun r => as r r
    have ht : t1 = t2 := sorted_uniq as h1.2 h2.2 fun x => by
      constructor
      · intro hx
        rcases List.mem_cons.1 ((h x).1 (List.mem_cons_of_mem _ hx)) with e | hx2
        · subst e; exact absurd (h1.1 x hx) irr
        · exact hx2
      · intro hx
        rcases List.mem_cons.1 ((h x).2 (List.mem_cons_of_mem _ hx)) with e | hx2
        · subst e; exact absurd (h2.1 x hx) irr
        · exact hx2
    rw [ht]
theorem ltD.asymm {a b : List Int} (h : ltD a b) : ¬ ltD b a := by
  obtain ⟨i, h1, x, y, h2, h3, h4⟩ := h
  rintro ⟨j, k1, u, v, k2, k3, k4⟩
  rcases Nat.lt_trichotomy i j with h | h | h
  · have h5 : b[i]? = a[i]? := by
      have := congrArg (fun l => l[i]?) k1
      simpa [List.getElem?_take, h] using this
    rw [h2, h3] at h5
    have := Option.some.inj h5
    omega
  · subst h
    rw [h3] at k2; rw [h2] at k3
    have := Option.some.inj k2
    have := Option.some.inj k3
    omega
  · have h5 : a[j]? = b[j]? := by
      have := congrArg (fun l => l[j]?) h1
      simpa [List.getElem?_take, h] using this
    rw [k2, k3] at h5
    have := Option.some.inj h5
    omega
def ltK (a b : Ky) : Prop := ltD (dl a) (dl b)
theorem ltK.asymm {a b : Ky} (h : ltK a b) : ¬ ltK b a := ltD.asymm h
theorem undK_sorted {K : List (Ky × Int)} {k : Ky} {n : Int} (hK : ∀ e ∈ K, WfK e.1) : (undK' K k n).Pairwise ltK := by
  unfold undK'
  split
  · rename_i hc
    have hpl : ((dl k).take n.toNat).length = n.toNat := by rw [List.length_take, dl_len]; omega
    rw [List.pairwise_map]
    refine undL_sorted.imp_of_mem fun {a b} ha hb h => ?_
    obtain ⟨e1, _, h1, h2⟩ := undL_key hK (by rw [hpl]; omega) hc.2.2 ha
    obtain ⟨e2, _, h3, h4⟩ := undL_key hK (by rw [hpl]; omega) hc.2.2 hb
    unfold ltK
    rw [h2, h4, h1, h3]; exact h
  · exact List.Pairwise.nil
theorem undK_uniq {K : List (Ky × Int)} {k : Ky} {n : Int} (hK : ∀ e ∈ K, WfK e.1) {l : List Ky} (hs : l.Pairwise ltK) (hm : ∀ y, y ∈ l ↔ y ∈ undK' K k n) : l = undK' K k n := sorted_uniq ltK.asymm hs (undK_sorted hK) hm
theorem undK_mem2 {K : List (Ky × Int)} {k y : Ky} {n : Int} (hK : ∀ e ∈ K, WfK e.1) : y ∈ undK' K k n ↔ (0 ≤ n ∧ n ≤ 26) ∧ has K y ∧ (dl y).take n.toNat = (dl k).take n.toNat := by
  constructor
  · intro h
    exact (undK_mem hK (und_has hK h).2).1 h
  · intro h
    obtain ⟨e, he, h9⟩ := h.2.1
    exact (undK_mem hK (h9 ▸ hK e he)).2 h
theorem undK_same {K M : List (Ky × Int)} {k : Ky} {n : Int} (hK : ∀ e ∈ K, WfK e.1) (hM : ∀ e ∈ M, WfK e.1) (h : ∀ y, has K y ↔ has M y) : undK' K k n = undK' M k n :=
  undK_uniq hM (undK_sorted hK) fun y => by rw [undK_mem2 hK, undK_mem2 hM, h y]
theorem ltK.first {a b : Ky} (h : ltK a b) {d : Nat} (hd : d ≤ 26) (he : ∀ j, j < d → dig a j = dig b j) : d < 26 ∧ (dig a d ≠ dig b d → dig a d < dig b d) := by
  obtain ⟨i, h1, x, y, h2, h3, h4⟩ := h
  have hi : i < 26 := by
    rcases Nat.lt_or_ge i 26 with h | h
    · exact h
    · rw [List.getElem?_eq_none (by rw [dl_len]; exact h)] at h2; exact absurd h2 (by simp)
  rw [dl_get hi] at h2 h3
  have e2 := Option.some.inj h2
  have e3 := Option.some.inj h3
  have hdi : d ≤ i := by
    rcases Nat.lt_or_ge i d with h | h
    · have := he i h; omega
    · exact h
  refine ⟨by omega, fun hne => ?_⟩
  rcases Nat.lt_or_ge d i with h | h
  · exfalso
    have h5 := congrArg (fun l => l[d]?) h1
    simp only [List.getElem?_take, h, if_true] at h5
    rw [dl_get (by omega), dl_get (by omega)] at h5
    exact hne (Option.some.inj h5)
  · have : d = i := by omega
    subst this; omega
theorem turn_onto {N m t : Nat} (hm : m < N) : ∃ j, j < N ∧ (N - 1 - j + t) % N = m := by
  refine ⟨(N - 1 + t - m) % N, Nat.mod_lt _ (by omega), ?_⟩
  have h1 := Nat.div_add_mod (N - 1 + t - m) N
  have h2 := Nat.mod_lt (N - 1 + t - m) (show 0 < N by omega)
  generalize (N - 1 + t - m) % N = j at h1 h2
  generalize (N - 1 + t - m) / N = q at h1
  have h3 : N - 1 - j + t = m + N * q := by omega
  rw [h3, Nat.add_mul_mod_self_left, Nat.mod_eq_of_lt hm]
theorem putK_has2 {K : List (Ky × Int)} {k : Ky} {x most : Int} {i : Nat} (h : KI K i) (hl : (i : Int) < most) (y : Ky) : has (putK K k x most) y ↔ has K y ∨ y = k :=
  putK_mem (by have := h.le; omega) y
def AllPut (ks : List Ky) (f : Nat → Nat) (K : List (Ky × Int)) (i : Nat) : Prop := KI K i ∧ ∀ y, has K y ↔ ∃ j, j < i ∧ ks[f j]? = some y
theorem AllPut.nil {ks : List Ky} {f : Nat → Nat} : AllPut ks f [] 0 := ⟨KI.nil, fun y => ⟨fun ⟨e, h, _⟩ => by simp at h, fun ⟨j, h, _⟩ => by omega⟩⟩
theorem AllPut.put {ks : List Ky} {f : Nat → Nat} {K : List (Ky × Int)} {i : Nat} {k : Ky} {x most : Int} (h : AllPut ks f K i) (hk : WfK k) (hf : ks[f i]? = some k) (hl : (i : Int) < most) : AllPut ks f (putK K k x most) (i + 1) := by
  refine ⟨h.1.put hk, fun y => ?_⟩
  rw [putK_has2 h.1 hl, h.2 y]
  constructor
  · rintro (⟨j, hj, h1⟩ | rfl)
    · exact ⟨j, by omega, h1⟩
    · exact ⟨i, by omega, hf⟩
  · rintro ⟨j, hj, h1⟩
    by_cases e : j = i
    · subst e; rw [hf] at h1; exact .inr (Option.some.inj h1).symm
    · exact .inl ⟨j, by omega, h1⟩
theorem AllPut.same {ks : List Ky} {t : Nat} {K M : List (Ky × Int)} (h : AllPut ks (fun j => j) K ks.length) (h' : AllPut ks (fun j => (ks.length - 1 - j + t) % ks.length) M ks.length) (y : Ky) : has K y ↔ has M y := by
  rw [h.2 y, h'.2 y]
  constructor
  · rintro ⟨j, hj, h1⟩
    obtain ⟨i, hi, h2⟩ := turn_onto (t := t) hj
    exact ⟨i, hi, (congrArg (fun m => ks[m]?) h2).trans h1⟩
  · rintro ⟨j, hj, h1⟩
    exact ⟨_, Nat.mod_lt _ (by omega), h1⟩
end Go.Proofs.YtkhdejjompbklaaGreat.Sx
namespace Go.Proofs.YtkhdejjompbklaaGreat.Sx
open Go
set_option linter.unusedVariables false
set_option linter.unusedSimpArgs false
theorem take_alike {a b : Ky} : ∀ {n : Nat}, n ≤ 26 → ((dl a).take n = (dl b).take n ↔ ∀ j, j < n → dig a j = dig b j)
  | 0, _ => by simp
  | n + 1, h => by
    rw [dl_take (by omega), dl_take (by omega)]
    constructor
    · intro e j hj
      obtain ⟨e1, e2⟩ := snoc_inj e
      by_cases hjn : j = n
      · subst hjn; exact e2
      · exact (take_alike (by omega)).1 e1 j (by omega)
    · intro e
      rw [(take_alike (n := n) (by omega)).2 fun j hj => e j (by omega), e n (by omega)]
end Go.Proofs.YtkhdejjompbklaaGreat.Sx
namespace Go.Proofs.YtkhdejjompbklaaGreat.Sx
open Go
set_option linter.unusedVariables false
set_option linter.unusedSimpArgs false
end Go.Proofs.YtkhdejjompbklaaGreat.Sx
namespace Go.Proofs.YtkhdejjompbklaaGreat.Sx
open Go
set_option linter.unusedVariables false
set_option linter.unusedSimpArgs false
def upto (p : Nat → Bool) : Nat → Nat
  | 0 => 0
  | n + 1 => if upto p n = n ∧ p n = true then n + 1 else upto p n
theorem upto_spec (p : Nat → Bool) : ∀ n, upto p n ≤ n ∧ (∀ j, j < upto p n → p j = true) ∧ (upto p n < n → p (upto p n) = false)
  | 0 => ⟨Nat.le_refl _, fun j h => by simp [upto] at h, fun h => by simp [upto] at h⟩
  | n + 1 => by
    obtain ⟨h1, h2, h3⟩ := upto_spec p n
    unfold upto
    split
    · rename_i h
      refine ⟨Nat.le_refl _, fun j hj => ?_, fun h => by omega⟩
      by_cases e : j = n
      · subst e; exact h.2
      · exact h2 j (by omega)
    · rename_i h
      refine ⟨by omega, h2, fun _ => ?_⟩
      by_cases e : upto p n = n
      · rw [e]
        cases hp : p n with
        | false => rfl
        | true => exact absurd ⟨e, hp⟩ h
      · exact h3 (by omega)
def al (a b : Ky) : Nat := upto (fun j => decide (dig a j = dig b j)) 26
section
variable {a b c : Ky}
theorem al_spec : al a b ≤ 26 ∧ (∀ j, j < al a b → dig a j = dig b j) ∧ (al a b < 26 → dig a (al a b) ≠ dig b (al a b)) := by
  have h := upto_spec (fun j => decide (dig a j = dig b j)) 26
  unfold al
  obtain ⟨m, hm⟩ : ∃ m, upto (fun j => decide (dig a j = dig b j)) 26 = m := ⟨_, rfl⟩
  rw [hm] at h ⊢
  exact ⟨h.1, fun j hj => of_decide_eq_true (h.2.1 j hj), fun hl => of_decide_eq_false (h.2.2 hl)⟩
theorem al_le : al a b ≤ 26 := al_spec.1
theorem al_eq {j : Nat} (h : j < al a b) : dig a j = dig b j := al_spec.2.1 j h
theorem al_ne (h : al a b < 26) : dig a (al a b) ≠ dig b (al a b) := al_spec.2.2 h
theorem al_uniq {m : Nat} (h : m ≤ 26) (he : ∀ j, j < m → dig a j = dig b j) (hn : m < 26 → dig a m ≠ dig b m) : al a b = m := by
  rcases Nat.lt_trichotomy (al a b) m with h1 | h1 | h1
  · exact absurd (he _ h1) (al_ne (by omega))
  · exact h1
  · have := al_le (a := a) (b := b)
    exact absurd (al_eq h1) (hn (by omega))
theorem ltK_iff : ltK a b ↔ al a b < 26 ∧ dig a (al a b) < dig b (al a b) := by
  constructor
  · intro h
    have h1 := h.first (d := al a b) al_le fun j hj => al_eq hj
    exact ⟨h1.1, h1.2 (al_ne h1.1)⟩
  · rintro ⟨h1, h2⟩
    exact ⟨al a b, (take_alike al_le).2 fun j hj => al_eq hj, _, _, dl_get h1, dl_get h1, h2⟩
theorem ltK.trans (h1 : ltK a b) (h2 : ltK b c) : ltK a c := by
  rw [ltK_iff] at h1 h2
  obtain ⟨i1, i2⟩ := h1
  obtain ⟨j1, j2⟩ := h2
  rcases Nat.lt_trichotomy (al a b) (al b c) with h | h | h
  · have e : al a c = al a b := al_uniq (by omega) (fun j hj => (al_eq hj).trans (al_eq (by omega))) (fun _ => by rw [← al_eq h]; omega)
    exact ltK_iff.2 ⟨by omega, by rw [e, ← al_eq h]; exact i2⟩
  · have e : al a c = al a b := al_uniq (by omega) (fun j hj => (al_eq hj).trans (al_eq (by omega))) (fun _ => by rw [h] at i2 ⊢; omega)
    exact ltK_iff.2 ⟨by omega, by rw [e]; rw [h] at i2 ⊢; omega⟩
  · have e : al a c = al b c := al_uniq (by omega) (fun j hj => (al_eq (by omega)).trans (al_eq hj)) (fun _ => by rw [al_eq h]; omega)
    exact ltK_iff.2 ⟨by omega, by rw [e, al_eq h]; exact j2⟩
end
abbrev k0 : Ky := (0, 0, 0, 0, 0)
def srt (K : List (Ky × Int)) : List Ky := undK' K k0 0
def vals (K : List (Ky × Int)) : List Int := (srt K).map fun k => (findV K k).getD 0
structure Good (K : List (Ky × Int)) : Prop where
  wf : ∀ e ∈ K, WfK e.1
  nd : (K.map Prod.fst).Nodup
section
variable {K : List (Ky × Int)} {k : Ky}
theorem Good.nil : Good [] := ⟨by simp, by simp⟩
theorem Good.snoc (h : Good K) (hk : WfK k) (hn : ¬ has K k) (x : Int) : Good (K ++ [(k, x)]) :=
  have h1 : KI (K ++ [(k, x)]) (K.length + 1) := KI.snoc ⟨Nat.le_refl _, h.nd, h.wf⟩ hk hn
  ⟨h1.wf, h1.nd⟩
theorem Good.put (h : Good K) (hk : WfK k) (x most : Int) : Good (putK K k x most) :=
  have h1 := KI.put (x := x) (most := most) ⟨Nat.le_refl K.length, h.nd, h.wf⟩ hk
  ⟨h1.wf, h1.nd⟩
theorem Good.out (h : Good K) (k : Ky) : Good (outK K k) := ⟨fun e he => h.wf e (List.mem_filter.1 he).1, h.nd.sublist (List.filter_sublist.map _)⟩
end
end Go.Proofs.YtkhdejjompbklaaGreat.Sx
