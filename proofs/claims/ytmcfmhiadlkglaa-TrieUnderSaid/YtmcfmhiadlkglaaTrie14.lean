/-
  The keys there are, in the order of their digits, are told by which keys there are. Nothing of a program stands here.
-/
import Derived.Test.YtmcfmhiadlkglaaTrie13
namespace Go.Proofs.Ytmcfmhiadlkglaa.Sx
open Go
set_option linter.unusedVariables false
set_option linter.unusedSimpArgs false
theorem sorted_uniq {α : Type} {R : α → α → Prop} (as : ∀ {a b}, R a b → ¬ R b a) : ∀ {l1 l2 : List α}, l1.Pairwise R → l2.Pairwise R → (∀ x, x ∈ l1 ↔ x ∈ l2) → l1 = l2
  | [], [], _, _, _ => rfl
  | [], b :: t2, _, _, h => by have := (h b).2 List.mem_cons_self; simp at this
  | a :: t1, [], _, _, h => by have := (h a).1 List.mem_cons_self; simp at this
  | a :: t1, b :: t2, h1, h2, h => by
    rw [List.pairwise_cons] at h1 h2
    have e : a = b := by
      rcases List.mem_cons.1 ((h a).1 List.mem_cons_self) with e | ha
      · exact e
      · rcases List.mem_cons.1 ((h b).2 List.mem_cons_self) with e | hb
        · exact e.symm
        · exact absurd (h1.1 b hb) (as (h2.1 a ha))
    subst e
    have irr : ¬ R a a := fun r => as r r
    have ht : t1 = t2 := sorted_uniq as h1.2 h2.2 fun x => by
      constructor
      · intro hx
        rcases List.mem_cons.1 ((h x).1 (List.mem_cons_of_mem _ hx)) with e | hx2
        · subst e; exact absurd (h1.1 x hx) irr
        · exact hx2
      · intro hx
        rcases List.mem_cons.1 ((h x).2 (List.mem_cons_of_mem _ hx)) with e | hx2
        · subst e; exact absurd (h2.1 x hx) irr
        · exact hx2
    rw [ht]
theorem ltD.asymm {a b : List Int} (h : ltD a b) : ¬ ltD b a := by
  obtain ⟨i, h1, x, y, h2, h3, h4⟩ := h
  rintro ⟨j, k1, u, v, k2, k3, k4⟩
  rcases Nat.lt_trichotomy i j with h | h | h
  · have h5 : b[i]? = a[i]? := by
      have := congrArg (fun l => l[i]?) k1
      simpa [List.getElem?_take, h] using this
    rw [h2, h3] at h5
    have := Option.some.inj h5
    omega
  · subst h
    rw [h3] at k2; rw [h2] at k3
    have := Option.some.inj k2
    have := Option.some.inj k3
    omega
  · have h5 : a[j]? = b[j]? := by
      have := congrArg (fun l => l[j]?) h1
      simpa [List.getElem?_take, h] using this
    rw [k2, k3] at h5
    have := Option.some.inj h5
    omega
/-- One key comes before another one. -/
def ltK (a b : Ky) : Prop := ltD (dl a) (dl b)
theorem ltK.asymm {a b : Ky} (h : ltK a b) : ¬ ltK b a := ltD.asymm h
theorem undK_sorted {K : List (Ky × Int)} {k : Ky} {n : Int} (hK : ∀ e ∈ K, WfK e.1) : (undK' K k n).Pairwise ltK := by
  unfold undK'
  split
  · rename_i hc
    have hpl : ((dl k).take n.toNat).length = n.toNat := by rw [List.length_take, dl_len]; omega
    rw [List.pairwise_map]
    refine undL_sorted.imp_of_mem fun {a b} ha hb h => ?_
    obtain ⟨e1, _, h1, h2⟩ := undL_key hK (by rw [hpl]; omega) hc.2.2 ha
    obtain ⟨e2, _, h3, h4⟩ := undL_key hK (by rw [hpl]; omega) hc.2.2 hb
    unfold ltK
    rw [h2, h4, h1, h3]; exact h
  · exact List.Pairwise.nil
theorem undK_uniq {K : List (Ky × Int)} {k : Ky} {n : Int} (hK : ∀ e ∈ K, WfK e.1) {l : List Ky} (hs : l.Pairwise ltK) (hm : ∀ y, y ∈ l ↔ y ∈ undK' K k n) : l = undK' K k n := sorted_uniq ltK.asymm hs (undK_sorted hK) hm
theorem undK_mem2 {K : List (Ky × Int)} {k y : Ky} {n : Int} (hK : ∀ e ∈ K, WfK e.1) : y ∈ undK' K k n ↔ (0 ≤ n ∧ n ≤ 26) ∧ has K y ∧ (dl y).take n.toNat = (dl k).take n.toNat := by
  constructor
  · intro h
    exact (undK_mem hK (und_has hK h).2).1 h
  · intro h
    obtain ⟨e, he, h9⟩ := h.2.1
    exact (undK_mem hK (h9 ▸ hK e he)).2 h
theorem undK_same {K M : List (Ky × Int)} {k : Ky} {n : Int} (hK : ∀ e ∈ K, WfK e.1) (hM : ∀ e ∈ M, WfK e.1) (h : ∀ y, has K y ↔ has M y) : undK' K k n = undK' M k n :=
  undK_uniq hM (undK_sorted hK) fun y => by rw [undK_mem2 hK, undK_mem2 hM, h y]
theorem nodes_sub {K M : List (Ky × Int)} (h : ∀ y, has K y → has M y) : nodesOf K ≤ nodesOf M := by
  unfold nodesOf
  refine nodup_le2 (nodup_ddp _) fun x hx => mem_ddp.2 ?_
  have h1 := pres_iff.1 (mem_ddp.1 hx)
  refine pres_iff.2 ?_
  rcases h1 with h1 | ⟨k, hk, h1⟩
  · exact .inl h1
  · obtain ⟨e, he, h2⟩ := List.mem_map.1 hk
    obtain ⟨e', he', h3⟩ := h k ⟨e, he, h2⟩
    exact .inr ⟨k, List.mem_map.2 ⟨e', he', h3⟩, h1⟩
theorem nodes_same {K M : List (Ky × Int)} (h : ∀ y, has K y ↔ has M y) : nodesOf K = nodesOf M := Nat.le_antisymm (nodes_sub fun y => (h y).1) (nodes_sub fun y => (h y).2)
/-- The first digit in which they differ is less. -/
theorem ltK.first {a b : Ky} (h : ltK a b) {d : Nat} (hd : d ≤ 26) (he : ∀ j, j < d → dig a j = dig b j) : d < 26 ∧ (dig a d ≠ dig b d → dig a d < dig b d) := by
  obtain ⟨i, h1, x, y, h2, h3, h4⟩ := h
  have hi : i < 26 := by
    rcases Nat.lt_or_ge i 26 with h | h
    · exact h
    · rw [List.getElem?_eq_none (by rw [dl_len]; exact h)] at h2; exact absurd h2 (by simp)
  rw [dl_get hi] at h2 h3
  have e2 := Option.some.inj h2
  have e3 := Option.some.inj h3
  have hdi : d ≤ i := by
    rcases Nat.lt_or_ge i d with h | h
    · have := he i h; omega
    · exact h
  refine ⟨by omega, fun hne => ?_⟩
  rcases Nat.lt_or_ge d i with h | h
  · exfalso
    have h5 := congrArg (fun l => l[d]?) h1
    simp only [List.getElem?_take, h, if_true] at h5
    rw [dl_get (by omega), dl_get (by omega)] at h5
    exact hne (Option.some.inj h5)
  · have : d = i := by omega
    subst this; omega
/-- Every index is reached from the other end on, turned. -/
theorem turn_onto {N m t : Nat} (hm : m < N) : ∃ j, j < N ∧ (N - 1 - j + t) % N = m := by
  refine ⟨(N - 1 + t - m) % N, Nat.mod_lt _ (by omega), ?_⟩
  have h1 := Nat.div_add_mod (N - 1 + t - m) N
  have h2 := Nat.mod_lt (N - 1 + t - m) (show 0 < N by omega)
  generalize (N - 1 + t - m) % N = j at h1 h2
  generalize (N - 1 + t - m) / N = q at h1
  have h3 : N - 1 - j + t = m + N * q := by omega
  rw [h3, Nat.add_mul_mod_self_left, Nat.mod_eq_of_lt hm]
theorem putK_has2 {K : List (Ky × Int)} {k : Ky} {x most : Int} {i : Nat} (h : KI K i) (hl : (i : Int) < most) (y : Ky) : has (putK K k x most) y ↔ has K y ∨ y = k :=
  putK_mem (by have := h.le; omega) y
/-- What was put, forwards; and in any order. -/
def AllPut (ks : List Ky) (f : Nat → Nat) (K : List (Ky × Int)) (i : Nat) : Prop := KI K i ∧ ∀ y, has K y ↔ ∃ j, j < i ∧ ks[f j]? = some y
theorem AllPut.nil {ks : List Ky} {f : Nat → Nat} : AllPut ks f [] 0 := ⟨KI.nil, fun y => ⟨fun ⟨e, h, _⟩ => by simp at h, fun ⟨j, h, _⟩ => by omega⟩⟩
theorem AllPut.put {ks : List Ky} {f : Nat → Nat} {K : List (Ky × Int)} {i : Nat} {k : Ky} {x most : Int} (h : AllPut ks f K i) (hk : WfK k) (hf : ks[f i]? = some k) (hl : (i : Int) < most) : AllPut ks f (putK K k x most) (i + 1) := by
  refine ⟨h.1.put hk, fun y => ?_⟩
  rw [putK_has2 h.1 hl, h.2 y]
  constructor
  · rintro (⟨j, hj, h1⟩ | rfl)
    · exact ⟨j, by omega, h1⟩
    · exact ⟨i, by omega, hf⟩
  · rintro ⟨j, hj, h1⟩
    by_cases e : j = i
    · subst e; rw [hf] at h1; exact .inr (Option.some.inj h1).symm
    · exact .inl ⟨j, by omega, h1⟩
theorem AllPut.same {ks : List Ky} {t : Nat} {K M : List (Ky × Int)} (h : AllPut ks (fun j => j) K ks.length) (h' : AllPut ks (fun j => (ks.length - 1 - j + t) % ks.length) M ks.length) (y : Ky) : has K y ↔ has M y := by
  rw [h.2 y, h'.2 y]
  constructor
  · rintro ⟨j, hj, h1⟩
    obtain ⟨i, hi, h2⟩ := turn_onto (t := t) hj
    exact ⟨i, hi, (congrArg (fun m => ks[m]?) h2).trans h1⟩
  · rintro ⟨j, hj, h1⟩
    exact ⟨_, Nat.mod_lt _ (by omega), h1⟩
end Go.Proofs.Ytmcfmhiadlkglaa.Sx
