/-
  The keys under a beginning are as many as are counted, and those under its 16 continuations together; keys with another digit. Nothing of a program stands here.
-/
import Derived.Test.YtmcfmhiadlkglaaTrie14
namespace Go.Proofs.Ytmcfmhiadlkglaa.Sx
open Go
set_option linter.unusedVariables false
set_option linter.unusedSimpArgs false
theorem und_count {K : List (Ky × Int)} {k : Ky} {n : Int} (hK : ∀ e ∈ K, WfK e.1) (hnd : (K.map Prod.fst).Nodup) (hn : 0 ≤ n ∧ n ≤ 26) : (undK' K k n).length = cK K ((dl k).take n.toNat) := by
  have hpl : ((dl k).take n.toNat).length = n.toNat := by rw [List.length_take, dl_len]; omega
  have e : cK K ((dl k).take n.toNat) = ((K.filter fun e => ((dl k).take n.toNat).isPrefixOf (dl e.1)).map Prod.fst).length := by
    rw [List.length_map, ← List.countP_eq_length_filter]; rfl
  have hmem : ∀ y, y ∈ undK' K k n ↔ y ∈ (K.filter fun e => ((dl k).take n.toNat).isPrefixOf (dl e.1)).map Prod.fst := fun y => by
    rw [undK_mem2 hK, List.mem_map]
    constructor
    · rintro ⟨_, ⟨e, he, rfl⟩, h⟩
      exact ⟨e, List.mem_filter.2 ⟨he, isPrefix_iff.2 (by rw [hpl]; exact h.symm)⟩, rfl⟩
    · rintro ⟨e, he, rfl⟩
      obtain ⟨h1, h2⟩ := List.mem_filter.1 he
      have h3 := isPrefix_iff.1 h2
      rw [hpl] at h3
      exact ⟨hn, ⟨e, h1, rfl⟩, h3.symm⟩
  rw [e]
  exact Nat.le_antisymm (nodup_le2 (undK_nodup hK) fun y h => (hmem y).1 h) (nodup_le2 (hnd.sublist (List.filter_sublist.map _)) fun y h => (hmem y).2 h)
def partsTo (f : Nat → List Ky) (x : Nat) : List Ky := (List.range x).flatMap f
theorem partsTo_zero (f : Nat → List Ky) : partsTo f 0 = [] := rfl
theorem partsTo_succ (f : Nat → List Ky) (x : Nat) : partsTo f (x + 1) = partsTo f x ++ f x := by unfold partsTo; rw [List.range_succ, List.flatMap_append]; simp
theorem flatMap_congr' {α β : Type} {f g : α → List β} : ∀ {l : List α}, (∀ x ∈ l, f x = g x) → l.flatMap f = l.flatMap g
  | [], _ => rfl
  | a :: t, h => by rw [List.flatMap_cons, List.flatMap_cons, h a List.mem_cons_self, flatMap_congr' fun x hx => h x (List.mem_cons_of_mem _ hx)]
theorem und_parts {K : List (Ky × Int)} {k : Ky} {n : Nat} (hn : n < 26) (x : Nat → Ky) (hx : ∀ d, d < 16 → (dl (x d)).take (n + 1) = (dl k).take n ++ [(d : Int)]) :
    partsTo (fun d => undK' K (x d) ((n : Int) + 1)) 16 = undK' K k (n : Int) := by
  have e1 : ∀ d, d < 16 → undK' K (x d) ((n : Int) + 1) = if 0 < cK K ((dl k).take n ++ [(d : Int)]) then (undL (cK K) (25 - n) ((dl k).take n ++ [(d : Int)])).map keyD else [] := fun d hd => by
    unfold undK'
    rw [show ((n : Int) + 1).toNat = n + 1 from by omega, hx d hd, show 26 - (n + 1) = 25 - n from by omega]
    by_cases hc : 0 < cK K ((dl k).take n ++ [(d : Int)])
    · rw [if_pos hc, if_pos ⟨by omega, by omega, hc⟩]
    · rw [if_neg hc, if_neg (fun h => hc h.2.2)]
  unfold partsTo
  rw [flatMap_congr' (fun d hd => e1 d (List.mem_range.1 hd))]
  unfold undK'
  rw [Int.toNat_natCast]
  by_cases hc : 0 < cK K ((dl k).take n)
  · rw [if_pos ⟨by omega, by omega, hc⟩, show 26 - n = 25 - n + 1 from by omega]
    show _ = ((List.range 16).flatMap _).map keyD
    rw [List.map_flatMap]
    refine flatMap_congr' fun d _ => ?_
    by_cases h : 0 < cK K ((dl k).take n ++ [(d : Int)])
    · simp only [if_pos h]
    · simp only [if_neg h, List.map_nil]
  · rw [if_neg (fun h => hc h.2.2), List.flatMap_eq_nil_iff]
    intro d _
    have := cK_mono K ((dl k).take n) (d : Int)
    rw [if_neg (by omega)]
/-! ### those that begin alike -/
theorem take_alike {a b : Ky} : ∀ {n : Nat}, n ≤ 26 → ((dl a).take n = (dl b).take n ↔ ∀ j, j < n → dig a j = dig b j)
  | 0, _ => by simp
  | n + 1, h => by
    rw [dl_take (by omega), dl_take (by omega)]
    constructor
    · intro e j hj
      obtain ⟨e1, e2⟩ := snoc_inj e
      by_cases hjn : j = n
      · subst hjn; exact e2
      · exact (take_alike (by omega)).1 e1 j (by omega)
    · intro e
      rw [(take_alike (n := n) (by omega)).2 fun j hj => e j (by omega), e n (by omega)]
def alikeB (k : Ky) (n : Nat) (y : Ky) : Bool := decide (∀ j, j < n → dig y j = dig k j)
theorem alikeB_succ {k y : Ky} {n : Nat} : alikeB k (n + 1) y = (alikeB k n y && decide (dig y n = dig k n)) := by
  unfold alikeB
  rw [Bool.eq_iff_iff, Bool.and_eq_true, decide_eq_true_iff, decide_eq_true_iff, decide_eq_true_iff]
  constructor
  · intro h; exact ⟨fun j hj => h j (by omega), h n (by omega)⟩
  · rintro ⟨h1, h2⟩ j hj
    by_cases e : j = n
    · subst e; exact h2
    · exact h1 j (by omega)
theorem und_filter {K : List (Ky × Int)} {k : Ky} {n : Nat} (hK : ∀ e ∈ K, WfK e.1) (hn : n ≤ 26) : (undK' K (0, 0, 0, 0, 0) 0).filter (alikeB k n) = undK' K k (n : Int) := by
  refine undK_uniq hK ((undK_sorted hK).filter _) fun y => ?_
  rw [List.mem_filter, undK_mem2 hK, undK_mem2 hK, Int.toNat_natCast, take_alike hn, alikeB, decide_eq_true_iff]
  constructor
  · rintro ⟨⟨_, h1, _⟩, h2⟩; exact ⟨⟨by omega, by omega⟩, h1, h2⟩
  · rintro ⟨_, h1, h2⟩; exact ⟨⟨⟨by omega, by omega⟩, h1, rfl⟩, h2⟩
def cntTo (p : Ky → Bool) (ks : List Ky) (i : Nat) : Nat := ((ks.take i).filter p).length
theorem cntTo_at {p : Ky → Bool} {ks : List Ky} {i : Nat} (hi : i < ks.length) (hp : p ks[i] = true) : (ks.filter p)[cntTo p ks i]? = some ks[i] := by
  have h1 : ks.filter p = (ks.take i).filter p ++ (ks[i] :: (ks.drop (i + 1)).filter p) := by
    conv => lhs; rw [← List.take_append_drop i ks, List.filter_append, List.drop_eq_getElem_cons hi]
    rw [List.filter_cons, if_pos hp]
  rw [h1, cntTo, List.getElem?_append_right (Nat.le_refl _)]
  simp
theorem cntTo_yes {p : Ky → Bool} {ks : List Ky} {i : Nat} (hi : i < ks.length) (hp : p ks[i] = true) : cntTo p ks (i + 1) = cntTo p ks i + 1 := by
  unfold cntTo
  rw [List.take_succ_eq_append_getElem hi, List.filter_append, List.length_append, List.filter_cons, if_pos hp]; rfl
theorem cntTo_no {p : Ky → Bool} {ks : List Ky} {i : Nat} (hi : i < ks.length) (hp : ¬ p ks[i] = true) : cntTo p ks (i + 1) = cntTo p ks i := by
  unfold cntTo
  rw [List.take_succ_eq_append_getElem hi, List.filter_append, List.length_append, List.filter_cons, if_neg hp]; simp
theorem cntTo_all {p : Ky → Bool} {ks : List Ky} : cntTo p ks ks.length = (ks.filter p).length := by rw [cntTo, List.take_length]
end Go.Proofs.Ytmcfmhiadlkglaa.Sx
