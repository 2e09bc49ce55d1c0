/-
  How much a bucket may give: the bound over all times from which one counts. Plain integers; nothing of a program stands here.
-/
import Derived.Test.YtioacnbpnnabaaaBkMath
namespace Go.Proofs.Ytioacnbpnnabaaa.Sx
/-- The tokens of the grants from a time on. -/
def sumF (fr : Int) : List (Int × Int) → Int
  | [] => 0
  | g :: gs => (if fr ≤ g.1 then g.2 else 0) + sumF fr gs
theorem sumF_append (fr : Int) (g : Int × Int) : ∀ gs, sumF fr (gs ++ [g]) = sumF fr gs + (if fr ≤ g.1 then g.2 else 0)
  | [] => by simp [sumF]
  | x :: xs => by simp only [List.cons_append, sumF, sumF_append fr g xs]; omega
theorem sumF_zero {fr : Int} : ∀ {gs : List (Int × Int)}, (∀ g ∈ gs, g.1 < fr) → sumF fr gs = 0
  | [], _ => rfl
  | x :: xs, h => by
    have h1 := h x List.mem_cons_self
    rw [sumF, if_neg (by omega), sumF_zero fun g hg => h g (List.mem_cons_of_mem _ hg)]; rfl
theorem sumF_bd {fr B : Int} : ∀ {gs : List (Int × Int)}, (∀ g ∈ gs, 1 ≤ g.2 ∧ g.2 ≤ B) → 0 ≤ B → 0 ≤ sumF fr gs ∧ sumF fr gs ≤ B * gs.length
  | [], _, _ => by simp [sumF]
  | x :: xs, h, hB => by
    have h1 := h x List.mem_cons_self
    have h2 := sumF_bd (fr := fr) (gs := xs) (fun g hg => h g (List.mem_cons_of_mem _ hg)) hB
    rw [sumF, List.length_cons, Int.natCast_add, Int.mul_add]
    split <;> constructor <;> omega
theorem sumF_take {fr : Int} {gs : List (Int × Int)} {k : Nat} (hk : k < gs.length) : sumF fr (gs.take (k + 1)) = sumF fr (gs.take k) + (if fr ≤ gs[k].1 then gs[k].2 else 0) := by
  rw [List.take_succ_eq_append_getElem hk, sumF_append]
/-- What 'allowed' asks. -/
def okT (t p b now n : Int) (gs : List (Int × Int)) (fr : Int) : Prop := (n + sumF fr gs) * p ≤ b * p + (now - fr) * t
instance (t p b now n : Int) (gs : List (Int × Int)) (fr : Int) : Decidable (okT t p b now n gs fr) := by unfold okT; infer_instance
def Alw (t p b st now n : Int) (gs : List (Int × Int)) : Prop := ∀ fr ∈ st :: now :: gs.map (·.1), okT t p b now n gs fr
instance (t p b st now n : Int) (gs : List (Int × Int)) : Decidable (Alw t p b st now n gs) := by unfold Alw; infer_instance
structure Inv (t p b st : Int) (gs : List (Int × Int)) (lv a : Int) : Prop where
  each : ∀ g ∈ gs, st ≤ g.1 ∧ g.1 ≤ a ∧ 1 ≤ g.2 ∧ g.2 ≤ b
  start : st ≤ a
  law : ∀ T, a ≤ T → ∀ x, x ≤ lvl t p b lv a T ↔ ∀ fr ∈ st :: T :: gs.map (·.1), x + sumF fr gs * p ≤ b * p + (T - fr) * t
theorem Inv.first {t p b st : Int} (h : RR t p b) : Inv t p b st [] (b * p) st := by
  refine ⟨by simp, Int.le_refl _, fun T hT x => ?_⟩
  have h0 := Int.mul_nonneg (show 0 ≤ T - st by omega) (show 0 ≤ t from by have := h.1; omega)
  have e : lvl t p b (b * p) st T = b * p := by unfold lvl; omega
  rw [e]
  constructor
  · intro hx fr hfr
    simp only [List.map_nil, List.mem_cons, List.not_mem_nil, or_false] at hfr
    rcases hfr with rfl | rfl
    · simp only [sumF, Int.zero_mul]; omega
    · simp only [sumF, Int.zero_mul, Int.sub_self]; omega
  · intro h
    have := h T (by simp)
    simp only [sumF, Int.zero_mul, Int.sub_self] at this; omega
theorem Inv.alw {t p b st now n lv a : Int} {gs : List (Int × Int)} (h : Inv t p b st gs lv a) (hn : a ≤ now) : Alw t p b st now n gs ↔ n * p ≤ lvl t p b lv a now := by
  rw [h.law now hn]
  unfold Alw okT
  constructor <;> intro h' fr hfr <;> have := h' fr hfr
  · rw [Int.add_mul] at this; exact this
  · rw [Int.add_mul]; exact this
theorem Inv.next {t p b st now n lv a : Int} {gs : List (Int × Int)} (h : Inv t p b st gs lv a) (hn : a ≤ now) (hp : 0 ≤ p) (n0 : 1 ≤ n) (n1 : n ≤ b) :
    Inv t p b st (gs ++ [(now, n)]) (lvl t p b lv a now - n * p) now := by
  have hle : ∀ fr ∈ st :: now :: gs.map (·.1), fr ≤ now := by
    intro fr hfr
    simp only [List.mem_cons, List.mem_map] at hfr
    rcases hfr with rfl | rfl | ⟨g, hg, rfl⟩
    · have := h.start; omega
    · omega
    · have := (h.each g hg).2.1; omega
  have hS : ∀ fr, fr ≤ now → sumF fr (gs ++ [(now, n)]) * p = sumF fr gs * p + n * p := fun fr hf => by
    rw [sumF_append, if_pos hf, Int.add_mul]
  have hT : ∀ T fr : Int, (T - fr) * t = (T - now) * t + (now - fr) * t := fun T fr => by
    rw [← Int.add_mul]; congr 1; omega
  have hz : ∀ T, now < T → sumF T (gs ++ [(now, n)]) = 0 := fun T hTn => by
    apply sumF_zero
    intro g hg
    simp only [List.mem_append, List.mem_singleton] at hg
    rcases hg with hg | rfl
    · have := (h.each g hg).2.1; omega
    · exact hTn
  have hnp : 0 ≤ n * p := Int.mul_nonneg (by omega) hp
  have hs0 : ∀ fr, 0 ≤ sumF fr gs * p := fun fr => Int.mul_nonneg (sumF_bd (fun g hg => (h.each g hg).2.2) (by omega)).1 hp
  refine ⟨?_, by have := h.start; omega, fun T hTn x => ?_⟩
  · intro g hg
    simp only [List.mem_append, List.mem_singleton] at hg
    rcases hg with hg | rfl
    · have := h.each g hg; have := h.start; omega
    · have := h.start; dsimp only; omega
  · have hlaw := h.law now hn (x + n * p - (T - now) * t)
    have hiff : x ≤ lvl t p b (lvl t p b lv a now - n * p) now T ↔ x + n * p - (T - now) * t ≤ lvl t p b lv a now ∧ x ≤ b * p := by
      rw [show lvl t p b (lvl t p b lv a now - n * p) now T = min (lvl t p b lv a now - n * p + (T - now) * t) (b * p) from rfl]
      constructor
      · intro h'; constructor <;> omega
      · intro h'; omega
    rw [hiff, hlaw]
    simp only [List.map_append, List.map_cons, List.map_nil]
    constructor
    · rintro ⟨h1, h2⟩ fr hfr
      have hcase : fr ∈ st :: now :: gs.map (·.1) ∨ fr = T ∧ now < T := by
        simp only [List.mem_cons, List.mem_append, List.not_mem_nil, or_false] at hfr ⊢
        rcases hfr with h3 | h3 | h3 | h3
        · exact .inl (.inl h3)
        · by_cases h4 : now < T
          · exact .inr ⟨h3, h4⟩
          · exact .inl (.inr (.inl (by omega)))
        · exact .inl (.inr (.inr h3))
        · exact .inl (.inr (.inl h3))
      rcases hcase with h3 | ⟨rfl, h4⟩
      · have h5 := h1 fr h3
        rw [hS fr (hle fr h3), hT T fr]; omega
      · rw [hz _ h4, Int.sub_self, Int.zero_mul, Int.zero_mul]; omega
    · intro h1
      constructor
      · intro fr hfr
        have h5 := h1 fr (by
          simp only [List.mem_cons, List.mem_append, List.not_mem_nil, or_false] at hfr ⊢
          rcases hfr with h3 | h3 | h3
          · exact .inl h3
          · exact .inr (.inr (.inr h3))
          · exact .inr (.inr (.inl h3)))
        rw [hS fr (hle fr hfr), hT T fr] at h5; omega
      · by_cases h4 : now < T
        · have h5 := h1 T (by simp)
          rw [hz _ h4, Int.sub_self, Int.zero_mul, Int.zero_mul] at h5; omega
        · have h5 := h1 now (by simp)
          have e : T = now := by omega
          subst e
          rw [hS _ (Int.le_refl _), Int.sub_self, Int.zero_mul] at h5
          have := hs0 T; omega
theorem bound_take {t p b st now n lv a : Int} {gs : List (Int × Int)} (h : Inv t p b st gs lv a) (hT : RT t p b lv a now) (n0 : 1 ≤ n) (n1 : n ≤ b) :
    ∃ L A E, takeF t p b lv a now n = (L, A, E) ∧ (E = 0 ∧ Alw t p b st now n gs ∧ RB t p b L A ∧ A = now ∧ Inv t p b st (gs ++ [(now, n)]) L now ∨ E = 6 ∧ ¬ Alw t p b st now n gs) := by
  have hb := lvl_bd hT
  have hn := hT.np (show 0 ≤ n by omega) n1
  have ha := h.alw (n := n) hT.2.1
  by_cases hc : lvl t p b lv a now < n * p
  · exact ⟨0, 0, 6, takeF_none hT (by omega) n1 hc, .inr ⟨rfl, fun h' => by have := ha.1 h'; omega⟩⟩
  · exact ⟨_, _, _, takeF_ok hT (by omega) n1 (by omega), .inl ⟨rfl, ha.2 (by omega), ⟨hT.1.1, by omega, by omega, by have := hT.2; have := hT.1.2.2.2.1; omega, hT.2.2⟩, rfl, h.next hT.2.1 (by omega) n0 n1⟩⟩
end Go.Proofs.Ytioacnbpnnabaaa.Sx
