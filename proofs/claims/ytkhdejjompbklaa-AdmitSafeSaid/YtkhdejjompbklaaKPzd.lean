/-
  My plain texts put together into one module.
-/
import Derived.Test.YtkhdejjompbklaaKPzc
import Derived.Test.YtkhdejjompbklaaKPzb
namespace Go.Proofs.Ytkhdejjompbklaa.Sx
open Go
set_option linter.unusedVariables false
set_option linter.unusedSimpArgs false
def Keep (E F : Dk) : Prop := ∀ q ∈ E.T.O, q ∈ F.T.O ∧ q.2 ∉ F.ord
section
variable {S lim : Nat} {t p u : Int} {D E F : Dk} {a n x k : Int} {m : Nat}
theorem Keep.self (h : E.ord = []) : Keep E E := fun q hq => ⟨hq, by rw [h]; simp⟩
theorem Keep.see (h : Keep E F) : Keep E (seeN' S F x) := by
  unfold seeN'
  split
  · rename_i hc
    intro q hq
    obtain ⟨h1, h2⟩ := h q hq
    refine ⟨h1, fun hm => ?_⟩
    rcases List.mem_append.1 (show q.2 ∈ F.ord.erase x.toNat ++ [x.toNat] from hm) with h3 | h3
    · exact h2 (List.mem_of_mem_erase h3)
    · rw [List.mem_singleton] at h3; rw [h3] at h2; exact h2 hc.2
  · exact h
theorem Keep.ass (h : Keep E F) : Keep E (assN S F x) := by
  unfold assN
  split
  · intro q hq
    obtain ⟨h1, h2⟩ := h q hq
    exact ⟨h1, fun hm => h2 (List.mem_of_mem_erase (show q.2 ∈ F.ord.erase x.toNat from hm))⟩
  · exact h
theorem Keep.try (h : Keep E F) (hF : DKF S lim t p u F) (ha : 0 ≤ a ∧ a ≤ 4294967295) : Keep E (tryD lim t p u F n a).2 := by
  unfold tryD
  split
  · exact h
  split
  · exact h
  split
  · exact h
  split
  · rename_i s fs e
    obtain ⟨h3, h4, h5⟩ := hF.w.free (s := s) (by rw [e]; exact List.mem_cons_self)
    intro q hq
    obtain ⟨h1, h2⟩ := h q hq
    refine ⟨?_, fun hm => ?_⟩
    · show q ∈ (addO F.T a s).O
      rw [hF.w.sf.addO_O h3 h4]
      exact List.mem_append.2 (.inl h1)
    · rcases List.mem_append.1 (show q.2 ∈ F.ord ++ [s] from hm) with h6 | h6
      · exact h2 h6
      · rw [List.mem_singleton] at h6
        exact ofO_none.1 h4 q h1 (by omega)
  split
  · exact h
  · rename_i e v vs e2
    have hv : v ∈ F.ord := by rw [e2]; exact List.mem_cons_self
    obtain ⟨b, hb⟩ := hF.w.ordOf hv
    rw [ofO_of hF.w.sf.nds hb]
    have h4 := hF.w.cls (a := b) (s := v) hb
    obtain ⟨h6, h7, _⟩ := h4.free (s := v) (show v ∈ v :: F.A.free from List.mem_cons_self)
    intro q hq
    obtain ⟨h1, h2⟩ := h q hq
    have hne : q.2 ≠ v := fun e3 => h2 (e3 ▸ hv)
    refine ⟨?_, fun hm => ?_⟩
    · show q ∈ (addO (remO F.T b v) a v).O
      rw [show (addO (remO F.T b v) a v).O = (remO F.T b v).O ++ [(a, v)] from h4.sf.addO_O h6 h7]
      refine List.mem_append.2 (.inl ?_)
      show q ∈ (remO F.T b v).O
      rw [remO_O]
      exact List.mem_filter.2 ⟨h1, decide_eq_true hne⟩
    · rcases List.mem_append.1 (show q.2 ∈ F.ord.erase v ++ [v] from hm) with h8 | h8
      · exact h2 (List.mem_of_mem_erase h8)
      · rw [List.mem_singleton] at h8; exact hne h8
theorem Keep.do (h : Keep E F) (hF : DKF S lim t p u F) (ha : 0 ≤ a) (hk : ¬ k % 8 = 6) : Keep E (doD S lim t p u F k a x).2.2 := by
  unfold doD
  split
  · exact h.see
  split
  · exact h.ass
  exact h.try hF (by omega)
theorem Keep.full (h : Keep E F) (hE : DW S lim E) (hF : DW S lim F) (hf : E.T.O.length = S) : F.ord = [] ∧ F.T.O.length = S := by
  have h1 : ∀ x, x < S → ∃ q ∈ E.T.O, q.2 = x := fun x hx => by
    have h2 := hE.full.1 hf
    have h3 := hE.ok.len
    have h4 := hE.size
    have h5 : x < E.A.tk.length := by omega
    refine (hE.tk x).1 ?_
    have h6 : ¬ E.A.tk[x]? = some false := fun e2 => by have := (hE.ok.free x).2 e2; rw [h2] at this; simp at this
    rw [List.getElem?_eq_getElem h5] at h6 ⊢
    cases hv : E.A.tk[x] with
    | true => rfl
    | false => rw [hv] at h6; exact absurd rfl h6
  refine ⟨?_, ?_⟩
  · rw [List.eq_nil_iff_forall_not_mem]
    intro x hx
    obtain ⟨q, hq, e⟩ := h1 x (hF.ordLt hx)
    exact (h q hq).2 (e ▸ hx)
  · have h2 := nodup_le2 (l1 := E.T.O.map Prod.snd) (l2 := F.T.O.map Prod.snd) hE.sf.nds fun x hx => by
      obtain ⟨q, hq, e⟩ := List.mem_map.1 hx
      exact List.mem_map.2 ⟨q, (h q hq).1, e⟩
    have h3 := hF.olen
    rw [List.length_map, List.length_map] at h2
    omega
theorem Keep.not (h : Keep E F) (hE : DW S lim E) (hF : MD S lim t p u m F) (hm : m ≤ 10000) (ha : 0 ≤ a) (hf : E.T.O.length = S) (ht : (doD S lim t p u F k a x).2.1 = true) : ¬ (doD S lim t p u F k a x).1.1 = 22 := fun e => by
  obtain ⟨h1, h2⟩ := h.full hE hF.f.w hf
  obtain ⟨_, _, s, vs, h3, _⟩ := (do_fair hF hm ha ht).drop e h2
  rw [h1] at h3; cases h3
def owv (O : List (Int × Nat)) (i : Nat) : Int := match ofO O (i : Int) with
  | some a => a + 1
  | none => 0
def wasL (O : List (Int × Nat)) (i : Nat) : List (Int × Int) := (List.range i).map fun x : Nat => ((x : Int), owv O x)
theorem wasL_len {O : List (Int × Nat)} {i : Nat} : (wasL O i).length = i := by simp [wasL]
theorem owv_some {O : List (Int × Nat)} {i : Nat} (h : ofO O (i : Int) = some a) : owv O i = a + 1 := by unfold owv; rw [h]
theorem owv_none {O : List (Int × Nat)} {i : Nat} (h : ofO O (i : Int) = none) : owv O i = 0 := by unfold owv; rw [h]
theorem wasL_none {O : List (Int × Nat)} {i : Nat} (h : ofO O (i : Int) = none) : wasL O i ++ [((i : Int), 0)] = wasL O (i + 1) := by
  unfold wasL; rw [List.range_succ, List.map_append]; simp [owv_none h]
theorem wasL_some {O : List (Int × Nat)} {i : Nat} (h : ofO O (i : Int) = some a) : (wasL O i ++ [((i : Int), 0)]).set i ((i : Int), a + 1) = wasL O (i + 1) := by
  have hl := wasL_len (O := O) (i := i)
  rw [List.set_append_right _ _ (by omega), show i - (wasL O i).length = 0 by omega, List.set_cons_zero]
  unfold wasL; rw [List.range_succ, List.map_append]; simp [owv_some h]
theorem wasL_at {O : List (Int × Nat)} {i : Nat} (h : i < (wasL O i ++ [((i : Int), (0 : Int))]).length) : (wasL O i ++ [((i : Int), (0 : Int))])[i]'h = ((i : Int), 0) := by
  rw [List.getElem_append_right (by rw [wasL_len]; exact Nat.le_refl _)]; simp [wasL_len]
theorem wasL_get {O : List (Int × Nat)} {i j : Nat} (h : j < i) : (wasL O i)[j]? = some ((j : Int), owv O j) := by
  unfold wasL; simp [h]
structure AsI (S lim : Nat) (t p u : Int) (D : Dk) (i : Nat) (E : Dk) : Prop where
  m : MD S lim t p u 80 E
  T : E.T = D.T
  ord : E.ord = D.ord.drop i
theorem AsI.step {i : Nat} (h : AsI S lim t p u D i E) (hi : i < D.ord.length) : AsI S lim t p u D (i + 1) (assN S E (D.ord[i] : Int)) ∧ clsE S E.T (D.ord[i] : Int) = 0 := by
  have hm : D.ord[i] ∈ E.ord := by rw [h.ord, List.drop_eq_getElem_cons hi]; exact List.mem_cons_self
  obtain ⟨b, hb⟩ := h.m.f.w.ordOf hm
  have hc := (clsE_of h.m.f.w hb).1
  have hT := assN_T (S := S) (D := E) (x := (D.ord[i] : Int))
  refine ⟨⟨⟨h.m.f.assN, by rw [hT.1]; exact h.m.six, by rw [assN_un]; exact h.m.un, by rw [hT.2]; exact h.m.now⟩, by rw [hT.1]; exact h.T, ?_⟩, hc⟩
  unfold assN
  rw [if_pos hc, Int.toNat_natCast]
  show E.ord.erase D.ord[i] = _
  rw [h.ord, List.drop_eq_getElem_cons hi, List.erase_cons_head]
end
end Go.Proofs.Ytkhdejjompbklaa.Sx
