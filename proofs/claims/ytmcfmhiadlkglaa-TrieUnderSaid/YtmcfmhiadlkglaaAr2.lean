/-
  A new arena. Nothing of a program stands here.
-/
import Derived.Test.YtmcfmhiadlkglaaAr
namespace Go.Proofs.Ytmcfmhiadlkglaa.Sx
open Go
theorem zeros_flat {α : Type} {enc : α → List Value} {zc : List Value} (x : α) (m : Nat) (e : zc = enc x) : zeros zc m = (List.replicate m x).flatMap enc := by
  subst e
  induction m with
  | zero => simp [zeros]
  | succ m ih => rw [List.replicate_succ, List.flatMap_cons, ← ih]; simp [zeros, List.replicate_succ]
def Ar.new (m : Nat) : Ar := { free := List.range m, turn := List.replicate m 0, tk := List.replicate m false }
/-- The first k slots of a new arena are linked. -/
def NewI (m k : Nat) (rs : List Srow) : Prop := k ≤ m ∧ rs.length = m ∧ ∀ i r, rs[i]? = some r → r = if i < k then ((i : Int), 0, false, (i : Int) + 1) else (0, 0, false, 0)
theorem NewI.zero (m : Nat) : NewI m 0 (List.replicate m (0, 0, false, 0)) := ⟨Nat.zero_le _, by simp, fun i r h => by
  rw [List.getElem?_replicate] at h; split at h
  · simp at h; rw [if_neg (by omega)]; exact h.symm
  · cases h⟩
theorem NewI.get {m k : Nat} {rs : List Srow} (h : NewI m k rs) {i : Nat} (hi : i < rs.length) : rs[i] = if i < k then ((i : Int), 0, false, (i : Int) + 1) else (0, 0, false, 0) := h.2.2 i _ (by simp [hi])
theorem NewI.step {m k : Nat} {rs : List Srow} (h : NewI m k rs) (hk : k < m) : NewI m (k + 1) (rs.set k ((k : Int), 0, false, (k : Int) + 1)) := by
  refine ⟨by omega, by rw [List.length_set]; exact h.2.1, fun i r hr => ?_⟩
  have hl := h.2.1
  by_cases e : k = i
  · subst e
    rw [List.getElem?_set_self (by omega)] at hr
    cases hr; rw [if_pos (by omega)]
  · rw [List.getElem?_set_ne e] at hr
    rw [h.2.2 i r hr]
    by_cases hi : i < k
    · rw [if_pos hi, if_pos (by omega)]
    · rw [if_neg hi, if_neg (by omega)]
theorem Chn.range {m : Nat} {rs : List Srow} : ∀ (c j : Nat), j + c = m → (∀ i, i < m → ∃ r, rs[i]? = some r ∧ r.2.2.2 = if i + 1 = m then -1 else (i : Int) + 1) → Chn rs (List.range' j c)
  | 0, _, _, _ => trivial
  | c + 1, j, e, h => by
    rw [List.range'_succ]
    refine ⟨?_, Chn.range c (j + 1) (by omega) h⟩
    obtain ⟨r, h1, h2⟩ := h j (by omega)
    refine ⟨r, h1, ?_⟩
    rw [h2]
    cases c with
    | zero => rw [if_pos (by omega)]; rfl
    | succ c => rw [if_neg (by omega), List.range'_succ]; simp [hd]
theorem cnt_new (m : Nat) : cnt (List.replicate m false) = 0 := by
  induction m with
  | zero => rfl
  | succ m ih => rw [List.replicate_succ]; simp [cnt, ih]
theorem NewI.done {m : Nat} {rs : List Srow} (h : NewI m m rs) (h1 : 1 ≤ m) (h2 : m ≤ 4096) : Rep (Ar.new m) (rs.set (m - 1) (((m - 1 : Nat) : Int), 0, false, -1)) := by
  have hl := h.2.1
  have hrow : ∀ (i : Nat) (r : Srow), (rs.set (m - 1) (((m - 1 : Nat) : Int), 0, false, -1))[i]? = some r → i < m ∧ r = ((i : Int), 0, false, if i + 1 = m then -1 else (i : Int) + 1) := by
    intro i r hr
    by_cases e : m - 1 = i
    · subst e
      rw [List.getElem?_set_self (by omega)] at hr
      cases hr
      exact ⟨by omega, by rw [if_pos (by omega)]⟩
    · rw [List.getElem?_set_ne e] at hr
      have hi := (List.getElem?_eq_some_iff.1 hr).1
      have := h.2.2 i r hr
      rw [if_pos (by omega)] at this
      exact ⟨by omega, by rw [if_neg (by omega)]; exact this⟩
  refine ⟨⟨by simp [Ar.new], by simp [Ar.new]; omega, List.nodup_range, ?_⟩, by simp [Ar.new, hl], ?_, ?_⟩
  · intro i
    simp only [Ar.new, List.mem_range]
    rw [List.getElem?_replicate]
    by_cases hi : i < m
    · simp [hi]
    · simp [hi]
  · intro i r hr
    obtain ⟨hi, rfl⟩ := hrow i r hr
    simp [Ar.new, hi]
  · show Chn _ (List.range m)
    rw [List.range_eq_range']
    refine Chn.range (m := m) m 0 (by omega) fun i hi => ?_
    have hx : i < (rs.set (m - 1) (((m - 1 : Nat) : Int), 0, false, -1)).length := by rw [List.length_set]; omega
    refine ⟨_, List.getElem?_eq_getElem hx, ?_⟩
    rw [(hrow i _ (List.getElem?_eq_getElem hx)).2]
theorem new_first {m : Nat} (h : 1 ≤ m) : (0 : Int) = hd (Ar.new m).free := by
  obtain ⟨k, rfl⟩ : ∃ k, m = k + 1 := ⟨m - 1, by omega⟩
  show (0 : Int) = hd (List.range (k + 1))
  rw [List.range_eq_range', List.range'_succ]; rfl
theorem new_cnt {m : Nat} : (0 : Int) = cnt (Ar.new m).tk := (cnt_new m).symm
def e3 (r : Int × Int × Int) : List Value := [.int .i64 r.1, .int .i64 r.2.1, .int .i64 r.2.2]
def e2 (r : Int × Int) : List Value := [.int .i64 r.1, .int .i64 r.2]
def e1 (r : Int) : List Value := [.int .i64 r]
def eb (r : Bool) : List Value := [.bool r]
theorem e3_len (r : Int × Int × Int) : (e3 r).length = 3 := rfl
theorem e2_len (r : Int × Int) : (e2 r).length = 2 := rfl
theorem e1_len (r : Int) : (e1 r).length = 1 := rfl
theorem eb_len (r : Bool) : (eb r).length = 1 := rfl
/-- The free slots, as numbers. -/
abbrev Ar.frees (A : Ar) : List Int := A.free.map fun i : Nat => (i : Int)
/-- The handles that are live among the first k slots; all that are live. -/
def Ar.livesTo (A : Ar) : Nat → List (Int × Int)
  | 0 => []
  | k + 1 => A.livesTo k ++ (match A.at (k : Int) with | some u => [((k : Int), u)] | none => [])
abbrev Ar.lives (A : Ar) : List (Int × Int) := A.livesTo A.turn.length
theorem livesTo_yes {A : Ar} {k : Nat} {u : Int} (h : A.at (k : Int) = some u) : A.livesTo (k + 1) = A.livesTo k ++ [((k : Int), u)] := by simp [Ar.livesTo, h]
theorem livesTo_no {A : Ar} {k : Nat} (h : A.at (k : Int) = none) : A.livesTo (k + 1) = A.livesTo k := by simp [Ar.livesTo, h]
theorem livesTo_len (A : Ar) : ∀ k, (A.livesTo k).length ≤ k
  | 0 => by simp [Ar.livesTo]
  | k + 1 => by
    have := livesTo_len A k
    cases h : A.at (k : Int) with
    | none => rw [livesTo_no h]; omega
    | some u => rw [livesTo_yes h, List.length_append]; simp; omega
/-- Giving back all that are taken, from the last slot down. -/
def Ar.clrs (A : Ar) : Nat → Ar
  | 0 => A
  | j + 1 => match (A.clrs j).at ((A.turn.length - 1 - j : Nat) : Int) with | some u => (A.clrs j).giveH ((A.turn.length - 1 - j : Nat) : Int) u | none => A.clrs j
theorem drop_hd {l : List Nat} {k : Nat} (h : 0 ≤ hd (l.drop k)) : ∃ i, k < l.length ∧ l[k]? = some i ∧ hd (l.drop k) = (i : Int) ∧ l.take (k + 1) = l.take k ++ [i] := by
  by_cases hk : k < l.length
  · exact ⟨l[k], hk, by simp [hk], by rw [List.drop_eq_getElem_cons hk]; rfl, List.take_succ_eq_append_getElem hk⟩
  · rw [List.drop_eq_nil_of_le (by omega)] at h; simp [hd] at h
theorem drop_end {l : List Nat} {k : Nat} (h : hd (l.drop k) < 0) (hk : k ≤ l.length) : k = l.length := by
  by_cases hk : k < l.length
  · rw [List.drop_eq_getElem_cons hk] at h; simp only [hd] at h; omega
  · omega
theorem Chn.nth {rs : List Srow} : ∀ {fs : List Nat} {k i : Nat}, Chn rs fs → fs[k]? = some i → ∃ r, rs[i]? = some r ∧ r.2.2.2 = hd (fs.drop (k + 1))
  | [], _, _, _, h => by simp at h
  | j :: fs, 0, i, ⟨⟨r, h1, h2⟩, _⟩, h => by
    simp only [List.getElem?_cons_zero, Option.some.injEq] at h; subst h
    exact ⟨r, h1, h2⟩
  | j :: fs, k + 1, i, ⟨_, h3⟩, h => by
    rw [List.getElem?_cons_succ] at h
    rw [List.drop_succ_cons]
    exact Chn.nth h3 h
theorem nodup_len : ∀ {n : Nat} {l : List Nat}, l.Nodup → (∀ i ∈ l, i < n) → l.length ≤ n
  | 0, l, _, hb => by
    cases l with
    | nil => simp
    | cons x xs => have := hb x List.mem_cons_self; omega
  | n + 1, l, h, hb => by
    by_cases hn : n ∈ l
    · have h1 := nodup_len (n := n) (h.erase n) fun i hi => by
        have h2 := (h.mem_erase_iff).1 hi
        have := hb i h2.2
        have := h2.1
        omega
      rw [List.length_erase_of_mem hn] at h1
      omega
    · have h1 := nodup_len (n := n) h fun i hi => by
        have h2 := hb i hi
        have h3 : i ≠ n := fun e => hn (e ▸ hi)
        omega
      omega
theorem free_len {A : Ar} {rs : List Srow} (h : Rep A rs) : A.free.length ≤ A.turn.length :=
  nodup_len h.ok.nodup fun i hi => by
    have := (List.getElem?_eq_some_iff.1 ((h.ok.free i).1 hi)).1
    have := h.ok.len; omega
theorem giveH_size (A : Ar) (s u : Int) : (A.giveH s u).turn.length = A.turn.length := by
  by_cases h : A.at s = some u
  · rw [Ar.giveH, if_pos h]; simp [Ar.give]
  · rw [Ar.giveH, if_neg h]
theorem clrs_yes {A : Ar} {j : Nat} {u : Int} (h : (A.clrs j).at ((A.turn.length - 1 - j : Nat) : Int) = some u) : A.clrs (j + 1) = (A.clrs j).giveH ((A.turn.length - 1 - j : Nat) : Int) u := by
  rw [Ar.clrs, h]
theorem clrs_no {A : Ar} {j : Nat} (h : (A.clrs j).at ((A.turn.length - 1 - j : Nat) : Int) = none) : A.clrs (j + 1) = A.clrs j := by
  rw [Ar.clrs, h]
theorem clrs_size (A : Ar) : ∀ j, (A.clrs j).turn.length = A.turn.length
  | 0 => rfl
  | j + 1 => by
    have ih := clrs_size A j
    cases h : (A.clrs j).at ((A.turn.length - 1 - j : Nat) : Int) with
    | none => rw [clrs_no h]; exact ih
    | some u => rw [clrs_yes h, giveH_size]; exact ih
end Go.Proofs.Ytmcfmhiadlkglaa.Sx
