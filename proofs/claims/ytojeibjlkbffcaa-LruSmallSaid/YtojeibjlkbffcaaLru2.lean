/-
  Slots in the order in which they were seen, with their times; an array of times. Nothing of a program stands here.
-/
import Derived.Test.YtojeibjlkbffcaaLru
import Derived.Test.YtojeibjlkbffcaaMore3
namespace Go.Proofs.Ytojeibjlkbffcaa.Sx
open Go
set_option linter.unusedVariables false
set_option linter.unusedSimpArgs false
section
variable {P : Program} {Q : Exit → Act → World → Prop} {n : Nat} {a : Act} {S : Slots} {l l' : List HP} {w : World} {t : TypeId} {pos : String} {af : Array Edge} {g : Option (Nat × Bool)} {K : Act → World → Prop} {T : TypeId}
theorem tab_flat {N k : Nat} {f : Nat → Int} (hk : k < N) : ((tab N f).flatMap e1)[k]? = some (.int .i64 (f k)) := by
  have h := tab_get? (f := f) hk
  have : (tab N f).flatMap e1 = (tab N f).map fun x => Value.int .i64 x := by
    induction (tab N f) with
    | nil => rfl
    | cons x t ih => rw [List.flatMap_cons, ih]; rfl
  rw [this, List.getElem?_map, h]; rfl
/-- A store into an array of integers. -/
theorem BstoreA {ty : TypeId} {x y : Operand} {b N k : Nat} {v : Int} {z : TypeInfo} {f : Nat → Int} (hS : Has n a S) (hR : Sep l w) (hx : ev S x = some (.pointer (some ⟨b, k, none⟩))) (hy : ev S y = some (.int .i64 v))
    (hi : P.info? ty = some z) (hz : z.size = 1) (p : Pk (Sx.blk b ((tab N f).flatMap e1) T) l l') (hk : k < N)
    (kk : ∀ w', Sep (Sx.blk b ((tab N (upd f k v)).flatMap e1) T :: l') w' → K a w') : Oper.wp P ⟨none, .store ty x y, t, pos, af, g⟩ a w K Q := by
  have hl : ((tab N f).flatMap e1).length = N := by rw [flat_len e1_len, tab_len, Nat.mul_one]
  refine Bstore (vs := [.int .i64 v]) hS hR hx hy rfl hi (by rw [hz]; rfl) p rfl (by rw [hl]; exact hk) fun w' h => kk w' ?_
  have e := laid_flat (enc := e1) e1_len (vs := [.int .i64 v]) (j := 0) (r' := v) (rs := tab N f) (k := k) (by rw [tab_len]; exact hk) (Nat.le_of_ble_eq_true rfl) rfl
  rw [Nat.mul_one, Nat.add_zero, tab_set] at e
  rw [← e]; exact h
end
structure LI (ord : List Nat) (T : Nat → Int) (now : Int) (tm : Nat → Int) : Prop where
  nd : ord.Nodup
  lt : ∀ x ∈ ord, x < 16
  pw : ord.Pairwise fun a b => T a < T b
  bd : ∀ x ∈ ord, 0 < T x ∧ T x ≤ now
  tm1 : ∀ x ∈ ord, tm x = T x
  tm0 : ∀ x, x < 16 → x ∉ ord → tm x = 0
theorem LI.new : LI [] (fun _ => 0) 0 (fun _ => 0) := ⟨List.nodup_nil, by simp, List.Pairwise.nil, by simp, by simp, fun _ _ _ => rfl⟩
section
variable {ord : List Nat} {T : Nat → Int} {now : Int} {tm : Nat → Int} {s : Nat}
theorem LI.pos (h : LI ord T now tm) (hs : s < 16) : s ∈ ord ↔ 0 < tm s := by
  constructor
  · intro hm; rw [h.tm1 s hm]; exact (h.bd s hm).1
  · intro hp
    by_cases hm : s ∈ ord
    · exact hm
    · rw [h.tm0 s hs hm] at hp; omega
theorem LI.eqb (h : LI ord T now tm) (hs : s < 16) : decide ((if s ∈ ord then (0 : Int) else 6) = 0) = decide (0 < tm s) := by
  by_cases hm : s ∈ ord
  · rw [if_pos hm, decide_eq_true ((h.pos hs).1 hm)]; rfl
  · rw [if_neg hm, decide_eq_false fun hp => hm ((h.pos hs).2 hp)]; rfl
theorem LI.out (h : LI ord T now tm) (hs : s < 16) : LI (ord.erase s) T now (upd tm s 0) where
  nd := h.nd.erase s
  lt x hx := h.lt x (List.mem_of_mem_erase hx)
  pw := h.pw.sublist List.erase_sublist
  bd x hx := h.bd x (List.mem_of_mem_erase hx)
  tm1 x hx := by
    have hx2 := (h.nd.mem_erase_iff.1 hx)
    rw [upd_ne hx2.1, h.tm1 x hx2.2]
  tm0 x hx hno := by
    by_cases e : x = s
    · rw [e, upd_eq]
    · rw [upd_ne e]; exact h.tm0 x hx fun hm => hno ((List.mem_erase_of_ne e).2 hm)
theorem LI.see (h : LI ord T now tm) (hs : s < 16) (hn : 0 ≤ now) : LI (ord.erase s ++ [s]) (upd T s (now + 1)) (now + 1) (upd tm s (now + 1)) := by
  have h1 := h.out hs
  have hne : ∀ x ∈ ord.erase s, x ≠ s := fun x hx => (h.nd.mem_erase_iff.1 hx).1
  refine ⟨?_, ?_, ?_, ?_, ?_, ?_⟩
  · rw [List.nodup_append]
    refine ⟨h1.nd, by simp, fun a ha b hb e => ?_⟩
    simp only [List.mem_singleton] at hb
    exact hne a ha (e.trans hb)
  · intro x hx
    rcases List.mem_append.1 hx with hx | hx
    · exact h1.lt x hx
    · simp only [List.mem_singleton] at hx; omega
  · rw [List.pairwise_append]
    refine ⟨?_, by simp, fun a ha b hb => ?_⟩
    · refine h1.pw.imp_of_mem fun {a b} ha hb hab => ?_
      rw [upd_ne (hne a ha), upd_ne (hne b hb)]; exact hab
    · simp only [List.mem_singleton] at hb
      rw [hb, upd_eq, upd_ne (hne a ha)]
      have := (h1.bd a ha).2; omega
  · intro x hx
    rcases List.mem_append.1 hx with hx | hx
    · rw [upd_ne (hne x hx)]; have := h1.bd x hx; omega
    · simp only [List.mem_singleton] at hx
      rw [hx, upd_eq]; omega
  · intro x hx
    rcases List.mem_append.1 hx with hx | hx
    · rw [upd_ne (hne x hx), upd_ne (hne x hx)]
      exact h.tm1 x (List.mem_of_mem_erase hx)
    · simp only [List.mem_singleton] at hx
      rw [hx, upd_eq, upd_eq]
  · intro x hx hno
    have hxs : x ≠ s := fun e => hno (by simp [e])
    rw [upd_ne hxs]
    exact h.tm0 x hx fun hm => hno (List.mem_append.2 (.inl ((List.mem_erase_of_ne hxs).2 hm)))
end
/-! ### the examples -/
def exS : List Int := [2, 0, 3]
def awS : Nat → List Nat × (Nat → Int) × Int
  | 0 => ([], fun _ => 0, 0)
  | k + 1 => (seeO 4 (awS k).1 (exS.getD k 0), seeT 4 (awS k).2.1 (awS k).2.2 (exS.getD k 0), seeN 4 (awS k).2.2 (exS.getD k 0))
theorem awS_in {k : Nat} (h : k < 3) : 0 ≤ exS.getD k 0 ∧ exS.getD k 0 < ((4 : Nat) : Int) := by
  obtain rfl | rfl | rfl : k = 0 ∨ k = 1 ∨ k = 2 := by omega
  · exact ⟨by decide, by decide⟩
  · exact ⟨by decide, by decide⟩
  · exact ⟨by decide, by decide⟩
theorem awS_now : ∀ {k : Nat}, k ≤ 3 → (awS k).2.2 = (k : Int)
  | 0, _ => rfl
  | k + 1, h => by
    show seeN 4 (awS k).2.2 (exS.getD k 0) = _
    rw [seeN, if_pos (awS_in (by omega)), awS_now (by omega)]; omega
end Go.Proofs.Ytojeibjlkbffcaa.Sx
namespace Go.Proofs.Ytojeibjlkbffcaa.Sx
open Go
section
variable {S : Nat} {ord : List Nat} {T : Nat → Int} {now : Int} {tm : Nat → Int} {s : Nat} {v : Int}
theorem LI.len (h : LI ord T now tm) : ord.length ≤ 16 := nodup_len h.nd h.lt
theorem see_outV (h : ¬ (0 ≤ v ∧ v < S)) : seeV S now v = .tuple [.int .i64 0, .int .i64 2].toArray := if_neg h
theorem see_outO (h : ¬ (0 ≤ v ∧ v < S)) : seeO S ord v = ord := if_neg h
theorem see_outT (h : ¬ (0 ≤ v ∧ v < S)) : seeT S T now v = T := if_neg h
theorem see_outN (h : ¬ (0 ≤ v ∧ v < S)) : seeN S now v = now := if_neg h
theorem when_out (h : ¬ (0 ≤ v ∧ v < S)) : whenV S ord T v = .tuple [.int .i64 0, .bool false].toArray := if_neg fun h2 => h ⟨h2.1, h2.2.1⟩
theorem lout_outE (h : ¬ (0 ≤ v ∧ v < S)) : loutE S ord v = 2 := if_neg h
theorem lout_outO (h : ¬ (0 ≤ v ∧ v < S)) : loutO S ord v = ord := if_neg h
theorem lout_E (h : s < S) : loutE S ord (s : Int) = if s ∈ ord then 0 else 6 := by rw [loutE, if_pos (by omega), Int.toNat_natCast]
theorem lout_O (h : s < S) : loutO S ord (s : Int) = ord.erase s := by rw [loutO, if_pos (by omega), Int.toNat_natCast]
theorem see_V (h : s < S) : seeV S now (s : Int) = .tuple [.int .i64 (now + 1), .int .i64 0].toArray := if_pos (by omega)
theorem see_O (h : s < S) : seeO S ord (s : Int) = ord.erase s ++ [s] := by rw [seeO, if_pos (by omega), Int.toNat_natCast]
theorem see_T (h : s < S) : seeT S T now (s : Int) = upd T s (now + 1) := by rw [seeT, if_pos (by omega), Int.toNat_natCast]
theorem see_N (h : s < S) : seeN S now (s : Int) = now + 1 := if_pos (by omega)
theorem when_in (h : s < S) (hm : s ∈ ord) : whenV S ord T (s : Int) = .tuple [.int .i64 (T s), .bool true].toArray := by
  rw [whenV, Int.toNat_natCast, if_pos ⟨by omega, by omega, hm⟩]
theorem when_no (hm : s ∉ ord) : whenV S ord T (s : Int) = .tuple [.int .i64 0, .bool false].toArray := by
  rw [whenV, Int.toNat_natCast, if_neg fun h => hm h.2.2]
theorem two_out16 {n : Int} {i : Nat} (h : i < ([min n (-1), max n 16] : List Int).length) : ¬ (0 ≤ ([min n (-1), max n 16] : List Int)[i] ∧ ([min n (-1), max n 16] : List Int)[i] < ((16 : Nat) : Int)) := by
  have h2 : i < 2 := h
  obtain rfl | rfl : i = 0 ∨ i = 1 := by omega
  · simp only [List.getElem_cons_zero]; omega
  · simp only [List.getElem_cons_succ, List.getElem_cons_zero]; omega
theorem erase_end (hn : ord.Nodup) : (ord.erase s ++ [s]).erase s = ord.erase s := by
  have : s ∉ ord.erase s := fun h => (hn.mem_erase_iff.1 h).1 rfl
  rw [List.erase_append_right _ this, List.erase_cons_head, List.append_nil]
theorem erase_no (hn : ord.Nodup) : s ∉ ord.erase s := fun h => (hn.mem_erase_iff.1 h).1 rfl
theorem erase_filter (hn : ord.Nodup) : ord.filter (fun x => decide (x ≠ s)) = ord.erase s := by
  rw [hn.erase_eq_filter]
  congr 1
  funext x
  by_cases e : x = s
  · simp [e]
  · simp [e]
theorem head_end : (dirL 1 (ord ++ [s])).head? = some s := by
  show (ord ++ [s]).reverse.head? = _
  rw [List.reverse_append]; rfl
theorem filter_next {M : List Nat} {i x : Nat} {p : Nat → Bool} (hi : i < M.length) (hx : M[i] = x) : (M.take (i + 1)).filter p = if p x = true then (M.take i).filter p ++ [x] else (M.take i).filter p := by
  rw [List.take_succ_eq_append_getElem hi, List.filter_append, hx]
  by_cases h : p x = true
  · rw [if_pos h, List.filter_cons_of_pos h, List.filter_nil]
  · rw [if_neg h, List.filter_cons_of_neg h, List.filter_nil, List.append_nil]
end
end Go.Proofs.Ytojeibjlkbffcaa.Sx
