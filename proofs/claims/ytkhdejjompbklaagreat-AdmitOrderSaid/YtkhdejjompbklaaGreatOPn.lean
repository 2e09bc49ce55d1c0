/-
  My plain texts put together into one module.
-/
import Derived.Test.YtkhdejjompbklaaGreatOPl
namespace Go.Proofs.YtkhdejjompbklaaGreat.Sx
open Go
set_option linter.unusedVariables false
set_option linter.unusedSimpArgs false
theorem LW.congr {S n : Nat} {L L' : Nat → List Nat} {P : Nat → Nat → Nat} {R : Nat → Int} {rg nm sz : Nat → Nat} (h : LW S n L P R rg nm sz) (e : ∀ i, i < n → L i = L' i) : LW S n L' P R rg nm sz where
  s1 := h.s1
  s2 := h.s2
  n1 := h.n1
  n2 := h.n2
  hrg := h.hrg
  hnm := h.hnm
  hsz i hi := by rw [← e i hi]; exact h.hsz i hi
  nd i hi := by rw [← e i hi]; exact h.nd i hi
  lt i hi := by rw [← e i hi]; exact h.lt i hi
  rin i hi := by rw [← e i hi]; exact h.rin i hi
  rout x hx hno := h.rout x hx fun i hi => by rw [e i hi]; exact hno i hi
  ring i hi := by rw [← e i hi]; exact h.ring i hi
theorem Sep.linksCongr {TL TN TI b S n : Nat} {L L' : Nat → List Nat} {l : List HP} {w : World} (h : Sep (linksA TL TN TI b S n L :: l) w) (e : ∀ i, i < n → L i = L' i) : Sep (linksA TL TN TI b S n L' :: l) w := by
  obtain ⟨P, R, rg, nm, sz, r1, c1, r2, c2, r3, c3, r4, c4, hW, hR⟩ := h.linksAE
  exact Sep.linksAI (hW.congr e) rfl hR
theorem new_zeros {N : Nat} : zeros [.int .i64 0] N = (tab N (fun _ => (0 : Int))).flatMap e1 := by
  rw [zeros_flat (zc := [.int .i64 0]) (enc := e1) (0 : Int) N rfl]
  congr 1
  apply List.ext_getElem
  · simp [tab]
  · intro i h1 h2
    rw [tab_get h2, List.getElem_replicate]
def one (ord : List Nat) : Nat → List Nat := fun _ => ord
abbrev lruL (TU TL TN TI b S : Nat) (ord : List Nat) (T : Nat → Int) (now : Int) (x : Nat × Option Addr × Nat) : List HP :=
  [blk b [.pointer (some ⟨x.1, 0, none⟩), .slice x.2.1 S x.2.2, .int .i64 now] TU, linksA TL TN TI x.1 S 1 (one ord), sls x.2.1 S x.2.2 TI 1 ((tab S T).flatMap e1)]
def lruA (TU TL TN TI b S : Nat) (ord : List Nat) (T : Nat → Int) (now : Int) : HP := box (fun _ : Nat × Option Addr × Nat => True) (lruL TU TL TN TI b S ord T now)
theorem Sep.lruAE {TU TL TN TI b S : Nat} {ord : List Nat} {T : Nat → Int} {now : Int} {l : List HP} {w : World} (h : Sep (lruA TU TL TN TI b S ord T now :: l) w) :
    ∃ bl r c, WL S 1 (one ord) ∧ Bk r ∧ Sep (blk b [.pointer (some ⟨bl, 0, none⟩), .slice r S c, .int .i64 now] TU :: linksA TL TN TI bl S 1 (one ord) :: sls r S c TI 1 ((tab S T).flatMap e1) :: l) w := by
  obtain ⟨x, _, hR⟩ := h.boxE
  have h1 := (hR.pk (.there .here)).linksWL
  exact ⟨x.1, x.2.1, x.2.2, h1, (hR.pk (.there (.there .here))).bk h1.s1, hR⟩
theorem Sep.lruAI {TU TL TN TI b S bl c : Nat} {r : Option Addr} {L : Nat → List Nat} {ord : List Nat} {T : Nat → Int} {now : Int} {l : List HP} {w : World} (e : L 0 = ord)
    (h : Sep (blk b [.pointer (some ⟨bl, 0, none⟩), .slice r S c, .int .i64 now] TU :: linksA TL TN TI bl S 1 L :: sls r S c TI 1 ((tab S T).flatMap e1) :: l) w) : Sep (lruA TU TL TN TI b S ord T now :: l) w := by
  have h1 := (h.swap).linksCongr (L' := one ord) (fun i hi => by
    have hi0 : i = 0 := Nat.lt_one_iff.1 hi
    subst hi0; exact e)
  exact Sep.boxI (bl, r, c) trivial h1.swap
theorem isSome_get {i : Nat} {l : List Nat} : (l[i]?).isSome = decide (i < l.length) := by
  by_cases h : i < l.length
  · rw [List.getElem?_eq_getElem h]; simp [h]
  · rw [List.getElem?_eq_none (by omega)]; simp [h]
section
variable {S : Nat} {ord : List Nat}
theorem one_first : endS 1 (one ord) 0 0 = ord[0]? := by
  rw [← List.head?_eq_getElem?]; rfl
theorem one_next (h : WL S 1 (one ord)) {i : Nat} (hi : i < ord.length) : stepS S 1 (one ord) 0 ((ord[i]?.getD 0 : Nat) : Int) = ord[i + 1]? := by
  have h1 := h.step (k := 0) (i := i) (w := 0) (by decide) (show i < (dirL 0 (one ord 0)).length from hi)
  rw [List.getElem?_eq_getElem hi]
  exact h1
theorem one_of {s : Nat} : ofL 1 (one ord) s = if s ∈ ord then some 0 else none := by
  unfold ofL one
  simp only [List.range_succ, List.range_zero, List.nil_append, List.find?_cons, List.find?_nil]
  by_cases h : s ∈ ord
  · simp [h]
  · simp [h]
theorem one_all : allS 1 (one ord) 0 = ord := rfl
theorem WL.ords (h : WL S 1 (one ord)) : ord.Nodup ∧ (∀ x ∈ ord, x < S) ∧ ord.length ≤ S := ⟨h.nd 0 (by decide), h.lt 0 (by decide), h.len (i := 0) (by decide)⟩
theorem one_out {s : Nat} (hs : s < S) : (outS S 1 (one ord) (s : Int)) 0 = ord.erase s := by
  by_cases h : s ∈ ord
  · rw [outS_has hs (i := 0) (by rw [one_of, if_pos h]), upd_eq]; rfl
  · rw [outS_no hs (by rw [one_of, if_neg h]), List.erase_of_not_mem h]; rfl
theorem one_outE {s : Nat} (hs : s < S) : outE S 1 (one ord) (s : Int) = if s ∈ ord then 0 else 6 := by
  by_cases h : s ∈ ord
  · rw [outE_has hs (i := 0) (by rw [one_of, if_pos h]), if_pos h]
  · rw [outE_no hs (by rw [one_of, if_neg h]), if_neg h]
theorem one_see (hW : WL S 1 (one ord)) {s : Nat} (hs : s < S) : (addS S 1 (outS S 1 (one ord) (s : Int)) 1 0 (s : Int)) 0 = ord.erase s ++ [s] := by
  have hno : ofL 1 (outS S 1 (one ord) (s : Int)) s = none := by
    by_cases h : s ∈ ord
    · rw [outS_has hs (i := 0) (by rw [one_of, if_pos h])]
      exact hW.ofOut (i := 0) (by decide) h
    · rw [outS_no hs (by rw [one_of, if_neg h]), one_of, if_neg h]
  have h1 := addS_new (S := S) (n := 1) (L := outS S 1 (one ord) (s : Int)) (k := 0) (s := s) (w := 1) (by decide) hs hno
  rw [show ((0 : Nat) : Int) = 0 from rfl] at h1
  rw [h1, upd_eq, one_out hs]
  rfl
end
def seeV (S : Nat) (now s : Int) : Value := if 0 ≤ s ∧ s < S then .tuple [.int .i64 (now + 1), .int .i64 0].toArray else .tuple [.int .i64 0, .int .i64 2].toArray
def seeO (S : Nat) (ord : List Nat) (s : Int) : List Nat := if 0 ≤ s ∧ s < S then ord.erase s.toNat ++ [s.toNat] else ord
def seeT (S : Nat) (T : Nat → Int) (now s : Int) : Nat → Int := if 0 ≤ s ∧ s < S then upd T s.toNat (now + 1) else T
def seeN (S : Nat) (now s : Int) : Int := if 0 ≤ s ∧ s < S then now + 1 else now
def loutE (S : Nat) (ord : List Nat) (s : Int) : Int := if 0 ≤ s ∧ s < S then (if s.toNat ∈ ord then 0 else 6) else 2
def loutO (S : Nat) (ord : List Nat) (s : Int) : List Nat := if 0 ≤ s ∧ s < S then ord.erase s.toNat else ord
def whenV (S : Nat) (ord : List Nat) (T : Nat → Int) (s : Int) : Value := if 0 ≤ s ∧ s < S ∧ s.toNat ∈ ord then .tuple [.int .i64 (T s.toNat), .bool true].toArray else .tuple [.int .i64 0, .bool false].toArray
theorem cst_filter {M : List Nat} {i e : Nat} {p : Nat → Bool} (hi : i < M.length) : cst ((M.take (i + 1)).filter p) = if p (M[i]?.getD e) then cst ((M.take i).filter p) ++ [((M[i]?.getD e : Nat) : Int)] else cst ((M.take i).filter p) := by
  rw [List.take_succ_eq_append_getElem hi, List.filter_append, List.getElem?_eq_getElem hi]
  show cst (List.filter p (M.take i) ++ List.filter p [M[i]]) = if p M[i] then _ else _
  by_cases h : p M[i]
  · rw [if_pos h, List.filter_cons_of_pos h, List.filter_nil, cst_snoc]; rfl
  · rw [if_neg h, List.filter_cons_of_neg h, List.filter_nil, List.append_nil]
end Go.Proofs.YtkhdejjompbklaaGreat.Sx
