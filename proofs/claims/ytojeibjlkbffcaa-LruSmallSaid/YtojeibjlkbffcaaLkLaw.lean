/-
  Lists of slots: what the statements need. Nothing of a program stands here.
-/
import Derived.Test.YtojeibjlkbffcaaLk4
import Derived.Test.YtojeibjlkbffcaaLs
namespace Go.Proofs.Ytojeibjlkbffcaa.Sx
open Go
set_option linter.unusedVariables false
set_option linter.unusedSimpArgs false
/-- What is known of lists that stand in memory. -/
structure WL (S n : Nat) (L : Nat → List Nat) : Prop where
  s1 : 1 ≤ S
  s2 : S ≤ 8192
  n1 : 1 ≤ n
  n2 : n ≤ 4096
  nd : ∀ i, i < n → (L i).Nodup
  lt : ∀ i, i < n → ∀ x ∈ L i, x < S
  dj : ∀ i j x, i < n → j < n → x ∈ L i → x ∈ L j → i = j
theorem LW.wl {S n : Nat} {L : Nat → List Nat} {P : Nat → Nat → Nat} {R : Nat → Int} {rg nm sz : Nat → Nat} (h : LW S n L P R rg nm sz) : WL S n L :=
  ⟨h.s1, h.s2, h.n1, h.n2, h.nd, h.lt, fun i j x hi hj hx hy => h.dj hi hj hx hy⟩
theorem Sep.linksWL {TL TN TI b S n : Nat} {L : Nat → List Nat} {l : List HP} {w : World} (h : Sep (linksA TL TN TI b S n L :: l) w) : WL S n L := by
  obtain ⟨P, R, rg, nm, sz, r1, c1, r2, c2, r3, c3, r4, c4, hW, _⟩ := h.linksAE
  exact hW.wl
section
variable {S n : Nat} {L : Nat → List Nat}
theorem WL.len (h : WL S n L) {i : Nat} (hi : i < n) : (L i).length ≤ S := nodup_len (h.nd i hi) fun x hx => h.lt i hi x hx
theorem WL.ofL (h : WL S n L) {x i : Nat} (hi : i < n) (hx : x ∈ L i) : ofL n L x = some i := by
  cases e : Sx.ofL n L x with
  | none => exact absurd hx (ofL_none.1 e i hi)
  | some j => rw [h.dj _ _ x (ofL_mem e).1 hi (ofL_mem e).2 hx]
theorem addE_new {k s : Nat} (hk : k < n) (hs : s < S) (hn : ofL n L s = none) : addE S n L (k : Int) (s : Int) = 0 := by
  rw [addE, if_neg (by omega), Int.toNat_natCast, hn, if_neg (by simp)]
theorem addS_new {k s w : Nat} (hk : k < n) (hs : s < S) (hn : ofL n L s = none) : addS S n L w (k : Int) (s : Int) = upd L k (addL w (L k) s) := by
  rw [addS, if_pos (addE_new hk hs hn), Int.toNat_natCast, Int.toNat_natCast]
theorem addE_has {k s i : Nat} (hk : k < n) (hs : s < S) (hn : ofL n L s = some i) : addE S n L (k : Int) (s : Int) = 140 := by
  rw [addE, if_neg (by omega), Int.toNat_natCast, hn, if_pos (by simp)]
theorem addS_has {k s i w : Nat} (hk : k < n) (hs : s < S) (hn : ofL n L s = some i) : addS S n L w (k : Int) (s : Int) = L := by
  rw [addS, addE_has hk hs hn]; rfl
theorem outE_has {s i : Nat} (hs : s < S) (hn : ofL n L s = some i) : outE S n L (s : Int) = 0 := by
  rw [outE, if_neg (by omega), Int.toNat_natCast, hn, if_pos (by simp)]
theorem outS_has {s i : Nat} (hs : s < S) (hn : ofL n L s = some i) : outS S n L (s : Int) = upd L i ((L i).erase s) := by
  rw [outS, if_neg (by omega), Int.toNat_natCast, hn]
theorem outE_no {s : Nat} (hs : s < S) (hn : ofL n L s = none) : outE S n L (s : Int) = 6 := by
  rw [outE, if_neg (by omega), Int.toNat_natCast, hn, if_neg (by simp)]
theorem outS_no {s : Nat} (hs : s < S) (hn : ofL n L s = none) : outS S n L (s : Int) = L := by
  rw [outS, if_neg (by omega), Int.toNat_natCast, hn]
theorem ofS_nat {s : Nat} (hs : s < S) : ofS S n L (s : Int) = ofL n L s := by
  rw [ofS, if_pos (by omega), Int.toNat_natCast]
theorem endS_nat {k w : Nat} (hk : k < n) : endS n L w (k : Int) = (dirL w (L k)).head? := by
  rw [endS, if_pos (by omega), Int.toNat_natCast]
theorem allS_nat {k : Nat} (hk : k < n) : allS n L (k : Int) = L k := by
  rw [allS, if_pos (by omega), Int.toNat_natCast]
/-- What was put in is there. -/
theorem WL.ofAdd (h : WL S n L) {k s w : Nat} (hk : k < n) (hn : Sx.ofL n L s = none) : Sx.ofL n (upd L k (addL w (L k) s)) s = some k := by
  have hno := ofL_none.1 hn
  cases e : Sx.ofL n (upd L k (addL w (L k) s)) s with
  | none => exact absurd (addL_mem.2 (.inl rfl)) (by have := ofL_none.1 e k hk; rwa [upd_eq] at this)
  | some j =>
    obtain ⟨h1, h2⟩ := ofL_mem e
    rcases upd_cases (f := L) (i := k) (j := j) (v := addL w (L k) s) with ⟨e1, e2⟩ | ⟨e1, e2⟩
    · rw [e1]
    · rw [e2] at h2; exact absurd h2 (hno j h1)
theorem erase_addL {w s : Nat} {l : List Nat} (hs : s ∉ l) : (addL w l s).erase s = l := by
  unfold addL
  split
  · rw [List.erase_cons_head]
  · rw [List.erase_append_right _ hs, List.erase_cons_head, List.append_nil]
theorem upd_self {α : Type} {f : Nat → α} {i : Nat} {v : α} (h : f i = v) : upd f i v = f := by
  funext j
  unfold upd
  by_cases e : j = i
  · rw [if_pos e, e, h]
  · rw [if_neg e]
theorem upd_upd {α : Type} {f : Nat → α} {i : Nat} {u v : α} : upd (upd f i u) i v = upd f i v := by
  funext j
  unfold upd
  by_cases e : j = i
  · rw [if_pos e, if_pos e]
  · rw [if_neg e, if_neg e, if_neg e]
theorem add_out {k s w : Nat} (hk : k < n) (hn : ofL n L s = none) : upd (upd L k (addL w (L k) s)) k ((upd L k (addL w (L k) s) k).erase s) = L := by
  rw [upd_eq, erase_addL (ofL_none.1 hn k hk), upd_upd, upd_self rfl]
theorem WL.ofOut (h : WL S n L) {i s : Nat} (hi : i < n) (hs : s ∈ L i) : Sx.ofL n (upd L i ((L i).erase s)) s = none := by
  rw [ofL_none]
  intro j hj hm
  rcases upd_cases (f := L) (i := i) (j := j) (v := (L i).erase s) with ⟨e1, e2⟩ | ⟨e1, e2⟩ <;> rw [e2] at hm
  · exact ((h.nd i hi).mem_erase_iff.1 hm).1 rfl
  · exact e1 (h.dj _ _ s hj hi hm hs)
theorem out_front {i s : Nat} (hs : (L i).head? = some s) : upd (upd L i ((L i).erase s)) i (addL 0 (upd L i ((L i).erase s) i) s) = L := by
  rw [upd_eq, upd_upd]
  refine upd_self ?_
  cases e : L i with
  | nil => rw [e] at hs; cases hs
  | cons y t =>
    rw [e] at hs
    simp only [List.head?_cons, Option.some.injEq] at hs
    subst hs
    rw [List.erase_cons_head]; rfl
theorem out_back {i s : Nat} (hn : (L i).Nodup) (hs : (dirL 1 (L i)).head? = some s) : upd (upd L i ((L i).erase s)) i (addL 1 (upd L i ((L i).erase s) i) s) = L := by
  rw [upd_eq, upd_upd]
  refine upd_self ?_
  have h1 : (L i).reverse.head? = some s := hs
  cases e : (L i).reverse with
  | nil => rw [e] at h1; cases h1
  | cons y t =>
    rw [e] at h1
    simp only [List.head?_cons, Option.some.injEq] at h1
    subst h1
    have e2 : L i = t.reverse ++ [y] := by rw [← List.reverse_reverse (L i), e, List.reverse_cons]
    rw [e2] at hn ⊢
    have hy : y ∉ t.reverse := fun hm => by
      rw [List.nodup_append] at hn
      exact hn.2.2 y hm y (by simp) rfl
    rw [List.erase_append_right _ hy, List.erase_cons_head, List.append_nil]; rfl
theorem head_some {w x : Nat} {l : List Nat} (hx : x ∈ l) : ∃ y, (dirL w l).head? = some y ∧ y ∈ l := by
  cases e : dirL w l with
  | nil => have := dirL_mem (w := w).2 hx; rw [e] at this; simp at this
  | cons y t => exact ⟨y, rfl, dirL_mem (w := w).1 (by rw [e]; exact List.mem_cons_self)⟩
theorem WL.step (h : WL S n L) {k i w : Nat} (hk : k < n) (hi : i < (dirL w (L k)).length) : stepS S n L w (((dirL w (L k))[i] : Nat) : Int) = (dirL w (L k))[i + 1]? := by
  have hm : (dirL w (L k))[i] ∈ L k := dirL_mem.1 (List.getElem_mem hi)
  have hn := dirL_nodup (w := w) (h.nd k hk)
  rw [stepS, ofS_nat (h.lt k hk _ hm), h.ofL hk hm]
  dsimp only
  rw [Int.toNat_natCast, nextL]
  congr 1
  rw [hn.idxOf_getElem]
end
/-! ### lists put together from bytes -/
def S9 (n : Nat) : Nat := max (min n 20) 1
def kOf (xs : List (List Int)) (n i : Nat) : Nat := (((xs[i]?.getD []).headD 0) % ((n : Int) + 1)).toNat
def putL (xs : List (List Int)) (n : Nat) : Nat → Nat → List Nat
  | 0 => fun _ => []
  | i + 1 => if kOf xs n i < n then upd (putL xs n i) (kOf xs n i) (putL xs n i (kOf xs n i) ++ [i]) else putL xs n i
theorem putL_lt {xs : List (List Int)} {n : Nat} : ∀ {i k x : Nat}, x ∈ putL xs n i k → x < i
  | 0, k, x, h => by simp [putL] at h
  | i + 1, k, x, h => by
    unfold putL at h
    split at h
    · rcases upd_cases (f := putL xs n i) (i := kOf xs n i) (j := k) (v := putL xs n i (kOf xs n i) ++ [i]) with ⟨e1, e2⟩ | ⟨e1, e2⟩ <;> rw [e2] at h
      · rcases List.mem_append.1 h with h | h
        · have := putL_lt h; omega
        · simp at h; omega
      · have := putL_lt h; omega
    · have := putL_lt h; omega
theorem putL_no {xs : List (List Int)} {n m i : Nat} : ofL m (putL xs n i) i = none := ofL_none.2 fun k _ h => by have := putL_lt h; omega
theorem putL_yes {xs : List (List Int)} {n i k : Nat} (h : kOf xs n i = k) (hk : k < n) : putL xs n (i + 1) = upd (putL xs n i) k (addL 1 (putL xs n i k) i) := by
  subst h
  conv => lhs; unfold putL
  rw [if_pos hk]; rfl
theorem putL_not {xs : List (List Int)} {n i k : Nat} (h : kOf xs n i = k) (hk : ¬ k < n) : putL xs n (i + 1) = putL xs n i := by
  subst h
  conv => lhs; unfold putL
  rw [if_neg hk]
end Go.Proofs.Ytojeibjlkbffcaa.Sx
