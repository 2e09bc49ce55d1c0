/-
  Rows of a slice of slices as lists of numbers; lists by their definition: plain laws. Nothing of a program stands here.
-/
import Derived.Test.YtcokognhodjfgaaLkLaw2
namespace Go.Proofs.Ytcokognhodjfgaa.Sx
open Go
set_option linter.unusedVariables false
set_option linter.unusedSimpArgs false
section
variable {P : Program} {TI : TypeId} {ys zs : List Row} {y : Row} {i : Nat} {l l' : List HP} {w : World}
theorem XC.mono {sz m : Nat} {v : Value} {news : List Value} (h : XC P l sz v m news) (hm : ∀ w, Sep l' w → Sep l w) : XC P l' sz v m news := fun w hw => h w (hm w hw)
theorem XC.row {rr : Option Addr} {cr : Nat} {zs : List Int} (p : Pk (rowsH TI ys) l l') (hi : ys[i]? = some ((rr, cr), zs)) : XC P l 1 (.slice rr zs.length cr) zs.length (zs.flatMap e1) :=
  XC.mono (l := rowH TI ((rr, cr), zs) :: rowsH TI (ys.take i ++ ys.drop (i + 1)) :: l') (XC.sls (T := TI) .here) fun w hw => (hw.pk p).rowAt hi
theorem XC.rowUpto {rr : Option Addr} {cr : Nat} {zs : List Int} {k c : Nat} (p : Pk (rowsH TI ys) l l') (hi : ys[i]? = some ((rr, cr), zs)) (hk : k ≤ zs.length) : XC P l 1 (.slice rr k c) k ((zs.take k).flatMap e1) :=
  XC.mono (l := rowH TI ((rr, cr), zs) :: rowsH TI (ys.take i ++ ys.drop (i + 1)) :: l') (XC.upto (T := TI) (m := zs.length) (cap := cr) .here e1_len hk) fun w hw => (hw.pk p).rowAt hi
theorem XC.rowPart {rr : Option Addr} {cr : Nat} {zs : List Int} {q : Option Addr} {k c lo : Nat} (p : Pk (rowsH TI ys) l l') (hi : ys[i]? = some ((rr, cr), zs)) (hq : q = if cr = lo then rr else rr.map fun x => x.add (lo * 1)) (hk : lo + k ≤ zs.length) : XC P l 1 (.slice q k c) k (((zs.drop lo).take k).flatMap e1) :=
  XC.mono (l := rowH TI ((rr, cr), zs) :: rowsH TI (ys.take i ++ ys.drop (i + 1)) :: l') (XC.part (T := TI) (m := zs.length) (cap := cr) .here e1_len hq hk) fun w hw => (hw.pk p).rowAt hi
theorem Sep.rowLe {rr : Option Addr} {cr : Nat} {zs : List Int} (h : Sep (rowsH TI ys :: l) w) (hi : ys[i]? = some ((rr, cr), zs)) : zs.length ≤ cr := (Sep.slsLe (h.rowAt hi)).1
theorem Sep.rowPut {r' : Option Addr} {m' c' : Nat} {xs : List Int} (h : Sep (rowsH TI ys :: sls r' m' c' TI 1 (xs.flatMap e1) :: l) w) (hm : m' = xs.length) (hi : i < ys.length) : Sep (rowsH TI (ys.set i ((r', c'), xs)) :: l) w := by
  subst hm
  have h1 := h.rowAt (List.getElem?_eq_getElem hi)
  exact Sep.rowSet (y' := ((r', c'), xs)) (h1.sub (Ex.take (.there (.there .here)) (Ex.drop Ex.refl))) hi
theorem Sep.rowsNew {n : Nat} (h : Sep l w) : Sep (rowsH TI (List.replicate n ((none, 0), [])) :: l) w := by
  induction n with
  | zero => exact h.rowsNil
  | succ n ih =>
    rw [List.replicate_succ]
    exact Sep.rowsConsI (Sep.slsNil ih)
end
def RowsOf (n : Nat) (L : Nat → List Nat) (ys : List Row) : Prop := ys.map Prod.snd = (List.range n).map fun k => cst (L k)
section
variable {S n : Nat} {L : Nat → List Nat} {ys : List Row} {v : Int}
theorem RowsOf.len (h : RowsOf n L ys) : ys.length = n := by have := congrArg List.length h; simpa using this
theorem RowsOf.get (h : RowsOf n L ys) {k : Nat} (hk : k < n) : ∃ rr cr, ys[k]? = some ((rr, cr), cst (L k)) := by
  have hl := h.len
  have h9 := congrArg (fun u => u[k]?) h
  simp only [List.getElem?_map] at h9
  rw [List.getElem?_range hk, List.getElem?_eq_getElem (show k < ys.length by omega)] at h9
  simp only [Option.map_some, Option.some.injEq] at h9
  exact ⟨ys[k].1.1, ys[k].1.2, by rw [List.getElem?_eq_getElem (show k < ys.length by omega), ← h9]⟩
theorem RowsOf.set (h : RowsOf n L ys) {k : Nat} {M : List Nat} {p : Option Addr × Nat} {xs : List Int} (hk : k < n) (e : xs = cst M) : RowsOf n (upd L k M) (ys.set k (p, xs)) := by
  unfold RowsOf at h ⊢
  rw [List.map_set, h, e]
  apply List.ext_getElem
  · simp
  · intro i h1 h2
    simp only [List.getElem_set, List.getElem_map, List.getElem_range, upd]
    by_cases e2 : k = i
    · rw [if_pos e2, if_pos e2.symm]
    · rw [if_neg e2, if_neg fun h => e2 h.symm]
theorem RowsOf.new : RowsOf n (fun _ => []) (List.replicate n ((none, 0), [])) := by
  unfold RowsOf
  apply List.ext_getElem
  · simp
  · intro i h1 h2; simp [cst]
theorem zeros_rows : zeros [.slice none 0 0] n = (List.replicate n (((none, 0), []) : Row)).flatMap eR := zeros_flat (zc := [.slice none 0 0]) (enc := eR) (((none, 0), []) : Row) n rfl
/-! ### lists by their definition -/
theorem mem_cst {l : List Nat} : v ∈ cst l ↔ ∃ x : Nat, x ∈ l ∧ v = x := by
  unfold cst; rw [List.mem_map]
  constructor
  · rintro ⟨x, h1, h2⟩; exact ⟨x, h1, h2.symm⟩
  · rintro ⟨x, h1, h2⟩; exact ⟨x, h1, h2.symm⟩
theorem mem_cstN {l : List Nat} {x : Nat} : (x : Int) ∈ cst l ↔ x ∈ l := by
  rw [mem_cst]
  constructor
  · rintro ⟨y, h1, h2⟩; rw [show x = y from by omega]; exact h1
  · intro h; exact ⟨x, h, rfl⟩
def ofI (n : Nat) (L : Nat → List Nat) (v : Int) : Option Nat := (List.range n).find? fun i => decide (v ∈ cst (L i))
theorem ofI_none (h : ∀ i, i < n → v ∉ cst (L i)) : ofI n L v = none := by
  unfold ofI
  rw [List.find?_eq_none]
  intro i hi
  simpa using h i (List.mem_range.1 hi)
theorem ofI_some {i : Nat} (hi : i < n) (hm : v ∈ cst (L i)) (h : ∀ k, k < i → v ∉ cst (L k)) : ofI n L v = some i := by
  unfold ofI
  rw [List.find?_eq_some_iff_append]
  refine ⟨by simpa using hm, List.range i, (List.range (n - i - 1)).map (fun k => i + 1 + k), ?_, fun k hk => by simpa using h k (List.mem_range.1 hk)⟩
  apply List.ext_getElem?
  intro j
  by_cases h1 : j < i
  · rw [List.getElem?_append_left (by simpa using h1), List.getElem?_range (by omega), List.getElem?_range h1]
  · rw [List.getElem?_append_right (by simpa using h1), List.length_range]
    by_cases h2 : j = i
    · subst h2; rw [Nat.sub_self, List.getElem?_range hi]; rfl
    · obtain ⟨d, rfl⟩ : ∃ d, j = i + 1 + d := ⟨j - i - 1, by omega⟩
      rw [show i + 1 + d - i = d + 1 from by omega, List.getElem?_cons_succ, List.getElem?_map]
      by_cases h3 : d < n - i - 1
      · rw [List.getElem?_range h3, List.getElem?_range (by omega)]; rfl
      · rw [List.getElem?_eq_none (by simp; omega), List.getElem?_eq_none (l := List.range (n - i - 1)) (by simp; omega)]; rfl
theorem ofI_ofL {x : Nat} : ofI n L (x : Int) = ofL n L x := by
  unfold ofI ofL
  congr 1
  funext i
  by_cases h : x ∈ L i
  · rw [decide_eq_true h, decide_eq_true (mem_cstN.2 h)]
  · rw [decide_eq_false h, decide_eq_false fun h2 => h (mem_cstN.1 h2)]
theorem WL.ofI (h : WL S n L) : Sx.ofI n L v = ofS S n L v := by
  by_cases hv : 0 ≤ v ∧ v < S
  · obtain ⟨x, rfl⟩ : ∃ x : Nat, v = x := ⟨v.toNat, by omega⟩
    rw [ofI_ofL, ofS_nat (by omega)]
  · rw [ofS_out hv]
    refine ofI_none fun i hi hm => hv ?_
    obtain ⟨x, h1, h2⟩ := mem_cst.1 hm
    have := h.lt i hi x h1
    omega
theorem idxOf_at {l : List Int} {k : Nat} (hk : k < l.length) (h : l[k] = v) (hn : v ∉ l.take k) : l.idxOf v = k := by
  have e : l = l.take k ++ l[k] :: l.drop (k + 1) := by rw [← List.drop_eq_getElem_cons hk, List.take_append_drop]
  rw [e, List.idxOf_append, if_neg hn, h, List.idxOf_cons_self, List.length_take]
  omega
theorem take_no {l : List Int} {k : Nat} (hk : k < l.length) (h : ¬ l[k] = v) (hn : v ∉ l.take k) : v ∉ l.take (k + 1) := by
  rw [List.take_succ_eq_append_getElem hk, List.mem_append, List.mem_singleton]
  rintro (h1 | h1)
  · exact hn h1
  · exact h h1.symm
def posV (n : Nat) (L : Nat → List Nat) (v : Int) : Value := match ofI n L v with
  | some i => .tuple [.int .i64 (i : Int), .int .i64 (((cst (L i)).idxOf v : Nat) : Int)].toArray
  | none => .tuple [.int .i64 (-1), .int .i64 (-1)].toArray
theorem cst_erase {l : List Nat} {x : Nat} (hx : x ∈ l) : (cst l).take ((cst l).idxOf (x : Int)) ++ (cst l).drop ((cst l).idxOf (x : Int) + 1) = cst (l.erase x) := by
  obtain ⟨l1, l2, h1, e, h2⟩ := List.exists_erase_eq hx
  rw [h2]
  have e2 : cst l = cst l1 ++ (x : Int) :: cst l2 := by rw [e]; simp [cst]
  have hn : (x : Int) ∉ cst l1 := fun h => h1 (mem_cstN.1 h)
  have hk : (cst l).idxOf (x : Int) = (cst l1).length := by
    rw [e2, List.idxOf_append, if_neg hn, List.idxOf_cons_self]; omega
  have h3 : (cst l).take (cst l1).length = cst l1 := by rw [e2, List.take_left]
  have h4 : (cst l).drop ((cst l1).length + 1) = cst l2 := by
    rw [e2, show cst l1 ++ (x : Int) :: cst l2 = (cst l1 ++ [(x : Int)]) ++ cst l2 from by simp]
    exact List.drop_left' (by simp)
  rw [hk, h3, h4]
  simp [cst]
theorem idx_cst {l : List Nat} {x : Nat} : (cst l).idxOf (x : Int) = l.idxOf x := by
  induction l with
  | nil => rfl
  | cons y t ih =>
    show ((y : Int) :: cst t).idxOf (x : Int) = _
    by_cases e : y = x
    · subst e; rw [List.idxOf_cons_self, List.idxOf_cons_self]
    · have e1 : ((y : Int) == (x : Int)) = false := by simp; omega
      have e2 : (y == x) = false := by simp; omega
      rw [List.idxOf_cons, List.idxOf_cons, e1, e2, ih]
theorem nextL_back {l : List Nat} {x : Nat} (hn : l.Nodup) (hx : x ∈ l) : nextL 1 l x = if l.idxOf x = 0 then none else l[l.idxOf x - 1]? := by
  have hi := List.idxOf_lt_length_of_mem hx
  have hg : l[l.idxOf x] = x := List.getElem_idxOf hi
  have hr : l.reverse.idxOf x = l.length - 1 - l.idxOf x := by
    have h1 : l.reverse[l.length - 1 - l.idxOf x]'(by simp; omega) = x := by
      rw [List.getElem_reverse]
      simp only [show l.length - 1 - (l.length - 1 - l.idxOf x) = l.idxOf x from by omega]; exact hg
    have h2 := (nodup_rev hn).idxOf_getElem (l.length - 1 - l.idxOf x) (by simp; omega)
    rw [h1] at h2; exact h2
  show l.reverse[l.reverse.idxOf x + 1]? = _
  rw [hr]
  by_cases h0 : l.idxOf x = 0
  · rw [if_pos h0, List.getElem?_eq_none (by simp; omega)]
  · rw [if_neg h0, List.getElem?_reverse (by omega)]
    congr 1; omega
def besR (n : Nat) (L : Nat → List Nat) (v d : Int) : Option Nat := match ofI n L v with
  | some i => if ((cst (L i)).idxOf v : Int) + d < 0 ∨ ((L i).length : Int) ≤ ((cst (L i)).idxOf v : Int) + d then none else (L i)[(((cst (L i)).idxOf v : Int) + d).toNat]?
  | none => none
theorem WL.bes1 (h : WL S n L) : besR n L v 1 = stepS S n L 0 v := by
  unfold besR stepS
  rw [h.ofI]
  cases e : ofS S n L v with
  | none => rfl
  | some i =>
    have hv : 0 ≤ v ∧ v < S := by
      by_cases hv : 0 ≤ v ∧ v < S
      · exact hv
      · rw [ofS_out hv] at e; cases e
    obtain ⟨x, rfl⟩ : ∃ x : Nat, v = x := ⟨v.toNat, by omega⟩
    dsimp only
    rw [idx_cst, Int.toNat_natCast]
    show _ = (L i)[(L i).idxOf x + 1]?
    split
    · rw [List.getElem?_eq_none (by omega)]
    · congr 1
theorem WL.bes2 (h : WL S n L) : besR n L v (-1) = stepS S n L 1 v := by
  unfold besR stepS
  rw [h.ofI]
  cases e : ofS S n L v with
  | none => rfl
  | some i =>
    have hv : 0 ≤ v ∧ v < S := by
      by_cases hv : 0 ≤ v ∧ v < S
      · exact hv
      · rw [ofS_out hv] at e; cases e
    obtain ⟨x, rfl⟩ : ∃ x : Nat, v = x := ⟨v.toNat, by omega⟩
    rw [ofS_nat (by omega)] at e
    obtain ⟨hi, hm⟩ := ofL_mem e
    have hlt := List.idxOf_lt_length_of_mem hm
    dsimp only
    rw [idx_cst, Int.toNat_natCast, nextL_back (h.nd i hi) hm]
    by_cases h0 : (L i).idxOf x = 0
    · rw [if_pos h0, if_pos (by omega)]
    · rw [if_neg h0, if_neg (by omega)]
      congr 1; omega
end
theorem WL.allLen {S n : Nat} {L : Nat → List Nat} (h : WL S n L) {q : Int} : (allS n L q).length ≤ 8192 := by
  unfold allS
  split
  · have := h.len (i := q.toNat) (by omega)
    have := h.s2
    omega
  · simp
theorem posV_some {S n : Nat} {L : Nat → List Nat} (h : WL S n L) {v : Int} {i : Nat} (e : ofS S n L v = some i) : posV n L v = .tuple [.int .i64 (i : Int), .int .i64 (((cst (L i)).idxOf v : Nat) : Int)].toArray := by
  rw [posV, h.ofI, e]
theorem posV_none {S n : Nat} {L : Nat → List Nat} (h : WL S n L) {v : Int} (e : ofS S n L v = none) : posV n L v = .tuple [.int .i64 (-1), .int .i64 (-1)].toArray := by
  rw [posV, h.ofI, e]
theorem WL.ofLt {S n : Nat} {L : Nat → List Nat} (h : WL S n L) {v : Int} : ∀ i, Sx.ofI n L v = some i → i < n := by
  intro i hi
  exact List.mem_range.1 (List.mem_of_find?_eq_some hi)
theorem dir0_head {l : List Nat} (h : 0 < l.length) : (dirL 0 l).head? = some l[0] := by
  show l.head? = _
  rw [List.head?_eq_getElem?, List.getElem?_eq_getElem h]
theorem dir1_head {l : List Nat} (h : 0 < l.length) : (dirL 1 l).head? = some (l[l.length - 1]'(by omega)) := by
  show l.reverse.head? = _
  rw [List.head?_reverse, List.getLast?_eq_getElem?, List.getElem?_eq_getElem]
end Go.Proofs.Ytcokognhodjfgaa.Sx
