/-
  Slices of slices of integers, in memory. Nothing of a program stands here.
-/
import Derived.Test.YtojeibjlkbffcaaInts
import Derived.Test.YtojeibjlkbffcaaMore3
namespace Go.Proofs.Ytojeibjlkbffcaa.Sx
open Go
set_option linter.unusedVariables false
/-- A row: where it stands, how much room it has, its integers. -/
abbrev Row := (Option Addr × Nat) × List Int
def eR (y : Row) : List Value := [.slice y.1.1 y.2.length y.1.2]
def rowH (TI : TypeId) (y : Row) : HP := sls y.1.1 y.2.length y.1.2 TI 1 (y.2.flatMap e1)
def rowsH (TI : TypeId) (ys : List Row) : HP := stars (ys.map (rowH TI))
section
variable {TI : TypeId} {ys zs : List Row} {y y' : Row} {i : Nat} {l l' : List HP} {w : World}
theorem Sep.rowsNil (h : Sep l w) : Sep (rowsH TI [] :: l) w := Sep.packL [] h
theorem rowsH_app {σ : Sig} {h : PH} : rowsH TI (ys ++ zs) σ h ↔ star (rowsH TI ys) (rowsH TI zs) σ h := by
  unfold rowsH
  rw [List.map_append]
  exact stars_app _ _ _ _
theorem Sep.rowsSplit (h : Sep (rowsH TI (ys ++ zs) :: l) w) : Sep (rowsH TI ys :: rowsH TI zs :: l) w := (h.conv fun σ h s => rowsH_app.1 s).split
theorem Sep.rowsJoin (h : Sep (rowsH TI ys :: rowsH TI zs :: l) w) : Sep (rowsH TI (ys ++ zs) :: l) w := (Sep.join h).conv fun σ h s => rowsH_app.2 s
theorem Sep.rowsCons (h : Sep (rowsH TI (y :: ys) :: l) w) : Sep (rowH TI y :: rowsH TI ys :: l) w := Sep.split h
theorem Sep.rowsConsI (h : Sep (rowH TI y :: rowsH TI ys :: l) w) : Sep (rowsH TI (y :: ys) :: l) w := Sep.join h
theorem Sep.rowAt (h : Sep (rowsH TI ys :: l) w) (hi : ys[i]? = some y) : Sep (rowH TI y :: rowsH TI (ys.take i ++ ys.drop (i + 1)) :: l) w := by
  obtain ⟨hlt, he⟩ := List.getElem?_eq_some_iff.1 hi
  have e : ys = ys.take i ++ y :: ys.drop (i + 1) := by rw [← he, ← List.drop_eq_getElem_cons hlt, List.take_append_drop]
  rw [e] at h
  have h1 := h.rowsSplit.swap.rowsCons
  have h2 : Sep (rowsH TI (ys.take i) :: rowsH TI (ys.drop (i + 1)) :: rowH TI y :: l) w := h1.sub (Ex.take (.there (.there .here)) (Ex.take (.there .here) Ex.refl))
  exact h2.rowsJoin.swap
theorem Sep.rowSet (h : Sep (rowH TI y' :: rowsH TI (ys.take i ++ ys.drop (i + 1)) :: l) w) (hi : i < ys.length) : Sep (rowsH TI (ys.set i y') :: l) w := by
  rw [List.set_eq_take_append_cons_drop, if_pos hi]
  have h1 := h.swap.rowsSplit
  have h2 : Sep (rowH TI y' :: rowsH TI (ys.drop (i + 1)) :: rowsH TI (ys.take i) :: l) w := h1.sub (Ex.take (.there (.there .here)) (Ex.take (.there .here) Ex.refl))
  exact h2.rowsConsI.swap.rowsJoin
theorem Sep.rowSnoc (h : Sep (rowH TI y :: rowsH TI ys :: l) w) : Sep (rowsH TI (ys ++ [y]) :: l) w := by
  have h1 : Sep (rowsH TI [] :: rowH TI y :: rowsH TI ys :: l) w := h.rowsNil
  exact (h1.swap.rowsConsI).swap.rowsJoin
theorem IntsAt.mono {q : Option Addr} {xs : List Int} (h : IntsAt l q xs) (hm : ∀ w, Sep l' w → Sep l w) : IntsAt l' q xs := fun h0 =>
  let ⟨b, i, e, r⟩ := h h0
  ⟨b, i, e, fun k hk w hw => r k hk w (hm w hw)⟩
theorem Sep.intsRow (h : Sep l w) (p : Pk (rowsH TI ys) l l') (hi : ys[i]? = some y) : IntsAt l y.1.1 y.2 := by
  have h1 := (h.pk p).rowAt hi
  exact (Sep.intsSls (r := y.1.1) (n := y.2.length) (c := y.1.2) (T := TI) h1 .here).mono fun w hw => (hw.pk p).rowAt hi
end
end Go.Proofs.Ytojeibjlkbffcaa.Sx
