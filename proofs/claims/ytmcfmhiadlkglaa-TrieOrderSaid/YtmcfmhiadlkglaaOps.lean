/-
  Steps of a walk in terms of known slots ('Has') and assertions on the heap ('Sep'): one rule for each kind of operation. Nothing of a program stands here.
-/
import Derived.Test.YtmcfmhiadlkglaaSep
import Derived.OrdersHeld
namespace Go.Proofs.Ytmcfmhiadlkglaa.Sx
open Go
set_option linter.unusedVariables false

abbrev Slots := List (Nat × Value)

/-- What a slot is listed to hold. -/
def lk (t : Nat) : Slots → Option Value
  | [] => none
  | (k, v) :: S => bif Nat.beq t k then some v else lk t S
theorem lk_cons (t k : Nat) (v : Value) (S : Slots) : lk t ((k, v) :: S) = if t = k then some v else lk t S := by
  simp only [lk]
  by_cases h : t = k
  · subst h; simp
  · simp [h, cond_eq_ite]

/-- The frame has n slots, nothing is deferred, and the listed slots hold what is listed. -/
structure Has (n : Nat) (a : Act) (S : Slots) : Prop where
  size : a.tmps.size = n
  defers : a.defers = []
  at' : ∀ t v, lk t S = some v → a.tmps[t]? = some v

def ev (S : Slots) : Operand → Option Value
  | .tmp t => lk t S
  | .const v => some v
  | .global g => some (.pointer (some ⟨g, 0, none⟩))
  | .func f => some (.func (.func f) #[] #[])
def evs (S : Slots) : List Operand → Option (List Value)
  | [] => some []
  | x :: xs => match ev S x, evs S xs with
    | some v, some vs => some (v :: vs)
    | _, _ => none

section
variable {n : Nat} {a : Act} {S : Slots}
theorem Has.put (h : Has n a S) (d : Nat) (v : Value) (hd : d < n) : Has n (a.put (some d) v) ((d, v) :: S) := by
  refine ⟨by simp [Act.put, h.size], by simp [Act.put, h.defers], fun t u hl => ?_⟩
  simp only [Act.put, lk_cons] at hl ⊢
  by_cases ht : t = d
  · subst ht
    simp at hl
    subst hl
    simp [h.size, hd]
  · rw [if_neg ht] at hl
    rw [Array.getElem?_setIfInBounds_ne (fun e => ht e.symm)]
    exact h.at' t u hl
theorem Has.put0 (h : Has n a S) (v : Value) : Has n (a.put none v) S := h
theorem Has.ev (h : Has n a S) {x : Operand} {v : Value} (hx : ev S x = some v) : a.eval x = v := by
  cases x with
  | tmp t =>
    have := h.at' t v hx
    simp [Act.eval, Array.getD_eq_getD_getElem?, this]
  | const u => simpa [Sx.ev, Act.eval] using hx
  | global g => simpa [Sx.ev, Act.eval] using hx
  | func f => simpa [Sx.ev, Act.eval] using hx
theorem Has.evs (h : Has n a S) : ∀ {xs : List Operand} {vs : List Value}, evs S xs = some vs → xs.map a.eval = vs
  | [], vs, hx => by simpa [Sx.evs] using hx
  | x :: xs, vs, hx => by
    simp only [Sx.evs] at hx
    cases hv : Sx.ev S x with
    | none => simp [hv] at hx
    | some v =>
      cases hvs : Sx.evs S xs with
      | none => simp [hv, hvs] at hx
      | some us =>
        simp [hv, hvs] at hx
        subst hx
        simp [h.ev hv, h.evs hvs]
theorem Has.yielded (h : Has n a S) {ops : Array Oper} {j t : Nat} {b : Bool} (hj : (ops[j]?).bind (·.dst) = some t) (hl : lk t S = some (.bool b)) :
    yielded ops a.tmps j = some b := by
  have := h.at' t _ hl
  simp [Go.yielded, hj, this]

theorem Has.yieldedU (h : Has n a S) {ops : Array Oper} {j t : Nat} (hj : (ops[j]?).bind (·.dst) = some t) (hl : lk t S = some undef) : Go.yielded ops a.tmps j = none := by
  have := h.at' t _ hl
  simp [Go.yielded, hj, this, undef]

/-- What is known of the slots of one list is known of those of the other. -/
def Le (T S : Slots) : Prop := ∀ t v, lk t T = some v → lk t S = some v
theorem Has.le {T : Slots} (h : Has n a S) (l : Le T S) : Has n a T := ⟨h.size, h.defers, fun t v e => h.at' t v (l t v e)⟩
theorem Le.refl (S : Slots) : Le S S := fun _ _ h => h
theorem Le.nilapp {T S : Slots} (h : Le T S) : Le ([] ++ T) S := h
theorem Le.nil (S : Slots) : Le [] S := fun t v h => by simp [lk] at h
theorem Le.cons {T S : Slots} {t : Nat} {v : Value} (h : lk t S = some v) (l : Le T S) : Le ((t, v) :: T) S := by
  intro u x e
  rw [lk_cons] at e
  split at e
  · rename_i hu; subst hu; cases e; exact h
  · exact l u x e
theorem Le.skip {T S : Slots} {k : Nat} {u : Value} (h : lk k T = none) (l : Le T S) : Le T ((k, u) :: S) := by
  intro t v e
  rw [lk_cons]
  split
  · rename_i ht; subst ht; rw [h] at e; cases e
  · exact l t v e
/-- The list without some slots. -/
def without (M : List Nat) (S : Slots) : Slots := S.filter fun p => !M.any (Nat.beq p.1)
theorem without_cons (M : List Nat) (p : Nat × Value) (S : Slots) : without M (p :: S) = if M.any (Nat.beq p.1) = true then without M S else p :: without M S := by
  simp only [without, List.filter]
  cases M.any (Nat.beq p.1) <;> simp
theorem lk_without {M : List Nat} {S : Slots} {k : Nat} (h : M.any (Nat.beq k) = true) : lk k (without M S) = none := by
  induction S with
  | nil => rfl
  | cons p S ih =>
    obtain ⟨t, v⟩ := p
    rw [without_cons]
    split
    · exact ih
    · rename_i hc
      rw [lk_cons]
      split
      · rename_i hk; subst hk; exact absurd h hc
      · exact ih
theorem Le.without (M : List Nat) (S : Slots) : Le (without M S) S := by
  induction S with
  | nil => exact Le.refl _
  | cons p S ih =>
    obtain ⟨t, v⟩ := p
    intro k u e
    rw [without_cons] at e
    split at e
    · rename_i hc
      rw [lk_cons]
      split
      · rename_i hk
        subst hk
        rw [lk_without hc] at e; cases e
      · exact ih k u e
    · rw [lk_cons] at e ⊢
      by_cases hk : k = t
      · rw [if_pos hk] at e ⊢; exact e
      · rw [if_neg hk] at e ⊢; exact ih k u e
/-- What a bool says where it is true, and where it is false. -/
class BT (b : Bool) (t f : outParam Prop) : Prop where
  tt : b = true → t
  ff : b = false → f
instance (priority := 10) (b : Bool) : BT b (b = true) (b = false) := ⟨id, id⟩
instance (priority := 100) (p : Prop) [Decidable p] : BT (decide p) p (¬ p) := ⟨of_decide_eq_true, of_decide_eq_false⟩
instance (x y : Int) : BT (decide (x < y)) (x < y) (y ≤ x) := ⟨of_decide_eq_true, fun h => Int.not_lt.1 (of_decide_eq_false h)⟩
instance (x y : Int) : BT (decide (x ≤ y)) (x ≤ y) (y < x) := ⟨of_decide_eq_true, fun h => Int.not_le.1 (of_decide_eq_false h)⟩
instance (x y : Int) : BT (decide (x ≠ y)) (x ≠ y) (x = y) := ⟨of_decide_eq_true, fun h => Decidable.not_not.1 (of_decide_eq_false h)⟩
instance (x y : Nat) : BT (decide (x < y)) (x < y) (y ≤ x) := ⟨of_decide_eq_true, fun h => Nat.not_lt.1 (of_decide_eq_false h)⟩
instance (b : Bool) (t f : Prop) [h : BT b t f] : BT (!b) f t := ⟨fun e => h.ff (by simpa using e), fun e => h.tt (by simpa using e)⟩
theorem Has.splitB {t : Nat} {e : Bool} {G : Prop} (h : Has n a S) (hl : lk t S = some (.bool e)) {p q : Prop} [hb : BT e p q]
    (ht : p → Has n a ((t, .bool true) :: S) → G) (hf : q → Has n a ((t, .bool false) :: S) → G) : G := by
  cases e with
  | true => exact ht (hb.tt rfl) (h.le (Le.cons hl (Le.refl _)))
  | false => exact hf (hb.ff rfl) (h.le (Le.cons hl (Le.refl _)))
/-- A slot's bool, said in another way. -/
theorem Has.sayB {t : Nat} {e : Bool} (h : Has n a S) (u : Bool) (hl : lk t S = some (.bool e)) (x : e = u) : Has n a ((t, .bool u) :: S) :=
  h.le (Le.cons (x ▸ hl) (Le.refl _))
/-- A slot's value, said in another way. -/
theorem Has.say {t : Nat} {v : Value} (h : Has n a S) (u : Value) (hl : lk t S = some v) (e : v = u) : Has n a ((t, u) :: S) :=
  h.le (Le.cons (e ▸ hl) (Le.refl _))
end

/-- The operation yields v in every world in which the assertions hold, and leaves it as it is. -/
def Yld (P : Program) (a : Act) (l : List HP) (o : Oper) (v : Value) : Prop := ∀ w, Sep l w → (execOp a.eval o).run P w = .ok (.value v) w

/-- The cell can be read. -/
def Rd (l : List HP) (b i : Nat) (v : Value) : Prop := ∀ w, Sep l w → w.cell? ⟨b, i, none⟩ = some v
theorem Rd.blk {l l' : List HP} {b i : Nat} {cs : List Value} {T : TypeId} {v : Value} (p : Pk (Sx.blk b cs T) l l') (h : cs[i]? = some v) : Rd l b i v :=
  fun w hw => by rw [blk_cell (hw.pk p)]; exact h
theorem Rd.old {l l' : List HP} {W : World} {b i : Nat} {v : Value} (p : Pk (Sx.old W) l l') (h : W.cell? ⟨b, i, none⟩ = some v) : Rd l b i v := by
  intro w hw
  have hb : b < W.heap.size := World.block_lt_of_cell? W _ h
  have := (hw.pk p).readOld hb
  rw [← h]
  simp only [World.cell?, this]
/-- A row of cells can be read. -/
def Rds (l : List HP) (b i : Nat) (vs : List Value) : Prop := ∀ w, Sep l w → ∀ j v, vs[j]? = some v → w.cell? ⟨b, i + j, none⟩ = some v
theorem Rds.blk {l l' : List HP} {b i : Nat} {cs vs : List Value} {T : TypeId} (p : Pk (Sx.blk b cs T) l l') (h : (cs.drop i).take vs.length = vs) : Rds l b i vs := by
  intro w hw j v hj
  rw [blk_cell (hw.pk p)]
  rw [← h] at hj
  rw [List.getElem?_take] at hj
  split at hj
  · rw [List.getElem?_drop] at hj; exact hj
  · cases hj
theorem Rds.blk0 {l l' : List HP} {b : Nat} {cs : List Value} {T : TypeId} (p : Pk (Sx.blk b cs T) l l') : Rds l b 0 cs :=
  Rds.blk p (by simp)
theorem Rds.old {l l' : List HP} {W : World} {b i : Nat} {vs : List Value} (p : Pk (Sx.old W) l l') (h : ∀ j v, vs[j]? = some v → W.cell? ⟨b, i + j, none⟩ = some v) : Rds l b i vs :=
  fun w hw j v hj => Rd.old p (h j v hj) w hw

theorem Rds.at {l : List HP} {b i j : Nat} {vs : List Value} (h : Rds l b i vs) (e : j = i) : Rds l b j vs := e ▸ h
theorem Rd.at {l : List HP} {b i j : Nat} {v : Value} (h : Rd l b i v) (e : j = i) : Rd l b j v := e ▸ h
/-- Records of one length, laid one behind the other. -/
theorem flat_len {α : Type} {enc : α → List Value} {m : Nat} (hm : ∀ x, (enc x).length = m) (xs : List α) : (xs.flatMap enc).length = xs.length * m := by
  induction xs with
  | nil => simp
  | cons x xs ih => simp [ih, hm, Nat.succ_mul, Nat.add_comm]
theorem flat_get {α : Type} {enc : α → List Value} {m : Nat} (hm : ∀ x, (enc x).length = m) : ∀ (xs : List α) (rest : List Value) (k j : Nat) (hk : k < xs.length), j < m → (xs.flatMap enc ++ rest)[k * m + j]? = (enc xs[k])[j]?
  | [], _, k, j, hk, _ => by simp at hk
  | x :: xs, rest, 0, j, _, hj => by
    simp only [List.flatMap_cons, Nat.zero_mul, Nat.zero_add, List.append_assoc, List.getElem_cons_zero]
    rw [List.getElem?_append_left (by rw [hm]; exact hj)]
  | x :: xs, rest, k + 1, j, hk, hj => by
    have := flat_get hm xs rest k j (by simpa using hk) hj
    simp only [List.flatMap_cons, List.append_assoc, List.getElem_cons_succ]
    rw [List.getElem?_append_right (by rw [hm, Nat.succ_mul]; omega), hm, show (k + 1) * m + j - m = k * m + j from by rw [Nat.succ_mul]; omega]
    exact this
theorem Rds.flat {α : Type} {l l' : List HP} {b k m : Nat} {xs : List α} {rest : List Value} {T : TypeId} {enc : α → List Value} (p : Pk (Sx.blk b (xs.flatMap enc ++ rest) T) l l') (hm : ∀ x, (enc x).length = m) (hk : k < xs.length) : Rds l b (k * m) (enc xs[k]) := by
  intro w hw j v hj
  have hjm : j < m := by
    rw [← hm xs[k]]
    rcases Nat.lt_or_ge j (enc xs[k]).length with h | h
    · exact h
    · rw [List.getElem?_eq_none h] at hj; cases hj
  rw [blk_cell (hw.pk p), flat_get hm xs rest k j hk hjm]
  exact hj
theorem Rds.rd {l : List HP} {b i : Nat} {vs : List Value} {v : Value} (h : Rds l b i vs) (e : vs[0]? = some v) : Rd l b i v := fun w hw => h w hw 0 v e
theorem Rds.nil {l : List HP} {b i : Nat} : Rds l b i [] := fun _ _ j v h => by simp at h
theorem Rds.cons {l : List HP} {b i : Nat} {v : Value} {vs : List Value} (h : Rd l b i v) (hs : Rds l b (i + 1) vs) : Rds l b i (v :: vs) := by
  intro w hw j u hj
  cases j with
  | zero => simp at hj; subst hj; exact h w hw
  | succ j =>
    have := hs w hw j u (by simpa using hj)
    rwa [show i + 1 + j = i + (j + 1) from by omega] at this
section
variable {P : Program} {n : Nat} {a : Act} {S : Slots} {l : List HP} {d : Option Nat} {t : TypeId} {pos : String} {af : Array Edge} {g : Option (Nat × Bool)}

theorem Yld.move {x : Operand} {v : Value} (hS : Has n a S) (hx : ev S x = some v) : Yld P a l ⟨d, .move x, t, pos, af, g⟩ v :=
  fun w _ => by simp only [execOp, hS.ev hx]; rfl
theorem Yld.assign {x : Operand} {v : Value} (hS : Has n a S) (hx : ev S x = some v) : Yld P a l ⟨d, .assign x, t, pos, af, g⟩ v :=
  fun w _ => by simp only [execOp, hS.ev hx]; rfl
theorem Yld.pickT {c x y : Operand} {v : Value} (hS : Has n a S) (hc : ev S c = some (.bool true)) (hx : ev S x = some v) : Yld P a l ⟨d, .pick c x y, t, pos, af, g⟩ v :=
  fun w _ => by simp [execOp, hS.ev hc, hS.ev hx, asBool]
theorem Yld.pickF {c x y : Operand} {v : Value} (hS : Has n a S) (hc : ev S c = some (.bool false)) (hx : ev S y = some v) : Yld P a l ⟨d, .pick c x y, t, pos, af, g⟩ v :=
  fun w _ => by simp [execOp, hS.ev hc, hS.ev hx, asBool]
theorem Yld.extract {x : Operand} {vs : List Value} {i : Nat} {v : Value} (hS : Has n a S) (hx : ev S x = some (.tuple vs.toArray)) (hi : vs[i]? = some v) : Yld P a l ⟨d, .extract x i, t, pos, af, g⟩ v :=
  fun w _ => by simp [execOp, hS.ev hx, Instr.extract, hi]
theorem Yld.not {x : Operand} {ty : TypeId} {b : Bool} (hS : Has n a S) (hx : ev S x = some (.bool b)) : Yld P a l ⟨d, .unOp .not ty x, t, pos, af, g⟩ (.bool !b) :=
  fun w _ => by simp [execOp, hS.ev hx, Op.unary]
theorem Yld.nilCheck {x : Operand} {p : Addr} (hS : Has n a S) (hx : ev S x = some (.pointer (some p))) : Yld P a l ⟨d, .nilCheck x, t, pos, af, g⟩ (.pointer (some p)) :=
  fun w _ => by simp [execOp, hS.ev hx]
theorem Yld.makeFunc {fn : Fn} {xs ys : List Operand} {vs us : List Value} (hS : Has n a S) (hx : evs S xs = some vs) (hy : evs S ys = some us) : Yld P a l ⟨d, .makeFunc fn xs.toArray ys.toArray, t, pos, af, g⟩ (.func fn vs.toArray us.toArray) :=
  fun w _ => by simp [execOp, Instr.makeFunc, List.map_toArray, hS.evs hx, hS.evs hy]
theorem Yld.convInt {x : Operand} {s u : TypeId} {k k' : IntKind} {m : Int} (hS : Has n a S) (hx : ev S x = some (.int k m)) (hs : (P.underlying s).isSome = true) (hu : P.underlying u = some (.int k')) :
    Yld P a l ⟨d, .convert s u x, t, pos, af, g⟩ (.int k' (k'.wrap m)) := by
  intro w _
  obtain ⟨ds, hs'⟩ := Option.isSome_iff_exists.1 hs
  cases ds <;> simp [execOp, hS.ev hx, convert, run_underlying hs', run_underlying hu, Conv.intToInt]
section ints
variable {x y : Operand} {ty ty' : TypeId} {k : IntKind} {p q : Int}
theorem Yld.add (hS : Has n a S) (hx : ev S x = some (.int k p)) (hy : ev S y = some (.int k q)) : Yld P a l ⟨d, .binOp .add ty x y ty', t, pos, af, g⟩ (.int k (k.wrap (p + q))) :=
  fun w _ => by simp [execOp, hS.ev hx, hS.ev hy, eqGuard, binOp, Op.intArith]
theorem Yld.sub (hS : Has n a S) (hx : ev S x = some (.int k p)) (hy : ev S y = some (.int k q)) : Yld P a l ⟨d, .binOp .sub ty x y ty', t, pos, af, g⟩ (.int k (k.wrap (p - q))) :=
  fun w _ => by simp [execOp, hS.ev hx, hS.ev hy, eqGuard, binOp, Op.intArith]
theorem Yld.mul (hS : Has n a S) (hx : ev S x = some (.int k p)) (hy : ev S y = some (.int k q)) : Yld P a l ⟨d, .binOp .mul ty x y ty', t, pos, af, g⟩ (.int k (k.wrap (p * q))) :=
  fun w _ => by simp [execOp, hS.ev hx, hS.ev hy, eqGuard, binOp, Op.intArith]
theorem Yld.add64 (hS : Has n a S) (hx : ev S x = some (.int .i64 p)) (hy : ev S y = some (.int .i64 q)) (hb : -9223372036854775808 ≤ p + q ∧ p + q ≤ 9223372036854775807) : Yld P a l ⟨d, .binOp .add ty x y ty', t, pos, af, g⟩ (.int .i64 (p + q)) := by
  have h := Yld.add (P := P) (l := l) (d := d) (ty := ty) (ty' := ty') (t := t) (pos := pos) (af := af) (g := g) hS hx hy
  rw [IntWalk.i64_in _ hb] at h; exact h
theorem Yld.sub64 (hS : Has n a S) (hx : ev S x = some (.int .i64 p)) (hy : ev S y = some (.int .i64 q)) (hb : -9223372036854775808 ≤ p - q ∧ p - q ≤ 9223372036854775807) : Yld P a l ⟨d, .binOp .sub ty x y ty', t, pos, af, g⟩ (.int .i64 (p - q)) := by
  have h := Yld.sub (P := P) (l := l) (d := d) (ty := ty) (ty' := ty') (t := t) (pos := pos) (af := af) (g := g) hS hx hy
  rw [IntWalk.i64_in _ hb] at h; exact h
theorem Yld.mul64 (hS : Has n a S) (hx : ev S x = some (.int .i64 p)) (hy : ev S y = some (.int .i64 q)) (hb : -9223372036854775808 ≤ p * q ∧ p * q ≤ 9223372036854775807) : Yld P a l ⟨d, .binOp .mul ty x y ty', t, pos, af, g⟩ (.int .i64 (p * q)) := by
  have h := Yld.mul (P := P) (l := l) (d := d) (ty := ty) (ty' := ty') (t := t) (pos := pos) (af := af) (g := g) hS hx hy
  rw [IntWalk.i64_in _ hb] at h; exact h
theorem Yld.quo (hS : Has n a S) (hx : ev S x = some (.int k p)) (hy : ev S y = some (.int k q)) (h0 : q ≠ 0) : Yld P a l ⟨d, .binOp .quo ty x y ty', t, pos, af, g⟩ (.int k (k.wrap (p.tdiv q))) :=
  fun w _ => by simp [execOp, hS.ev hx, hS.ev hy, eqGuard, binOp, Op.intDiv, h0]
theorem Yld.rem (hS : Has n a S) (hx : ev S x = some (.int k p)) (hy : ev S y = some (.int k q)) (h0 : q ≠ 0) : Yld P a l ⟨d, .binOp .rem ty x y ty', t, pos, af, g⟩ (.int k (p.tmod q)) :=
  fun w _ => by simp [execOp, hS.ev hx, hS.ev hy, eqGuard, binOp, Op.intDiv, h0]
theorem Yld.quo64 (hS : Has n a S) (hx : ev S x = some (.int .i64 p)) (hy : ev S y = some (.int .i64 q)) (hb : 0 ≤ p ∧ p ≤ 9223372036854775807 ∧ 1 ≤ q) : Yld P a l ⟨d, .binOp .quo ty x y ty', t, pos, af, g⟩ (.int .i64 (p / q)) := by
  have h := Yld.quo (P := P) (l := l) (d := d) (ty := ty) (ty' := ty') (t := t) (pos := pos) (af := af) (g := g) hS hx hy (by omega)
  rw [IntWalk.i64_quo _ _ hb] at h; exact h
theorem Yld.rem64 (hS : Has n a S) (hx : ev S x = some (.int k p)) (hy : ev S y = some (.int k q)) (hb : 0 ≤ p ∧ 1 ≤ q) : Yld P a l ⟨d, .binOp .rem ty x y ty', t, pos, af, g⟩ (.int k (p % q)) := by
  have h := Yld.rem (P := P) (l := l) (d := d) (ty := ty) (ty' := ty') (t := t) (pos := pos) (af := af) (g := g) hS hx hy (by omega)
  rw [IntWalk.rem_in _ _ hb.1] at h; exact h
theorem Yld.lss (hS : Has n a S) (hx : ev S x = some (.int k p)) (hy : ev S y = some (.int k q)) : Yld P a l ⟨d, .binOp .lss ty x y ty', t, pos, af, g⟩ (.bool (decide (p < q))) :=
  fun w _ => by simp [execOp, hS.ev hx, hS.ev hy, eqGuard, binOp, Op.intCmp]
theorem Yld.leq (hS : Has n a S) (hx : ev S x = some (.int k p)) (hy : ev S y = some (.int k q)) : Yld P a l ⟨d, .binOp .leq ty x y ty', t, pos, af, g⟩ (.bool (decide (p ≤ q))) :=
  fun w _ => by simp [execOp, hS.ev hx, hS.ev hy, eqGuard, binOp, Op.intCmp]
theorem Yld.gtr (hS : Has n a S) (hx : ev S x = some (.int k p)) (hy : ev S y = some (.int k q)) : Yld P a l ⟨d, .binOp .gtr ty x y ty', t, pos, af, g⟩ (.bool (decide (q < p))) :=
  fun w _ => by simp [execOp, hS.ev hx, hS.ev hy, eqGuard, binOp, Op.intCmp]
theorem Yld.geq (hS : Has n a S) (hx : ev S x = some (.int k p)) (hy : ev S y = some (.int k q)) : Yld P a l ⟨d, .binOp .geq ty x y ty', t, pos, af, g⟩ (.bool (decide (q ≤ p))) :=
  fun w _ => by simp [execOp, hS.ev hx, hS.ev hy, eqGuard, binOp, Op.intCmp]
theorem Yld.eql (hS : Has n a S) (hx : ev S x = some (.int k p)) (hy : ev S y = some (.int k q)) : Yld P a l ⟨d, .binOp .eql ty x y ty', t, pos, af, g⟩ (.bool (decide (p = q))) :=
  fun w _ => by simp [execOp, hS.ev hx, hS.ev hy, eqGuard, binOp, Op.intCmp]; by_cases h : p = q <;> simp [h]
theorem Yld.neq (hS : Has n a S) (hx : ev S x = some (.int k p)) (hy : ev S y = some (.int k q)) : Yld P a l ⟨d, .binOp .neq ty x y ty', t, pos, af, g⟩ (.bool (decide (p ≠ q))) :=
  fun w _ => by simp [execOp, hS.ev hx, hS.ev hy, eqGuard, binOp, Op.intCmp]; by_cases h : p = q <;> simp [h]
end ints
theorem Yld.eqlB {x y : Operand} {ty ty' : TypeId} {p q : Bool} (hS : Has n a S) (hx : ev S x = some (.bool p)) (hy : ev S y = some (.bool q)) (hu : P.underlying ty = some .bool) : Yld P a l ⟨d, .binOp .eql ty x y ty', t, pos, af, g⟩ (.bool (p == q)) :=
  fun w _ => by simp only [execOp, hS.ev hx, hS.ev hy, eqGuard_at_bool, Sem.run_bind, Sem.run_pure, Result.andThen_ok, run_eql_bool w ty p q hu]
theorem Yld.neqB {x y : Operand} {ty ty' : TypeId} {p q : Bool} (hS : Has n a S) (hx : ev S x = some (.bool p)) (hy : ev S y = some (.bool q)) (hu : P.underlying ty = some .bool) : Yld P a l ⟨d, .binOp .neq ty x y ty', t, pos, af, g⟩ (.bool (!(p == q))) :=
  fun w _ => by simp only [execOp, hS.ev hx, hS.ev hy, eqGuard_at_bool, Sem.run_bind, Sem.run_pure, Result.andThen_ok, run_neq_bool w ty p q hu]
/-- a pointer against nil -/
theorem Yld.eqlNil {x : Operand} {y : Operand} {ty ty' : TypeId} {p : Option Addr} (hS : Has n a S) (hx : ev S x = some (.pointer p)) (hy : ev S y = some (.pointer none)) (hu : P.underlying ty = some (.pointer (P.pointee ty))) : Yld P a l ⟨d, .binOp .eql ty x y ty', t, pos, af, g⟩ (.bool p.isNone) :=
  fun w _ => by simp only [execOp, hS.ev hx, hS.ev hy, eqGuard_at_pointer, Sem.run_bind, Sem.run_pure, Result.andThen_ok, run_eql_pointer_nil w ty p hu]
theorem Yld.neqNil {x : Operand} {y : Operand} {ty ty' : TypeId} {p : Option Addr} (hS : Has n a S) (hx : ev S x = some (.pointer p)) (hy : ev S y = some (.pointer none)) (hu : P.underlying ty = some (.pointer (P.pointee ty))) : Yld P a l ⟨d, .binOp .neq ty x y ty', t, pos, af, g⟩ (.bool (!p.isNone)) :=
  fun w _ => by simp only [execOp, hS.ev hx, hS.ev hy, eqGuard_at_pointer, Sem.run_bind, Sem.run_pure, Result.andThen_ok, run_neq_pointer_nil w ty p hu]
/-- by a run that is known of the two values -/
theorem Yld.binRun {op : BinOp} {x y : Operand} {ty ty' : TypeId} {u v r : Value} (hS : Has n a S) (hx : ev S x = some u) (hy : ev S y = some v)
    (h : ∀ w, (do eqGuard op ty x y u v; binOp op ty u v : Sem Value).run P w = .ok r w) : Yld P a l ⟨d, .binOp op ty x y ty', t, pos, af, g⟩ r := by
  intro w _
  have := h w
  simp only [Sem.run_bind] at this
  simp only [execOp, hS.ev hx, hS.ev hy, Sem.run_bind]
  generalize (eqGuard op ty x y u v).run P w = z at *
  cases z with
  | ok _ w' => simp only [Result.andThen_ok] at *; rw [this]; rfl
  | halt _ w' => cases this
theorem Yld.build {ty : TypeId} {ps : List (Nat × Operand)} {vs : List Value} {r : Value} (hS : Has n a S) (hx : evs S (ps.map (·.2)) = some vs)
    (h : ∀ w, (Instr.build ty ((ps.map (·.1)).zip vs).toArray).run P w = .ok r w) : Yld P a l ⟨d, .build ty ps.toArray, t, pos, af, g⟩ r := by
  intro w _
  have e : (ps.map fun (i, x) => (i, a.eval x)) = (ps.map (·.1)).zip vs := by
    rw [← hS.evs hx]
    clear hx h
    induction ps with
    | nil => rfl
    | cons p ps ih => simp [ih]
  simp only [execOp, List.map_toArray, e, Sem.run_bind, h w]
  rfl
theorem Yld.field {ty : TypeId} {x : Operand} {f : Nat} {u r : Value} (hS : Has n a S) (hx : ev S x = some u) (h : ∀ w, (Instr.field ty u f).run P w = .ok r w) : Yld P a l ⟨d, .field ty x f, t, pos, af, g⟩ r := by
  intro w _
  simp only [execOp, hS.ev hx, Sem.run_bind, h w]
  rfl
theorem Yld.neg {x : Operand} {ty : TypeId} {k : IntKind} {m : Int} (hS : Has n a S) (hx : ev S x = some (.int k m)) : Yld P a l ⟨d, .unOp .neg ty x, t, pos, af, g⟩ (.int k (k.wrap (0 - m))) :=
  fun w _ => by simp [execOp, hS.ev hx, Op.unary, Op.intArith]
theorem Yld.fieldAddr {s : TypeId} {x : Operand} {f : Nat} {b i : Nat} {fs : Array Field} {fd : Field} {z : TypeInfo} (hS : Has n a S) (hx : ev S x = some (.pointer (some ⟨b, i, none⟩)))
    (o : Nat) (hu : P.underlying s = some (.struct fs)) (hf : fs[f]? = some fd) (ho : fd.offset = o) (hi : P.info? fd.type = some z) (hz : z.size ≠ 0) :
    Yld P a l ⟨d, .fieldAddr s x f, t, pos, af, g⟩ (.pointer (some ⟨b, i + o, none⟩)) := by
  intro w _
  subst ho
  have hs : (sizeOf fd.type).run P w = .ok z.size w := by simp [sizeOf, typeInfo, hi]
  simp [execOp, hS.ev hx, Instr.fieldAt, run_underlying hu, hf, Instr.sureAddr, fieldPlace, hs, hz, Addr.add_lit]
theorem Yld.load1 {ty : TypeId} {x : Operand} {b i : Nat} {v : Value} {dd : TypeDesc} (hS : Has n a S) (hx : ev S x = some (.pointer (some ⟨b, i, none⟩)))
    (hu : P.underlying ty = some dd) (hna : (match dd with | .struct _ | .array _ _ => true | _ => false) = false) (hr : Rd l b i v) :
    Yld P a l ⟨d, .load ty x, t, pos, af, g⟩ v := by
  intro w hw
  have ha : (isAgg ty).run P w = .ok false w := by
    simp only [isAgg, Sem.run_bind, run_underlying hu, Result.andThen_ok]
    cases dd <;> simp_all
  simp [execOp, hS.ev hx, Instr.loadAt, Instr.sureAddr, loadVar, ha, hr w hw]
theorem Yld.loadAgg {ty : TypeId} {x : Operand} {b i : Nat} {vs : List Value} {dd : TypeDesc} {z : TypeInfo} (hS : Has n a S) (hx : ev S x = some (.pointer (some ⟨b, i, none⟩)))
    (hu : P.underlying ty = some dd) (hna : (match dd with | .struct _ | .array _ _ => true | _ => false) = true) (hi : P.info? ty = some z) (hr : Rds l b i vs) (hz : z.size = vs.length) :
    Yld P a l ⟨d, .load ty x, t, pos, af, g⟩ (.agg vs.toArray) := by
  intro w hw
  have ha : (isAgg ty).run P w = .ok true w := by
    simp only [isAgg, Sem.run_bind, run_underlying hu, Result.andThen_ok]
    cases dd <;> simp_all
  have hs : (sizeOf ty).run P w = .ok vs.length w := by simp [sizeOf, typeInfo, hi, hz]
  have hl := run_loadCells_list (P := P) w ⟨b, i, none⟩ vs (fun j v hj => by rw [Addr.add_lit]; exact hr w hw j v hj)
  simp [execOp, hS.ev hx, Instr.loadAt, Instr.sureAddr, loadVar, ha, hs, hl]
theorem Yld.indexSlice {ty e : TypeId} {x y : Operand} {b i len cap : Nat} {k : IntKind} {m : Int} {z : TypeInfo} (hS : Has n a S) (hx : ev S x = some (.slice (some ⟨b, i, none⟩) len cap)) (hy : ev S y = some (.int k m))
    (hu : P.underlying ty = some (.slice e)) (hi : P.info? e = some z) (h0 : 0 ≤ m) (h1 : m < len) :
    Yld P a l ⟨d, .indexAddr ty x y, t, pos, af, g⟩ (.pointer (some ⟨b, i + m.toNat * z.size, none⟩)) := by
  intro w _
  have hs : (sizeOf e).run P w = .ok z.size w := by simp [sizeOf, typeInfo, hi]
  simp [execOp, hS.ev hx, hS.ev hy, Instr.indexAt, asIntOf, run_underlying hu, h0, h1, hs, Addr.add_lit]
theorem Yld.indexArr {ty e : TypeId} {x y : Operand} {b i len : Nat} {k : IntKind} {m : Int} {z : TypeInfo} (hS : Has n a S) (hx : ev S x = some (.pointer (some ⟨b, i, none⟩))) (hy : ev S y = some (.int k m))
    (hu : P.underlying ty = some (.array len e)) (hi : P.info? e = some z) (h0 : 0 ≤ m) (h1 : m < len) :
    Yld P a l ⟨d, .indexAddr ty x y, t, pos, af, g⟩ (.pointer (some ⟨b, i + m.toNat * z.size, none⟩)) := by
  intro w _
  have hs : (sizeOf e).run P w = .ok z.size w := by simp [sizeOf, typeInfo, hi]
  simp [execOp, hS.ev hx, hS.ev hy, Instr.indexAt, asIntOf, run_underlying hu, h0, h1, hs, Addr.add_lit, Instr.sureAddr]
theorem Yld.len {x : Operand} {ty e : TypeId} {r : Option Addr} {len cap : Nat} (hS : Has n a S) (hx : ev S x = some (.slice r len cap)) (hu : P.underlying ty = some (.slice e)) :
    Yld P a l ⟨d, .call { callee := .builtin .len, args := [x].toArray, argTypes := [ty].toArray }, t, pos, af, g⟩ (.int .i64 len) := by
  intro w _
  simp [execOp, resolve, hS.ev hx, invoke, builtin, Builtin.len_, run_underlying hu, goInt]
theorem Yld.min {x y : Operand} {ts : Array TypeId} {k : IntKind} {p q : Int} (hS : Has n a S) (hx : ev S x = some (.int k p)) (hy : ev S y = some (.int k q)) :
    Yld P a l ⟨d, .call { callee := .builtin .min, args := [x, y].toArray, argTypes := ts }, t, pos, af, g⟩ (.int k (Min.min p q)) := by
  intro w _
  have : (if q < p then q else p) = Min.min p q := by split <;> omega
  simp [execOp, resolve, hS.ev hx, hS.ev hy, invoke, builtin, Builtin.min_, Builtin.min2, this]
theorem Yld.max {x y : Operand} {ts : Array TypeId} {k : IntKind} {p q : Int} (hS : Has n a S) (hx : ev S x = some (.int k p)) (hy : ev S y = some (.int k q)) :
    Yld P a l ⟨d, .call { callee := .builtin .max, args := [x, y].toArray, argTypes := ts }, t, pos, af, g⟩ (.int k (Max.max p q)) := by
  intro w _
  have : (if p < q then q else p) = Max.max p q := by split <;> omega
  simp [execOp, resolve, hS.ev hx, hS.ev hy, invoke, builtin, Builtin.max_, Builtin.max2, this]
end
end Go.Proofs.Ytmcfmhiadlkglaa.Sx
