/-
  My plain texts put together into one module.
-/
import Derived.Test.YtkhdejjompbklaaGreatOPb
import Derived.Test.YtkhdejjompbklaaGreatOPl
namespace Go.Proofs.YtkhdejjompbklaaGreat.Sx
open Go
set_option linter.unusedVariables false
section
variable {P : Program} {Q : Exit → Act → World → Prop} {n : Nat} {a : Act} {S : Slots} {l l' : List HP} {w : World} {t : TypeId} {pos : String} {af : Array Edge} {g : Option (Nat × Bool)} {K : Act → World → Prop}
variable {r : Option Addr} {m cap : Nat} {sz : Nat} {cs : List Value}
theorem lay_before : ∀ (vs cs : List Value) (i : Nat), (lay cs i vs).take i = cs.take i
  | [], _, _ => rfl
  | v :: vs, cs, i => by
    have h := lay_before vs (cs.set i v) (i + 1)
    have h2 := congrArg (List.take i) h
    rw [List.take_take, List.take_take, show min i (i + 1) = i from by omega] at h2
    show (lay (cs.set i v) (i + 1) vs).take i = _
    rw [h2, List.take_set_of_le (Nat.le_refl _)]
theorem lay_len : ∀ (vs cs : List Value) (i : Nat), (lay cs i vs).length = cs.length
  | [], _, _ => rfl
  | v :: vs, cs, i => by
    show (lay (cs.set i v) (i + 1) vs).length = _
    rw [lay_len vs, List.length_set]
theorem Sep.slsCut {lo : Nat} {T : TypeId} (h : Sep (Sx.sls r m cap T 1 cs :: l) w) (hlo : lo ≤ m) : Sep (Sx.sls r lo cap T 1 (cs.take lo) :: l) w := by
  rcases h.slsE with ⟨h1, h2, h3, h4, h5⟩ | ⟨b, rest, h1, h2, h3, h4, h5⟩
  · subst h1 h2 h3 h4
    obtain rfl : lo = 0 := by omega
    exact h5.slsNil
  · subst h1
    refine Sep.slsI (rest := cs.drop lo ++ rest) (by rw [← List.append_assoc, List.take_append_drop]; exact h5) (by simp; omega) (by simp; omega) (by omega)
theorem run_clearE {ty e : TypeId} {ik : IntKind} {z : TypeInfo} {lo : Nat} {q : Option Addr} {c : Nat} (hu : P.underlying ty = some (.slice e)) (hi : P.info? e = some z) (hz : z.zero = some (.int ik 0)) (p : Pk (Sx.sls r m cap e 1 cs) l l') (hR : Sep l w)
    (hq : q = if cap = lo then r else r.map fun x => x.add (lo * 1)) (hlo : lo ≤ m) :
    ∃ w', (Builtin.clear_ [ty].toArray t [.slice q (m - lo) c].toArray).run P w = .ok (.tuple #[]) w' ∧ Sep (Sx.sls r lo cap e 1 (cs.take lo) :: l') w' := by
  have hzero : ∀ w, (zeroValue e).run P w = .ok (.int ik 0) w := fun w => by simp [zeroValue, typeInfo, hi, hz]
  rcases Nat.lt_or_ge lo m with hlt | hge
  · rcases (hR.pk p).slsE with ⟨h1, h2, h3, _, h5⟩ | ⟨b, rest, h1, h2, h3, h4, h5⟩
    · omega
    · subst h1
      rw [if_neg (by omega)] at hq
      subst hq
      obtain ⟨k, hk⟩ : ∃ k, m - lo = k + 1 := ⟨m - lo - 1, by omega⟩
      rw [hk]
      have hc : (Value.int ik 0).cells = #[.int ik 0] := rfl
      obtain ⟨vs, hvs⟩ : ∃ vs, (Builtin.zeroCells (Value.int ik 0).cells (k + 1)).toList = vs := ⟨_, rfl⟩
      have hone : ∀ v ∈ vs, v.oneCell' = true := by
        intro v hv
        rw [← hvs, hc] at hv
        simp only [Builtin.zeroCells, Array.toList_map, List.mem_map] at hv
        obtain ⟨i, _, rfl⟩ := hv
        have : i % (#[Value.int ik 0] : Array Value).size = 0 := by simp [Nat.mod_one]
        rw [this]
        rfl
      have hlen : vs.length = k + 1 := by
        rw [← hvs, hc]; simp [Builtin.zeroCells]
      obtain ⟨w', hr, hs⟩ := run_storeCells (P := P) vs lo (cs ++ rest) 0 w h5 hone (by simp only [List.length_append]; omega)
      refine ⟨w', by simp [Builtin.clear_, run_underlying hu, hzero, hvs, hr, Addr.add_lit], ?_⟩
      refine Sep.slsI (rest := (lay (cs ++ rest) lo vs).drop lo) ?_ (by simp; omega) (by rw [List.length_take, List.length_drop, lay_len, List.length_append]; omega) (by omega)
      have e1 : cs.take lo = (lay (cs ++ rest) lo vs).take lo := by rw [lay_before, List.take_append_of_le_length (by omega)]
      rw [e1, List.take_append_drop]
      exact hs
  · have hml : lo = m := by omega
    subst hml
    rw [Nat.sub_self]
    refine ⟨w, ?_, (hR.pk p).slsCut (Nat.le_refl _)⟩
    cases q <;> simp [Builtin.clear_, run_underlying hu]
theorem Bclear0E {ty e : TypeId} {x : Operand} {ik : IntKind} {z : TypeInfo} {lo : Nat} {q : Option Addr} {k c : Nat} (hS : Has n a S) (hR : Sep l w) (hx : ev S x = some (.slice q k c)) (hu : P.underlying ty = some (.slice e)) (hi : P.info? e = some z) (hz : z.zero = some (.int ik 0))
    (p : Pk (Sx.sls r m cap e 1 cs) l l') (hq : q = if cap = lo then r else r.map fun x => x.add (lo * 1)) (hlo : lo ≤ m) (hk : k = m - lo) (kk : ∀ w', Sep (Sx.sls r lo cap e 1 (cs.take lo) :: l') w' → K a w') :
    Oper.wp P ⟨none, .call { callee := .builtin .clear, args := [x].toArray, argTypes := [ty].toArray }, t, pos, af, g⟩ a w K Q := by
  subst hk
  obtain ⟨w', hr, hs⟩ := run_clearE (t := t) (c := c) hu hi hz p hR hq hlo
  have hr' : (execOp a.eval ⟨none, .call { callee := .builtin .clear, args := [x].toArray, argTypes := [ty].toArray }, t, pos, af, g⟩).run P w = .ok (.value (.tuple #[])) w' := by
    simp only [execOp, resolve, List.map_toArray, List.map_cons, List.map_nil, hS.ev hx, Sem.run_bind, Sem.run_pure, Result.andThen_ok, invoke, builtin, hr]
  unfold Oper.wp
  rw [hr']
  exact kk w' hs
end
theorem fil_next {α : Type} {L : List α} {P : α → Bool} {i : Nat} (hi : i < L.length) : (L.take (i + 1)).filter P = if P L[i] = true then (L.take i).filter P ++ [L[i]] else (L.take i).filter P := by
  rw [List.take_succ_eq_append_getElem hi, List.filter_append, List.filter_cons, List.filter_nil]
  split
  · rfl
  · rw [List.append_nil]
theorem Rds.mono {l l' : List HP} {b i : Nat} {vs : List Value} (h : Rds l b i vs) (e : Ex l' l) : Rds l' b i vs := fun w hw => h w (hw.sub e)
def butZ (xs : List Int) (z : Int) : List Int := xs.filter fun x => decide (x ≠ z)
structure DelI (xs : List Int) (z : Int) (i j : Nat) (ys : List Int) : Prop where
  len : ys.length = xs.length
  lt : i < j
  le : j ≤ xs.length
  tk : ys.take i = butZ (xs.take j) z
  dr : ys.drop j = xs.drop j
section
variable {xs ys : List Int} {z : Int} {i j k : Nat}
theorem butZ_self (h : ∀ x ∈ xs, x ≠ z) : butZ xs z = xs := List.filter_eq_self.2 fun x hx => decide_eq_true (h x hx)
theorem butZ_next (hk : k < xs.length) : butZ (xs.take (k + 1)) z = if xs[k] = z then butZ (xs.take k) z else butZ (xs.take k) z ++ [xs[k]] := by
  unfold butZ
  rw [fil_next hk]
  by_cases e : xs[k] = z
  · rw [if_pos e, if_neg (by simpa using e)]
  · rw [if_neg e, if_pos (by simpa using e)]
theorem DelI.start (hk : k < xs.length) (e : xs[k] = z) (hn : ∀ x ∈ xs.take k, x ≠ z) : DelI xs z k (k + 1) xs :=
  ⟨rfl, by omega, by omega, by rw [butZ_next hk, if_pos e, butZ_self hn], rfl⟩
theorem DelI.at (h : DelI xs z i j ys) (hj : j < xs.length) : ys[j]'(by rw [h.len]; exact hj) = xs[j] := by
  have h1 := congrArg (fun l => l[0]?) h.dr
  simp only [List.getElem?_drop, Nat.add_zero] at h1
  rw [List.getElem?_eq_getElem (by rw [h.len]; exact hj), List.getElem?_eq_getElem hj] at h1
  exact Option.some.inj h1
theorem DelI.skip (h : DelI xs z i j ys) (hj : j < xs.length) (e : xs[j] = z) : DelI xs z i (j + 1) ys :=
  ⟨h.len, by have := h.lt; omega, by omega, by rw [butZ_next hj, if_pos e]; exact h.tk, by rw [← List.drop_drop, ← List.drop_drop, h.dr]⟩
theorem DelI.keep (h : DelI xs z i j ys) (hj : j < xs.length) (e : ¬ xs[j] = z) : DelI xs z (i + 1) (j + 1) (ys.set i xs[j]) := by
  have h1 := h.lt
  have h2 := h.len
  refine ⟨by rw [List.length_set]; exact h.len, by omega, by omega, ?_, ?_⟩
  · rw [butZ_next hj, if_neg e, ← h.tk, List.take_succ_eq_append_getElem (by rw [List.length_set]; omega), List.getElem_set_self, List.take_set_of_le (Nat.le_refl _)]
  · rw [List.drop_set_of_lt (by omega), ← List.drop_drop, ← List.drop_drop, h.dr]
theorem DelI.done (h : DelI xs z i j ys) (hj : xs.length ≤ j) : ys.take i = butZ xs z ∧ i = (butZ xs z).length ∧ i ≤ ys.length := by
  have h1 := h.tk
  rw [List.take_of_length_le hj] at h1
  have h2 := h.lt
  have h3 := h.le
  have h4 := h.len
  refine ⟨h1, ?_, by omega⟩
  rw [← h1, List.length_take]; omega
theorem e1_take : (ys.flatMap e1).take i = (ys.take i).flatMap e1 := by
  have h := flat_sub (enc := e1) (sz := 1) e1_len ys 0 i
  rwa [Nat.zero_mul, List.drop_zero, List.drop_zero, Nat.mul_one] at h
theorem butZ_cst {l : List Nat} {s : Nat} : butZ (cst l) (s : Int) = cst (l.filter fun t => decide (t ≠ s)) := by
  unfold butZ cst
  rw [List.filter_map]
  congr 1
  refine List.filter_congr fun t _ => ?_
  by_cases e : t = s
  · simp [e]
  · have : ¬ (t : Int) = s := by omega
    simp [e, this]
end
end Go.Proofs.YtkhdejjompbklaaGreat.Sx
