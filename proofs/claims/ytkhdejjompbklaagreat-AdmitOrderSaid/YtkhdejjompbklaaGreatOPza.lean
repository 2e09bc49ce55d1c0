/-
  My plain texts put together into one module.
-/
import Derived.Test.YtkhdejjompbklaaGreatOPz
namespace Go.Proofs.YtkhdejjompbklaaGreat.Sx
open Go
set_option linter.unusedVariables false
set_option linter.unusedSimpArgs false
theorem tmodD {n b : Int} (hb : 0 < b) : - b < n.tmod b ∧ n.tmod b < b := by
  have h1 := Int.tmod_lt_of_pos n hb
  refine ⟨?_, h1⟩
  have h2 := Int.neg_tmod n b
  have h3 := Int.tmod_lt_of_pos (-n) hb
  omega
theorem mod2D {n b : Int} (hb : 0 < b) : (n.tmod b + b) % b = n % b := by
  have h := Int.mul_tdiv_add_tmod n b
  rw [Int.add_emod_right]
  have h2 : n % b = (b * n.tdiv b + n.tmod b) % b := by rw [h]
  rw [h2, Int.mul_add_emod_self_left]
structure MD (S lim : Nat) (t p u : Int) (k : Nat) (D : Dk) : Prop where
  f : DKF S lim t p u D
  six : ∀ q ∈ D.T.O, 0 ≤ q.1 ∧ q.1 < 6
  un : D.un ≤ k
  now : D.now ≤ 40 * k
abbrev DoR := (Int × Int × Int × Bool) × Bool × Dk
def doD (S lim : Nat) (t p u : Int) (D : Dk) (k a x : Int) : DoR :=
  if k % 8 = 4 ∨ k % 8 = 7 then ((0, 0, 0, false), false, seeN' S D (x % S))
  else if k % 8 = 5 then ((0, 0, 0, false), false, assN S D (x % S))
  else if k % 8 = 6 then ((0, 0, 0, false), false, cloN D (x % S))
  else (((tryD lim t p u D (D.now + x % 40) (a % 6)).1.1, (tryD lim t p u D (D.now + x % 40) (a % 6)).1.2.1, (tryD lim t p u D (D.now + x % 40) (a % 6)).1.2.2.1, (tryD lim t p u D (D.now + x % 40) (a % 6)).1.2.2.2.1), true, (tryD lim t p u D (D.now + x % 40) (a % 6)).2)
def doV (r : DoR) : Value := .tuple [.agg [.int .u8 r.1.1, .int .i64 r.1.2.1, .int .i64 r.1.2.2.1, .bool r.1.2.2.2].toArray, .bool r.2.1].toArray
section
variable {S lim : Nat} {t p u : Int} {D : Dk} {a n x k : Int} {m : Nat}
theorem tryD_e (h : D.now ≤ n ∧ n ≤ 1099511627776) : (tryD lim t p u D n a).1.2.2.2.2 = 0 := by
  unfold tryD
  rw [if_neg (by omega)]
  split
  · rfl
  split
  · rfl
  split
  · rfl
  split <;> rfl
theorem addO_sub {T : So} {s : Nat} {q : Int × Nat} (hq : q ∈ (Sx.addO T a s).O) : q ∈ T.O ∨ q.1 = a := by
  unfold Sx.addO at hq
  split at hq
  · rcases List.mem_append.1 hq with h | h
    · exact .inl h
    · simp only [List.mem_singleton] at h; subst h; exact .inr rfl
  · split at hq
    · rcases List.mem_append.1 hq with h | h
      · exact .inl h
      · simp only [List.mem_singleton] at h; subst h; exact .inr rfl
    · exact .inl hq
theorem remO_sub {T : So} {s : Nat} {q : Int × Nat} (hq : q ∈ (Sx.remO T a s).O) : q ∈ T.O := by
  rw [remO_O] at hq; exact (List.mem_filter.1 hq).1
theorem tryD_O {q : Int × Nat} (hq : q ∈ (tryD lim t p u D n a).2.T.O) : q ∈ D.T.O ∨ q.1 = a := by
  unfold tryD at hq
  split at hq
  · exact .inl hq
  split at hq
  · exact .inl hq
  split at hq
  · exact .inl hq
  split at hq
  · exact addO_sub (show q ∈ (Sx.addO D.T a _).O from hq)
  split at hq
  · exact .inl hq
  · rcases addO_sub (show q ∈ (Sx.addO (Sx.remO D.T _ _) a _).O from hq) with h | h
    · exact .inl (remO_sub h)
    · exact .inr h
theorem tryD_now (h : D.now ≤ n) : (tryD lim t p u D n a).2.now ≤ n := by
  unfold tryD
  split
  · exact h
  split
  · exact Int.le_refl _
  split
  · exact Int.le_refl _
  split
  · exact Int.le_refl _
  split
  · exact Int.le_refl _
  · exact Int.le_refl _
theorem cloN_O {q : Int × Nat} (hq : q ∈ (cloN D x).T.O) : q ∈ D.T.O := by
  unfold cloN at hq
  split at hq
  · exact remO_sub (show q ∈ (Sx.remO D.T _ _).O from hq)
  · exact hq
theorem seeN_T : (seeN' S D x).T = D.T ∧ (seeN' S D x).now = D.now := by unfold seeN'; split <;> exact ⟨rfl, rfl⟩
theorem assN_T : (assN S D x).T = D.T ∧ (assN S D x).now = D.now := by unfold assN; split <;> exact ⟨rfl, rfl⟩
theorem cloN_now : (cloN D x).now = D.now := by unfold cloN; split <;> rfl
theorem MD.do (h : MD S lim t p u m D) (ha : 0 ≤ a) (hm : m ≤ 10000) : MD S lim t p u (m + 1) (doD S lim t p u D k a x).2.2 := by
  have hu := h.un
  have hn := h.now
  have h6 : 0 ≤ a % 6 ∧ a % 6 < 6 := by omega
  have h40 : 0 ≤ x % 40 ∧ x % 40 < 40 := by omega
  unfold doD
  split
  · obtain ⟨e1, e2⟩ := seeN_T (S := S) (D := D) (x := x % S)
    have e3 := (seeN_un (x := x % S) h.f.w).1
    exact ⟨h.f.seeN, by dsimp only; rw [e1]; exact h.six, by dsimp only; omega, by dsimp only; rw [e2]; omega⟩
  split
  · obtain ⟨e1, e2⟩ := assN_T (S := S) (D := D) (x := x % S)
    have e3 := assN_un (S := S) (D := D) (x := x % S)
    exact ⟨h.f.assN, by dsimp only; rw [e1]; exact h.six, by dsimp only; rw [e3]; omega, by dsimp only; rw [e2]; omega⟩
  split
  · have e2 := cloN_now (D := D) (x := x % S)
    have e3 := cloN_un (D := D) (x := x % S)
    exact ⟨h.f.cloN, fun q hq => h.six q (cloN_O hq), by dsimp only; rw [e3]; omega, by dsimp only; rw [e2]; omega⟩
  · have e1 := tryD_un (lim := lim) (t := t) (p := p) (u := u) (D := D) (n := D.now + x % 40) (a := a % 6)
    have e2 := tryD_now (lim := lim) (t := t) (p := p) (u := u) (D := D) (n := D.now + x % 40) (a := a % 6) (by omega)
    refine ⟨h.f.try (by omega), fun q hq => ?_, by dsimp only; omega, by dsimp only; omega⟩
    rcases tryD_O hq with h1 | h1
    · exact h.six q h1
    · omega
theorem MD.le (h : MD S lim t p u m D) {m2 : Nat} (hm : m ≤ m2) : MD S lim t p u m2 D := ⟨h.f, h.six, by have := h.un; omega, by have := h.now; omega⟩
end
def D0 (S : Nat) : Dk := { A := Ar.new S, T := { O := [], R := [], A := Ar.new S }, ord := [], tm := fun _ => 0, un := 0, B := List.replicate S (0, 0), now := 0 }
def actDR (S lim : Nat) (t p u : Int) (D : Dk) : List Int → Dk
  | [k, a, x] => (doD S lim t p u D k a x).2.2
  | _ => D
def fD (S lim : Nat) (t p u : Int) (D : Dk) (xs : List (List Int)) (i : Nat) : Dk := (xs.take i).foldl (actDR S lim t p u) D
section
variable {S lim : Nat} {t p u : Int} {D : Dk} {a x k : Int} {xs : List (List Int)}
theorem fD_zero : fD S lim t p u D xs 0 = D := by unfold fD; rw [List.take_zero]; rfl
theorem fD_succ {i : Nat} (h : xs[i]? = some [k, a, x]) : fD S lim t p u D xs (i + 1) = (doD S lim t p u (fD S lim t p u D xs i) k a x).2.2 := by
  have hi := (List.getElem?_eq_some_iff.1 h).1
  have he := (List.getElem?_eq_some_iff.1 h).2
  unfold fD
  rw [List.take_succ_eq_append_getElem hi, he, List.foldl_append]
  rfl
theorem MD.new (h1 : 1 ≤ S) (h2 : S ≤ 4096) (hr : RR t p u) (hl : 1 ≤ lim ∧ lim ≤ 64) : MD S lim t p u 0 (D0 S) := ⟨DKF.new h1 h2 hr hl, by simp [D0], by simp [D0], by simp [D0]⟩
end
end Go.Proofs.YtkhdejjompbklaaGreat.Sx
namespace Go.Proofs.YtkhdejjompbklaaGreat.Sx
open Go
set_option linter.unusedVariables false
set_option linter.unusedSimpArgs false
section
variable {S lim : Nat} {t p u : Int} {D : Dk} {a n x k : Int} {m : Nat}
theorem DKF.tok (h : DKF S lim t p u D) (hn : D.now ≤ n ∧ n ≤ 1099511627776) : 0 ≤ bkD t p u D.T D.B a n / p ∧ bkD t p u D.T D.B a n / p ≤ u ∧ ((slO D.T.O a).length = 0 → bkD t p u D.T D.B a n / p = u) := by
  obtain ⟨hr, h1, h2, _⟩ := h.bk (a := a) hn
  have hp : 1 ≤ p := hr.2.2.1
  refine ⟨Int.ediv_nonneg h1 (by omega), ?_, fun e => ?_⟩
  · have := Int.ediv_le_ediv (show 0 < p by omega) h2
    rwa [Int.mul_ediv_cancel _ (by omega)] at this
  · have h3 := h.w.sf.slNil2.1 (List.length_eq_zero_iff.1 e)
    rw [bk_none h3, Int.mul_ediv_cancel _ (by omega)]
structure ClI (S lim : Nat) (t p u : Int) (a : Int) (sl : List Nat) (i : Nat) (D : Dk) : Prop where
  f : DKF S lim t p u D
  le : i ≤ sl.length
  eq : slO D.T.O a = sl.drop i
theorem ClI.at {sl : List Nat} {i : Nat} (h : ClI S lim t p u a sl i D) (hi : i < sl.length) : (a, sl[i]) ∈ D.T.O := by
  rw [← slO_mem, h.eq, List.drop_eq_getElem_cons hi]
  exact List.mem_cons_self
theorem ClI.step {sl : List Nat} {i : Nat} (h : ClI S lim t p u a sl i D) (hi : i < sl.length) : ClI S lim t p u a sl (i + 1) (cloN D (sl[i] : Int)) ∧ (cloN D (sl[i] : Int)).now = D.now ∧ clsE S D.T (sl[i] : Int) = 0 := by
  have hm := h.at hi
  have hnd : (slO D.T.O a).Nodup := slO_nodup h.f.w.sf.nds
  rw [h.eq, List.drop_eq_getElem_cons hi, List.nodup_cons] at hnd
  refine ⟨⟨h.f.cloN, hi, ?_⟩, cloN_now, (clsE_of h.f.w hm).1⟩
  unfold cloN
  rw [ofO_of h.f.w.sf.nds hm]; dsimp only
  rw [Int.toNat_natCast]
  show slO (remO D.T a sl[i]).O a = _
  rw [remO_O, slO_out, h.eq, List.drop_eq_getElem_cons hi, List.filter_cons_of_neg (by simp)]
  exact List.filter_eq_self.2 fun x hx => decide_eq_true fun e => hnd.1 (e ▸ hx)
end
end Go.Proofs.YtkhdejjompbklaaGreat.Sx
