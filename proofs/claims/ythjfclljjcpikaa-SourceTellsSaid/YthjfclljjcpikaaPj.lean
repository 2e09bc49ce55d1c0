/-
  My plain texts put together into one module.
-/
import Derived.Test.YthjfclljjcpikaaPa
import Derived.Test.YthjfclljjcpikaaPo
/-
  The builtin clear, of an owned slice of integers. Nothing of a program stands here.
-/
namespace Go.Proofs.Ythjfclljjcpikaa.Sx
open Go
set_option linter.unusedVariables false
section
variable {P : Program} {Q : Exit → Act → World → Prop} {n : Nat} {a : Act} {S : Slots} {l l' : List HP} {w : World} {t : TypeId} {pos : String} {af : Array Edge} {g : Option (Nat × Bool)} {K : Act → World → Prop}
variable {r : Option Addr} {m cap : Nat} {sz : Nat} {cs : List Value}
/-- What a cleared slice holds is not needed any more. -/
theorem run_clear {ty e : TypeId} {ik : IntKind} {z : TypeInfo} (hu : P.underlying ty = some (.slice e)) (hi : P.info? e = some z) (hz : z.zero = some (.int ik 0)) (p : Pk (Sx.sls r m cap e 1 cs) l l') (hR : Sep l w) :
    ∃ w', (Builtin.clear_ [ty].toArray t [.slice r m cap].toArray).run P w = .ok (.tuple #[]) w' ∧ Sep l' w' := by
  have hzero : ∀ w, (zeroValue e).run P w = .ok (.int ik 0) w := fun w => by simp [zeroValue, typeInfo, hi, hz]
  rcases (hR.pk p).slsE with ⟨h1, h2, h3, _, h5⟩ | ⟨b, rest, h1, h2, h3, h4, h5⟩
  · subst h1 h2 h3
    exact ⟨w, by simp [Builtin.clear_, run_underlying hu], h5⟩
  · subst h1
    cases m with
    | zero => exact ⟨w, by simp [Builtin.clear_, run_underlying hu], h5.drop⟩
    | succ k =>
      have hc : (Value.int ik 0).cells = #[.int ik 0] := rfl
      obtain ⟨vs, hvs⟩ : ∃ vs, (Builtin.zeroCells (Value.int ik 0).cells (k + 1)).toList = vs := ⟨_, rfl⟩
      have hone : ∀ v ∈ vs, v.oneCell' = true := by
        intro v hv
        rw [← hvs, hc] at hv
        simp only [Builtin.zeroCells, Array.toList_map, List.mem_map] at hv
        obtain ⟨i, _, rfl⟩ := hv
        have : i % (#[Value.int ik 0] : Array Value).size = 0 := by simp [Nat.mod_one]
        rw [this]
        rfl
      have hlen : vs.length = k + 1 := by
        rw [← hvs, hc]; simp [Builtin.zeroCells]
      obtain ⟨w', hr, hs⟩ := run_storeCells (P := P) vs 0 (cs ++ rest) 0 w h5 hone (by simp only [List.length_append]; omega)
      exact ⟨w', by simp [Builtin.clear_, run_underlying hu, hzero, hvs, hr], hs.drop⟩
theorem Bclear {d : Nat} {ty e : TypeId} {x : Operand} {ik : IntKind} {z : TypeInfo} (hS : Has n a S) (hR : Sep l w) (hx : ev S x = some (.slice r m cap)) (hu : P.underlying ty = some (.slice e)) (hi : P.info? e = some z) (hz : z.zero = some (.int ik 0))
    (p : Pk (Sx.sls r m cap e 1 cs) l l') (hd : d < n) (k : ∀ a' w', Has n a' ((d, .tuple #[]) :: S) → Sep l' w' → K a' w') :
    Oper.wp P ⟨some d, .call { callee := .builtin .clear, args := [x].toArray, argTypes := [ty].toArray }, t, pos, af, g⟩ a w K Q := by
  obtain ⟨w', hr, hs⟩ := run_clear (t := t) hu hi hz p hR
  have hr' : (execOp a.eval ⟨some d, .call { callee := .builtin .clear, args := [x].toArray, argTypes := [ty].toArray }, t, pos, af, g⟩).run P w = .ok (.value (.tuple #[])) w' := by
    simp only [execOp, resolve, List.map_toArray, List.map_cons, List.map_nil, hS.ev hx, Sem.run_bind, Sem.run_pure, Result.andThen_ok, invoke, builtin, hr]
  unfold Oper.wp
  rw [hr']
  exact k _ w' (hS.put d _ hd) hs
theorem Bclear0 {ty e : TypeId} {x : Operand} {ik : IntKind} {z : TypeInfo} (hS : Has n a S) (hR : Sep l w) (hx : ev S x = some (.slice r m cap)) (hu : P.underlying ty = some (.slice e)) (hi : P.info? e = some z) (hz : z.zero = some (.int ik 0))
    (p : Pk (Sx.sls r m cap e 1 cs) l l') (k : ∀ w', Sep l' w' → K a w') :
    Oper.wp P ⟨none, .call { callee := .builtin .clear, args := [x].toArray, argTypes := [ty].toArray }, t, pos, af, g⟩ a w K Q := by
  obtain ⟨w', hr, hs⟩ := run_clear (t := t) hu hi hz p hR
  have hr' : (execOp a.eval ⟨none, .call { callee := .builtin .clear, args := [x].toArray, argTypes := [ty].toArray }, t, pos, af, g⟩).run P w = .ok (.value (.tuple #[])) w' := by
    simp only [execOp, resolve, List.map_toArray, List.map_cons, List.map_nil, hS.ev hx, Sem.run_bind, Sem.run_pure, Result.andThen_ok, invoke, builtin, hr]
  unfold Oper.wp
  rw [hr']
  exact k w' hs
/-! ### the end of an owned slice -/
theorem lay_before : ∀ (vs cs : List Value) (i : Nat), (lay cs i vs).take i = cs.take i
  | [], _, _ => rfl
  | v :: vs, cs, i => by
    have h := lay_before vs (cs.set i v) (i + 1)
    have h2 := congrArg (List.take i) h
    rw [List.take_take, List.take_take, show min i (i + 1) = i from by omega] at h2
    show (lay (cs.set i v) (i + 1) vs).take i = _
    rw [h2, List.take_set_of_le (Nat.le_refl _)]
theorem lay_len : ∀ (vs cs : List Value) (i : Nat), (lay cs i vs).length = cs.length
  | [], _, _ => rfl
  | v :: vs, cs, i => by
    show (lay (cs.set i v) (i + 1) vs).length = _
    rw [lay_len vs, List.length_set]
theorem Sep.slsCut {lo : Nat} {T : TypeId} (h : Sep (Sx.sls r m cap T 1 cs :: l) w) (hlo : lo ≤ m) : Sep (Sx.sls r lo cap T 1 (cs.take lo) :: l) w := by
  rcases h.slsE with ⟨h1, h2, h3, h4, h5⟩ | ⟨b, rest, h1, h2, h3, h4, h5⟩
  · subst h1 h2 h3 h4
    obtain rfl : lo = 0 := by omega
    exact h5.slsNil
  · subst h1
    refine Sep.slsI (rest := cs.drop lo ++ rest) (by rw [← List.append_assoc, List.take_append_drop]; exact h5) (by simp; omega) (by simp; omega) (by omega)
theorem run_clearE {ty e : TypeId} {ik : IntKind} {z : TypeInfo} {lo : Nat} {q : Option Addr} {c : Nat} (hu : P.underlying ty = some (.slice e)) (hi : P.info? e = some z) (hz : z.zero = some (.int ik 0)) (p : Pk (Sx.sls r m cap e 1 cs) l l') (hR : Sep l w)
    (hq : q = if cap = lo then r else r.map fun x => x.add (lo * 1)) (hlo : lo ≤ m) :
    ∃ w', (Builtin.clear_ [ty].toArray t [.slice q (m - lo) c].toArray).run P w = .ok (.tuple #[]) w' ∧ Sep (Sx.sls r lo cap e 1 (cs.take lo) :: l') w' := by
  have hzero : ∀ w, (zeroValue e).run P w = .ok (.int ik 0) w := fun w => by simp [zeroValue, typeInfo, hi, hz]
  rcases Nat.lt_or_ge lo m with hlt | hge
  · rcases (hR.pk p).slsE with ⟨h1, h2, h3, _, h5⟩ | ⟨b, rest, h1, h2, h3, h4, h5⟩
    · omega
    · subst h1
      rw [if_neg (by omega)] at hq
      subst hq
      obtain ⟨k, hk⟩ : ∃ k, m - lo = k + 1 := ⟨m - lo - 1, by omega⟩
      rw [hk]
      have hc : (Value.int ik 0).cells = #[.int ik 0] := rfl
      obtain ⟨vs, hvs⟩ : ∃ vs, (Builtin.zeroCells (Value.int ik 0).cells (k + 1)).toList = vs := ⟨_, rfl⟩
      have hone : ∀ v ∈ vs, v.oneCell' = true := by
        intro v hv
        rw [← hvs, hc] at hv
        simp only [Builtin.zeroCells, Array.toList_map, List.mem_map] at hv
        obtain ⟨i, _, rfl⟩ := hv
        have : i % (#[Value.int ik 0] : Array Value).size = 0 := by simp [Nat.mod_one]
        rw [this]
        rfl
      have hlen : vs.length = k + 1 := by
        rw [← hvs, hc]; simp [Builtin.zeroCells]
      obtain ⟨w', hr, hs⟩ := run_storeCells (P := P) vs lo (cs ++ rest) 0 w h5 hone (by simp only [List.length_append]; omega)
      refine ⟨w', by simp [Builtin.clear_, run_underlying hu, hzero, hvs, hr, Addr.add_lit], ?_⟩
      refine Sep.slsI (rest := (lay (cs ++ rest) lo vs).drop lo) ?_ (by simp; omega) (by rw [List.length_take, List.length_drop, lay_len, List.length_append]; omega) (by omega)
      have e1 : cs.take lo = (lay (cs ++ rest) lo vs).take lo := by rw [lay_before, List.take_append_of_le_length (by omega)]
      rw [e1, List.take_append_drop]
      exact hs
  · have hml : lo = m := by omega
    subst hml
    rw [Nat.sub_self]
    refine ⟨w, ?_, (hR.pk p).slsCut (Nat.le_refl _)⟩
    cases q <;> simp [Builtin.clear_, run_underlying hu]
theorem Bclear0E {ty e : TypeId} {x : Operand} {ik : IntKind} {z : TypeInfo} {lo : Nat} {q : Option Addr} {k c : Nat} (hS : Has n a S) (hR : Sep l w) (hx : ev S x = some (.slice q k c)) (hu : P.underlying ty = some (.slice e)) (hi : P.info? e = some z) (hz : z.zero = some (.int ik 0))
    (p : Pk (Sx.sls r m cap e 1 cs) l l') (hq : q = if cap = lo then r else r.map fun x => x.add (lo * 1)) (hlo : lo ≤ m) (hk : k = m - lo) (kk : ∀ w', Sep (Sx.sls r lo cap e 1 (cs.take lo) :: l') w' → K a w') :
    Oper.wp P ⟨none, .call { callee := .builtin .clear, args := [x].toArray, argTypes := [ty].toArray }, t, pos, af, g⟩ a w K Q := by
  subst hk
  obtain ⟨w', hr, hs⟩ := run_clearE (t := t) (c := c) hu hi hz p hR hq hlo
  have hr' : (execOp a.eval ⟨none, .call { callee := .builtin .clear, args := [x].toArray, argTypes := [ty].toArray }, t, pos, af, g⟩).run P w = .ok (.value (.tuple #[])) w' := by
    simp only [execOp, resolve, List.map_toArray, List.map_cons, List.map_nil, hS.ev hx, Sem.run_bind, Sem.run_pure, Result.andThen_ok, invoke, builtin, hr]
  unfold Oper.wp
  rw [hr']
  exact kk w' hs
end
end Go.Proofs.Ythjfclljjcpikaa.Sx

/-
  The reference of package source: a value with three lists in memory, in the same states. Nothing of a program stands here but the numbers of types, which are given.
-/
namespace Go.Proofs.Ythjfclljjcpikaa.Sx
open Go
set_option linter.unusedVariables false
set_option linter.unusedSimpArgs false
abbrev eO (p : Int × Nat) : List Value := [.int .u32 p.1, .int .i64 (p.2 : Int)]
theorem Rds.mono {l l' : List HP} {b i : Nat} {vs : List Value} (h : Rds l b i vs) (e : Ex l' l) : Rds l' b i vs := fun w hw => h w (hw.sub e)
/-- Where the lists of a value stand, and how much room they have. -/
structure RQ where
  r1 : Option Addr
  c1 : Nat
  r2 : Option Addr
  c2 : Nat
  r3 : Option Addr
  c3 : Nat
/-- The types: opened, source, int. -/
structure RT where
  O : TypeId
  S : TypeId
  I : TypeId
def refS (t : RT) (q : RQ) (T : So) : HP := stars [sls q.r1 T.O.length q.c1 t.O 2 (T.O.flatMap eO), sls q.r2 T.R.length q.c2 t.S 2 (T.R.flatMap eO), sls q.r3 (cst T.A.free).length q.c3 t.I 1 ((cst T.A.free).flatMap e1)]
abbrev refV (S lim : Nat) (q : RQ) (T : So) : Value := .agg [.int .i64 (S : Int), .int .i64 (lim : Int), .slice q.r1 T.O.length q.c1, .slice q.r2 T.R.length q.c2, .slice q.r3 (cst T.A.free).length q.c3].toArray
theorem Sep.refE {t : RT} {q : RQ} {T : So} {l : List HP} {w : World} (h : Sep (refS t q T :: l) w) : Sep (sls q.r1 T.O.length q.c1 t.O 2 (T.O.flatMap eO) :: sls q.r2 T.R.length q.c2 t.S 2 (T.R.flatMap eO) :: sls q.r3 (cst T.A.free).length q.c3 t.I 1 ((cst T.A.free).flatMap e1) :: l) w := h.unpack
theorem Sep.refI {t : RT} {O R : List (Int × Nat)} {A : Ar} {n1 n2 n3 : Nat} {r1 r2 r3 : Option Addr} {c1 c2 c3 : Nat} {l : List HP} {w : World} (h1 : n1 = O.length) (h2 : n2 = R.length) (h3 : n3 = (cst A.free).length)
    (h : Sep (sls r1 n1 c1 t.O 2 (O.flatMap eO) :: sls r2 n2 c2 t.S 2 (R.flatMap eO) :: sls r3 n3 c3 t.I 1 ((cst A.free).flatMap e1) :: l) w) : Sep (refS t ⟨r1, c1, r2, c2, r3, c3⟩ { O := O, R := R, A := A } :: l) w := by
  subst h1 h2 h3
  exact Sep.packL [_, _, _] h
theorem Sep.refP {t : RT} {O R : List (Int × Nat)} {A : Ar} {n1 n2 n3 : Nat} {r1 r2 r3 : Option Addr} {c1 c2 c3 : Nat} {l l1 l2 l3 : List HP} {w : World} (h : Sep l w) (p1 : Pk (sls r1 n1 c1 t.O 2 (O.flatMap eO)) l l1) (p2 : Pk (sls r2 n2 c2 t.S 2 (R.flatMap eO)) l1 l2) (p3 : Pk (sls r3 n3 c3 t.I 1 ((cst A.free).flatMap e1)) l2 l3)
    (h1 : n1 = O.length) (h2 : n2 = R.length) (h3 : n3 = (cst A.free).length) : Sep (refS t ⟨r1, c1, r2, c2, r3, c3⟩ { O := O, R := R, A := A } :: l3) w :=
  Sep.refI h1 h2 h3 ((((h.pk p1).pk (.there p2)).pk (.there (.there p3))).pk (.there .here) |>.pk (.there (.there .here)))
/-- No list is long. -/
structure RB (T : So) : Prop where
  o : T.O.length ≤ 8192
  r : T.R.length ≤ 8192
  f : T.A.free.length ≤ 8192
section
variable {S lim : Nat} {T : So} {a x : Int} {O R : List (Int × Nat)} {i j s : Nat} {p : Int × Nat}
theorem SF.rb (h : SF S lim T) (hS : S ≤ 4096) : RB T := by
  have h1 := h.olen
  have h2 := h.rlen
  have h3 : T.A.free.length ≤ S := by
    refine nodup_len h.ok.nodup fun r hr => (h.free hr).1
  exact ⟨by omega, by omega, by omega⟩
theorem rcR_at (hi : i < R.length) (e : R[i].1 = a) (hn : ∀ p ∈ R.take i, p.1 ≠ a) : rcR R a = some R[i].2 := by
  have h0 : R = R.take i ++ R[i] :: R.drop (i + 1) := by rw [← List.drop_eq_getElem_cons hi, List.take_append_drop]
  unfold rcR
  have h1 : (R.take i).find? (fun p => decide (p.1 = a)) = none := by
    rw [List.find?_eq_none]; intro p hp; simpa using hn p hp
  have h2 : R.find? (fun p => decide (p.1 = a)) = some R[i] := by
    have h3 : (R.take i ++ R[i] :: R.drop (i + 1)).find? (fun p => decide (p.1 = a)) = some R[i] := by
      rw [List.find?_append, h1, List.find?_cons, decide_eq_true (by simpa using e)]
      simp
    rwa [← h0] at h3
  rw [h2]; rfl
theorem ofO_at (hi : i < O.length) (e : (O[i].2 : Int) = x) (hn : ∀ p ∈ O.take i, (p.2 : Int) ≠ x) : ofO O x = some O[i].1 := by
  have h0 : O = O.take i ++ O[i] :: O.drop (i + 1) := by rw [← List.drop_eq_getElem_cons hi, List.take_append_drop]
  unfold ofO
  have h1 : (O.take i).find? (fun p => decide ((p.2 : Int) = x)) = none := by
    rw [List.find?_eq_none]; intro p hp; simpa using hn p hp
  have h2 : O.find? (fun p => decide ((p.2 : Int) = x)) = some O[i] := by
    have h3 : (O.take i ++ O[i] :: O.drop (i + 1)).find? (fun p => decide ((p.2 : Int) = x)) = some O[i] := by
      rw [List.find?_append, h1, List.find?_cons, decide_eq_true (by simpa using e)]
      simp
    rwa [← h0] at h3
  rw [h2]; rfl
theorem no_next {P : Int × Nat → Prop} (hi : i < R.length) (h : ∀ p ∈ R.take i, P p) (e : P R[i]) : ∀ p ∈ R.take (i + 1), P p := by
  intro p hp
  rw [List.take_succ_eq_append_getElem hi] at hp
  rcases List.mem_append.1 hp with hp | hp
  · exact h p hp
  · simp only [List.mem_singleton] at hp; subst hp; exact e
theorem no_all {P : Int × Nat → Prop} (hi : R.length ≤ i) (h : ∀ p ∈ R.take i, P p) : ∀ p ∈ R, P p := by
  rwa [List.take_of_length_le hi] at h
theorem slO_next (hi : i < O.length) : slO (O.take (i + 1)) a = if O[i].1 = a then slO (O.take i) a ++ [O[i].2] else slO (O.take i) a := by
  rw [List.take_succ_eq_append_getElem hi]
  have : O[i] = (O[i].1, O[i].2) := rfl
  rw [this, slO_snoc]
theorem fil_next {α : Type} {L : List α} {P : α → Bool} (hi : i < L.length) : (L.take (i + 1)).filter P = if P L[i] = true then (L.take i).filter P ++ [L[i]] else (L.take i).filter P := by
  rw [List.take_succ_eq_append_getElem hi, List.filter_append, List.filter_cons, List.filter_nil]
  split
  · rfl
  · rw [List.append_nil]
/-! ### the least address above the last one -/
def SelI (L : List Int) (R : List (Int × Nat)) (j i : Nat) : Option Int → Prop
  | none => ∀ p ∈ R.take i, p.1 ∈ L.take j
  | some m => (∃ p ∈ R.take i, p.1 = m) ∧ m ∉ L.take j ∧ ∀ p ∈ R.take i, p.1 ∉ L.take j → m ≤ p.1
theorem SelI.start {L : List Int} : SelI L R j 0 none := by intro p hp; simp at hp
theorem SelI.old {L : List Int} {z : Option Int} (h : SelI L R j i z) (hi : i < R.length) (e : R[i].1 ∈ L.take j) : SelI L R j (i + 1) z := by
  cases z with
  | none => exact no_next (P := fun p => p.1 ∈ L.take j) hi h e
  | some m =>
    obtain ⟨⟨p, hp, h1⟩, h2, h3⟩ := h
    refine ⟨⟨p, ?_, h1⟩, h2, no_next (P := fun p => p.1 ∉ L.take j → m ≤ p.1) hi h3 fun h9 => absurd e h9⟩
    rw [List.take_succ_eq_append_getElem hi]; exact List.mem_append_left _ hp
theorem SelI.more {L : List Int} {m : Int} (h : SelI L R j i (some m)) (hi : i < R.length) (e : m ≤ R[i].1) : SelI L R j (i + 1) (some m) := by
  obtain ⟨⟨p, hp, h1⟩, h2, h3⟩ := h
  refine ⟨⟨p, ?_, h1⟩, h2, no_next (P := fun p => p.1 ∉ L.take j → m ≤ p.1) hi h3 fun _ => e⟩
  rw [List.take_succ_eq_append_getElem hi]; exact List.mem_append_left _ hp
theorem SelI.new {L : List Int} {z : Option Int} (h : SelI L R j i z) (hi : i < R.length) (e : R[i].1 ∉ L.take j) (hz : ∀ m, z = some m → R[i].1 < m) : SelI L R j (i + 1) (some R[i].1) := by
  refine ⟨⟨R[i], ?_, rfl⟩, e, no_next (P := fun p => p.1 ∉ L.take j → R[i].1 ≤ p.1) hi (fun p hp hn => ?_) fun _ => Int.le_refl _⟩
  · rw [List.take_succ_eq_append_getElem hi]; exact List.mem_append_right _ (List.mem_singleton.2 rfl)
  · cases z with
    | none => exact absurd (h p hp) hn
    | some m => have := h.2.2 p hp hn; have := hz m rfl; omega
theorem SelI.done {L : List Int} (h : SelI L R j i none) (hi : R.length ≤ i) (hm : ∀ x, x ∈ L ↔ ∃ p ∈ R, p.1 = x) (hs : L.Pairwise (· < ·)) (hj : j ≤ L.length) : j = L.length := by
  rcases Nat.lt_or_ge j L.length with h1 | h1
  · exfalso
    obtain ⟨p, hp, e⟩ := (hm L[j]).1 (List.getElem_mem h1)
    have h2 := no_all (P := fun p => p.1 ∈ L.take j) hi h p hp
    rw [e] at h2
    obtain ⟨k, hk, h3⟩ := List.getElem_of_mem h2
    rw [List.length_take] at hk
    rw [List.getElem_take] at h3
    have := List.pairwise_iff_getElem.1 hs k j (by omega) h1 (by omega)
    omega
  · omega
theorem SelI.next {L : List Int} {m : Int} (h : SelI L R j i (some m)) (hi : R.length ≤ i) (hm : ∀ x, x ∈ L ↔ ∃ p ∈ R, p.1 = x) (hs : L.Pairwise (· < ·)) (hj : j ≤ L.length) : ∃ h9 : j < L.length, L[j] = m := by
  obtain ⟨⟨p, hp, h1⟩, h2, h3⟩ := h
  rw [List.take_of_length_le hi] at hp
  have hmL : m ∈ L := (hm m).2 ⟨p, hp, h1⟩
  obtain ⟨k, hk, e⟩ := List.getElem_of_mem hmL
  have hkj : j ≤ k := by
    rcases Nat.lt_or_ge k j with h9 | h9
    · exact absurd (by rw [← e]; exact List.mem_take_iff_getElem.2 ⟨k, by omega, rfl⟩) h2
    · exact h9
  refine ⟨by omega, ?_⟩
  have hnot : L[j]'(by omega) ∉ L.take j := by
    intro h9
    obtain ⟨k2, hk2, h4⟩ := List.getElem_of_mem h9
    rw [List.length_take] at hk2
    rw [List.getElem_take] at h4
    have := List.pairwise_iff_getElem.1 hs k2 j (by omega) (by omega) (by omega)
    omega
  obtain ⟨p2, hp2, e2⟩ := (hm (L[j]'(by omega))).1 (List.getElem_mem _)
  have h5 := no_all (P := fun p => p.1 ∉ L.take j → m ≤ p.1) hi h3 p2 hp2 (by rw [e2]; exact hnot)
  rw [e2] at h5
  rcases Nat.lt_or_ge j k with h6 | h6
  · have := List.pairwise_iff_getElem.1 hs j k (by omega) hk h6
    omega
  · have : k = j := by omega
    subst this; exact e
theorem new_iff {L : List Int} (hs : L.Pairwise (· < ·)) (hj : j + 1 ≤ L.length) (ha : a ∈ L) : L[j] < a ↔ a ∉ L.take (j + 1) := by
  obtain ⟨k, hk, e⟩ := List.getElem_of_mem ha
  constructor
  · intro h h9
    obtain ⟨k2, hk2, h4⟩ := List.getElem_of_mem h9
    rw [List.length_take] at hk2
    rw [List.getElem_take] at h4
    rcases Nat.lt_or_ge k2 j with h6 | h6
    · have := List.pairwise_iff_getElem.1 hs k2 j (by omega) (by omega) h6
      omega
    · have : k2 = j := by omega
      subst this; omega
  · intro h
    rcases Nat.lt_or_ge j k with h6 | h6
    · have := List.pairwise_iff_getElem.1 hs j k (by omega) hk h6
      omega
    · exact absurd (by rw [← e]; exact List.mem_take_iff_getElem.2 ⟨k, by omega, rfl⟩) h
end
end Go.Proofs.Ythjfclljjcpikaa.Sx
