/-
  Slices that own their arrays ('sls'), slices that are only read, append, make and slice expressions as steps of a walk. Nothing of a program stands here.
-/
import Derived.Test.YtmcfmhiadlkglaaStep
import Derived.Laws.Append
namespace Go.Proofs.Ytmcfmhiadlkglaa.Sx
open Go
set_option linter.unusedVariables false

/-- A slice of n elements, of room for cap, that begins its own array: the elements' cells are cs. -/
def sls (r : Option Addr) (n cap : Nat) (T : TypeId) (sz : Nat) (cs : List Value) : HP := fun σ h =>
  (r = none ∧ n = 0 ∧ cap = 0 ∧ cs = [] ∧ h = PH.emp) ∨
  ∃ (b : Nat) (rest : List Value), r = some ⟨b, 0, none⟩ ∧ cs.length = n * sz ∧ cs.length + rest.length = cap * sz ∧ n ≤ cap ∧ blk b (cs ++ rest) T σ h

/-- The block of a slice's array. -/
def blkOf (r : Option Addr) : Nat := (r.map (·.block)).getD 0

section
variable {l l' : List HP} {w : World} {r : Option Addr} {n cap : Nat} {T : TypeId} {sz : Nat} {cs : List Value}
theorem Sep.slsE (h : Sep (sls r n cap T sz cs :: l) w) : (r = none ∧ n = 0 ∧ cap = 0 ∧ cs = [] ∧ Sep l w) ∨
    ∃ (b : Nat) (rest : List Value), r = some ⟨b, 0, none⟩ ∧ cs.length = n * sz ∧ cs.length + rest.length = cap * sz ∧ n ≤ cap ∧ Sep (blk b (cs ++ rest) T :: l) w := by
  obtain ⟨g, hs, x, y, d, rfl, hp, s⟩ := h
  rcases hp with ⟨h1, h2, h3, h4, h5⟩ | ⟨b, rest, h1, h2, h3, h4, h5⟩
  · subst h5
    rw [PH.emp_uni] at hs
    exact .inl ⟨h1, h2, h3, h4, y, hs, s⟩
  · exact .inr ⟨b, rest, h1, h2, h3, h4, _, hs, x, y, d, rfl, h5, s⟩
theorem Sep.slsI {b : Nat} {rest : List Value} (h : Sep (blk b (cs ++ rest) T :: l) w) (h1 : cs.length = n * sz) (h2 : cs.length + rest.length = cap * sz) (h3 : n ≤ cap) :
    Sep (sls (some ⟨b, 0, none⟩) n cap T sz cs :: l) w := h.conv fun σ g hp => .inr ⟨b, rest, rfl, h1, h2, h3, hp⟩
theorem Sep.slsB {b : Nat} (h : Sep (blk b cs T :: l) w) (h1 : cs.length = n * sz) : Sep (sls (some ⟨b, 0, none⟩) n n T sz cs :: l) w :=
  Sep.slsI (rest := []) (by simpa using h) h1 (by simpa using h1) (Nat.le_refl _)
theorem Sep.slsNil (h : Sep l w) : Sep (sls none 0 0 T sz [] :: l) w := by
  obtain ⟨g, hs, s⟩ := h
  exact ⟨g, hs, PH.emp, g, PH.emp_disj _, (PH.emp_uni _).symm, .inl ⟨rfl, rfl, rfl, rfl, rfl⟩, s⟩
theorem Sep.slsLe (h : Sep (sls r n cap T sz cs :: l) w) : n ≤ cap ∧ cs.length = n * sz := by
  rcases h.slsE with ⟨_, h2, h3, h4, _⟩ | ⟨b, rest, _, h2, _, h4, _⟩
  · subst h2 h3 h4; simp
  · exact ⟨h4, h2⟩
end

section
variable {P : Program} {Q : Exit → Act → World → Prop} {n : Nat} {a : Act} {S : Slots} {l l' : List HP} {w : World} {d : Nat} {dd : Option Nat} {t : TypeId} {pos : String} {af : Array Edge} {g : Option (Nat × Bool)} {K : Act → World → Prop}
variable {r : Option Addr} {m cap : Nat} {T : TypeId} {sz : Nat} {cs : List Value}

/-! ### reading -/
theorem Rd.sls {i : Nat} {v : Value} (p : Pk (Sx.sls r m cap T sz cs) l l') (h : cs[i]? = some v) : Rd l (blkOf r) i v := by
  intro w hw
  rcases (hw.pk p).slsE with ⟨_, _, _, h4, _⟩ | ⟨b, rest, h1, _, _, _, hb⟩
  · subst h4; simp at h
  · subst h1
    show w.cell? ⟨b, i, none⟩ = some v
    rw [blk_cell hb, List.getElem?_append_left (List.getElem?_eq_some_iff.1 h).1]; exact h
theorem Rds.sls {α : Type} {k : Nat} {xs : List α} {enc : α → List Value} (p : Pk (Sx.sls r m cap T sz (xs.flatMap enc)) l l') (hm : ∀ x, (enc x).length = sz) (hk : k < xs.length) : Rds l (blkOf r) (k * sz) (enc xs[k]) := by
  intro w hw j v hj
  rcases (hw.pk p).slsE with ⟨_, _, _, h4, _⟩ | ⟨b, rest, h1, _, _, _, hb⟩
  · have h0 : xs.length * sz = 0 := by rw [← flat_len hm xs, h4]; rfl
    have hj' : j < sz := by rw [← hm xs[k]]; exact (List.getElem?_eq_some_iff.1 hj).1
    rcases Nat.mul_eq_zero.1 h0 with h | h <;> omega
  · subst h1
    exact Rds.flat (rest := rest) (T := T) (b := b) .here hm hk w hb j v hj
theorem Yld.indexSls {ty e : TypeId} {x y : Operand} {k : IntKind} {i : Int} {z : TypeInfo} (hS : Has n a S) (hx : ev S x = some (.slice r m cap)) (hy : ev S y = some (.int k i))
    (hu : P.underlying ty = some (.slice e)) (hi : P.info? e = some z) (p : Pk (Sx.sls r m cap T sz cs) l l') (h0 : 0 ≤ i) (h1 : i < m) :
    Yld P a l ⟨dd, .indexAddr ty x y, t, pos, af, g⟩ (.pointer (some ⟨blkOf r, i.toNat * z.size, none⟩)) := by
  intro w hw
  rcases (hw.pk p).slsE with ⟨_, h2, _⟩ | ⟨b, rest, hr, _, _, _, _⟩
  · subst h2; omega
  · subst hr
    have := Yld.indexSlice (P := P) (l := l) (d := dd) (t := t) (pos := pos) (af := af) (g := g) hS hx hy hu hi h0 h1 w hw
    rw [this]; simp [blkOf]

/-! ### a slice that is only read -/
/-- The cells of the first m elements of a slice, as append and copy read them. -/
def XC (P : Program) (l : List HP) (sz : Nat) (v : Value) (m : Nat) (news : List Value) : Prop := ∀ w, Sep l w → news.length = m * sz ∧ (Builtin.firstCells sz m v).run P w = .ok news.toArray w
theorem XC.rds {b i c : Nat} {news : List Value} (h : Rds l b i news) (hl : news.length = m * sz) : XC P l sz (.slice (some ⟨b, i, none⟩) m c) m news := by
  refine fun w hw => ⟨hl, ?_⟩
  have := run_loadCells_list (P := P) w ⟨b, i, none⟩ news (fun j v hj => by rw [Addr.add_lit]; exact h w hw j v hj)
  rw [hl] at this
  exact this
theorem XC.blk {b c : Nat} (p : Pk (Sx.blk b cs T) l l') (hl : cs.length = m * sz) : XC P l sz (.slice (some ⟨b, 0, none⟩) m c) m cs := XC.rds (Rds.blk0 p) hl
theorem XC.nil {c : Nat} : XC P l sz (.slice none 0 c) 0 [] := fun w _ => ⟨by simp, rfl⟩
theorem XC.zero {q : Option Addr} {c : Nat} : XC P l sz (.slice q 0 c) 0 [] := by
  refine fun w _ => ⟨by simp, ?_⟩
  cases q with
  | none => rfl
  | some q => simp [Builtin.firstCells, loadCells, loadCellsFrom]
theorem XC.sls (p : Pk (Sx.sls r m cap T sz cs) l l') : XC P l sz (.slice r m cap) m cs := by
  intro w hw
  rcases (hw.pk p).slsE with ⟨h1, h2, _, h4, _⟩ | ⟨b, rest, h1, h2, _, _, hb⟩
  · subst h1 h2 h4; exact ⟨by simp, rfl⟩
  · subst h1
    exact XC.rds (P := P) (m := m) (sz := sz) (c := cap) (Rds.blk (i := 0) (T := T) (vs := cs) (Pk.here (l := l')) (by simp)) h2 w hb
/-- A part of an owned slice: from lo on, k elements. -/
theorem XC.sub {q : Option Addr} {k c lo : Nat} (p : Pk (Sx.sls r m cap T sz cs) l l') (hq : q = if cap = lo then r else r.map fun x => x.add (lo * sz)) (hk : lo + k ≤ m) :
    XC P l sz (.slice q k c) k ((cs.drop (lo * sz)).take (k * sz)) := by
  intro w hw
  rcases (hw.pk p).slsE with ⟨h1, h2, h3, h4, _⟩ | ⟨b, rest, h1, h2, h3, h4, hb⟩
  · obtain ⟨rfl, rfl⟩ : lo = 0 ∧ k = 0 := by omega
    subst h4
    simpa using XC.zero (P := P) (l := l) (sz := sz) (q := q) (c := c) w hw
  · subst h1
    by_cases hz : k = 0
    · subst hz
      simpa using XC.zero (P := P) (l := l) (sz := sz) (q := q) (c := c) w hw
    · rw [if_neg (by omega)] at hq
      subst hq
      have hle : lo * sz + k * sz ≤ m * sz := by rw [← Nat.add_mul]; exact Nat.mul_le_mul_right _ hk
      simp only [Option.map_some, Addr.add_lit, Nat.zero_add]
      have hlen : ((cs.drop (lo * sz)).take (k * sz)).length = k * sz := by simp; omega
      refine XC.rds (P := P) (Rds.blk (Pk.here (l := l')) ?_) hlen w hb
      rw [hlen, List.drop_append_of_le_length (by omega), List.take_append_of_le_length (by simp; omega)]
theorem Yld.sliceS {ty e : TypeId} {x y z : Operand} {k k' : IntKind} {lo hi : Int} {i : TypeInfo} (hS : Has n a S) (hx : ev S x = some (.slice r m cap)) (hy : ev S y = some (.int k lo)) (hz : ev S z = some (.int k' hi))
    (hu : P.underlying ty = some (.slice e)) (hi' : P.info? e = some i) (h0 : 0 ≤ lo) (h1 : lo ≤ hi) (h2 : hi ≤ cap) :
    Yld P a l ⟨dd, .slice ty x (some y) (some z) none, t, pos, af, g⟩ (.slice (if cap = lo.toNat then r else r.map fun q => q.add (lo.toNat * i.size)) (hi.toNat - lo.toNat) (cap - lo.toNat)) := by
  intro w _
  have hs : (sizeOf e).run P w = .ok i.size w := by simp [sizeOf, typeInfo, hi']
  have h3 : ¬ (Max.max hi 0 < lo) := by omega
  simp [execOp, hS.ev hx, hS.ev hy, hS.ev hz, Instr.sliceAt, Instr.slice, run_underlying hu, Instr.sliceBounds, Instr.sliceBound, asIntOf, hs, h0, h2, show 0 ≤ hi from by omega]
  intro h; exact absurd h h3
theorem Yld.sliceHi {ty e : TypeId} {x z : Operand} {k' : IntKind} {hi : Int} {i : TypeInfo} (hS : Has n a S) (hx : ev S x = some (.slice r m cap)) (hz : ev S z = some (.int k' hi))
    (hu : P.underlying ty = some (.slice e)) (hi' : P.info? e = some i) (h0 : 0 ≤ hi) (h2 : hi ≤ cap) :
    Yld P a l ⟨dd, .slice ty x none (some z) none, t, pos, af, g⟩ (.slice r hi.toNat cap) := by
  intro w _
  have hs : (sizeOf e).run P w = .ok i.size w := by simp [sizeOf, typeInfo, hi']
  have hr : r.map (fun q => q.add 0) = r := by cases r <;> simp [Addr.add_zero']
  simp [execOp, hS.ev hx, hS.ev hz, Instr.sliceAt, Instr.slice, run_underlying hu, Instr.sliceBounds, Instr.sliceBound, asIntOf, hs, h0, h2, hr]
theorem Yld.sliceLo {ty e : TypeId} {x y : Operand} {k : IntKind} {lo : Int} {i : TypeInfo} (hS : Has n a S) (hx : ev S x = some (.slice r m cap)) (hy : ev S y = some (.int k lo))
    (hu : P.underlying ty = some (.slice e)) (hi' : P.info? e = some i) (h0 : 0 ≤ lo) (h1 : lo ≤ m) :
    Yld P a l ⟨dd, .slice ty x (some y) none none, t, pos, af, g⟩ (.slice (if cap = lo.toNat then r else r.map fun q => q.add (lo.toNat * i.size)) (m - lo.toNat) (cap - lo.toNat)) := by
  intro w _
  have hs : (sizeOf e).run P w = .ok i.size w := by simp [sizeOf, typeInfo, hi']
  simp [execOp, hS.ev hx, hS.ev hy, Instr.sliceAt, Instr.slice, run_underlying hu, Instr.sliceBounds, Instr.sliceBound, asIntOf, hs, h0, h1]

/-- An array that is known cell by cell, seen as records of which only something is known. -/
theorem Sep.absL {α : Type} {enc : α → List Value} {C : List α → Prop} {b : Nat} (xs : List α) (hR : Sep (Sx.blk b cs T :: l) w) (e : cs = xs.flatMap enc) (hC : C xs) : ∃ rs, C rs ∧ Sep (Sx.blk b (rs.flatMap enc ++ []) T :: l) w :=
  ⟨xs, hC, by rw [List.append_nil, ← e]; exact hR⟩

/-! ### append -/
theorem lay_append : ∀ (xs ys zs : List Value), zs.length ≤ ys.length → lay (xs ++ ys) xs.length zs = xs ++ zs ++ ys.drop zs.length
  | xs, ys, [], _ => by simp [lay]
  | xs, [], z :: zs, h => by simp at h
  | xs, y :: ys, z :: zs, h => by
    have := lay_append (xs ++ [z]) ys zs (by simpa using h)
    simp only [lay, List.length_cons, List.drop_succ_cons]
    rw [List.set_append_right _ _ (Nat.le_refl _), Nat.sub_self, List.set_cons_zero, show xs ++ z :: ys = (xs ++ [z]) ++ ys from by simp, show xs.length + 1 = (xs ++ [z]).length from by simp, this]
    simp
theorem Bappend {ty e : TypeId} {x y : Operand} {q : Option Addr} {m2 c2 : Nat} {news : List Value} {z : TypeInfo} {zv : Value} (hS : Has n a S) (hR : Sep l w)
    (hx : ev S x = some (.slice r m cap)) (hy : ev S y = some (.slice q m2 c2)) (hu : P.underlying ty = some (.slice e)) (hi : P.info? e = some z) (hz : z.zero = some zv) (hsz : z.size = sz) (hzs : zv.cells.size = sz)
    (p : Pk (Sx.sls r m cap e sz cs) l l') (hn : XC P l sz (.slice q m2 c2) m2 news) (h1 : news.all Value.oneCell' = true) (hb : (m + m2) * z.bytes ≤ 140737488355328) (hm : m + m2 ≤ 9223372036854775807) (hd : d < n)
    (k : ∀ a' w' r' cap', Has n a' ((d, .slice r' (m + m2) cap') :: S) → Sep (Sx.sls r' (m + m2) cap' e sz (cs ++ news) :: l') w' → K a' w') :
    Oper.wp P ⟨some d, .call { callee := .builtin .append, args := [x, y].toArray, argTypes := [ty, ty].toArray }, t, pos, af, g⟩ a w K Q := by
  subst hsz
  have hsize : ∀ w, (sizeOf e).run P w = .ok z.size w := fun w => by simp [sizeOf, typeInfo, hi]
  have hti : ∀ w, (typeInfo e).run P w = .ok z w := fun w => by simp [typeInfo, hi]
  have hzero : ∀ w, (zeroValue e).run P w = .ok zv w := fun w => by simp [zeroValue, typeInfo, hi, hz]
  obtain ⟨hnl, hnr⟩ := hn w hR
  by_cases hc : m + m2 ≤ cap
  · -- there is room
    have hfin : ∃ w', (Builtin.append_ [ty, ty].toArray t #[.slice r m cap, .slice q m2 c2]).run P w = .ok (.slice r (m + m2) cap) w' ∧ Sep (Sx.sls r (m + m2) cap e z.size (cs ++ news) :: l') w' := by
      rcases (hR.pk p).slsE with ⟨e1, e2, e3, e4, hR'⟩ | ⟨b, rest, e1, e2, e3, e4, hR'⟩
      · subst e1 e2 e3 e4
        obtain rfl : m2 = 0 := by omega
        have : news = [] := List.eq_nil_of_length_eq_zero (by simpa using hnl)
        subst this
        refine ⟨w, ?_, by simpa using hR'.slsNil⟩
        simp [Builtin.append_, run_underlying hu, hsize, Builtin.lenOf, hnr]
      · subst e1
        have hroom : cs.length + news.length ≤ cap * z.size := by rw [e2, hnl, ← Nat.add_mul]; exact Nat.mul_le_mul_right _ hc
        obtain ⟨w', hr, hs⟩ := run_storeCells (P := P) news (m * z.size) (cs ++ rest) 0 w hR' (by simpa using h1) (by simp; omega)
        rw [Nat.add_zero, ← e2, lay_append cs rest news (by omega)] at hs
        refine ⟨w', ?_, ?_⟩
        · simp [Builtin.append_, run_underlying hu, hsize, Builtin.lenOf, hnr, hc, Addr.add_lit, hr]
        · exact Sep.slsI hs (by simp [e2, hnl, Nat.add_mul]) (by simp; omega) hc
    obtain ⟨w', hr, hs⟩ := hfin
    have hr' : (execOp a.eval ⟨some d, .call { callee := .builtin .append, args := [x, y].toArray, argTypes := [ty, ty].toArray }, t, pos, af, g⟩).run P w = .ok (.value (.slice r (m + m2) cap)) w' := by
      simp only [execOp, resolve, List.map_toArray, List.map_cons, List.map_nil, hS.ev hx, hS.ev hy, Sem.run_bind, Sem.run_pure, Result.andThen_ok, invoke, builtin, hr]
    unfold Oper.wp
    rw [hr']
    exact k _ w' r cap (hS.put d _ hd) hs
  · -- a new array
    have hold : ∀ w, Sep l w → (Builtin.firstCells z.size m (.slice r m cap)).run P w = .ok cs.toArray w := fun w hw => (XC.sls (P := P) p w hw).2
    have hfits := growslice_fits (need := m + m2) (old := cap) (bytes := z.bytes) (by omega) hb
    have hcs : cs.length = m * z.size := (XC.sls (P := P) p w hR).1
    have hR2 : Sep l w.drew := hR.drew
    obtain ⟨N, hN, hNge⟩ : ∃ N, (Question.appendCap (m + m2) cap e).cut (w.tape w.drawn (.appendCap (m + m2) cap e)) = N ∧ m + m2 ≤ N := ⟨_, rfl, by simp [Question.cut]⟩
    obtain ⟨rest, hrest, hrl⟩ : ∃ rest : List Value, Builtin.zeroCells zv.cells (N - (m + m2)) = rest.toArray ∧ rest.length = (N - (m + m2)) * z.size :=
      ⟨(Builtin.zeroCells zv.cells (N - (m + m2))).toList, by simp, by simp [Builtin.zeroCells, hzs]⟩
    have hr' : (execOp a.eval ⟨some d, .call { callee := .builtin .append, args := [x, y].toArray, argTypes := [ty, ty].toArray }, t, pos, af, g⟩).run P w =
        .ok (.value (.slice (some ⟨w.heap.size, 0, none⟩) (m + m2) N)) (w.drew.alloc (.cells (cs ++ news ++ rest).toArray e)) := by
      have h3 : ¬ (281474976710656 < Builtin.nextslicecap (m + m2) cap * z.bytes) := by omega
      have h4 : ¬ (9223372036854775807 < (m : Int) + (m2 : Int)) := by omega
      have e1 := hold _ hR2
      have e2 := (hn _ hR2).2
      simp only [execOp, resolve, List.map_toArray, List.map_cons, List.map_nil, hS.ev hx, hS.ev hy, Sem.run_bind, Sem.run_pure, Result.andThen_ok, invoke, builtin]
      simp [Builtin.append_, run_underlying hu, hsize, hti, hzero, Builtin.lenOf, hc, h3, h4, Question.forced, hN, e1, e2, hrest, newRow]
    unfold Oper.wp
    rw [hr']
    refine k _ _ _ N (hS.put d _ hd) (Sep.slsI (rest := rest) ?_ (by simp [hcs, hnl, Nat.add_mul]) ?_ hNge)
    · have := ((hR2.pk p).drop).new (.cells (cs ++ news ++ rest).toArray e)
      exact this
    · simp only [List.length_append, hcs, hnl, hrl, ← Nat.add_mul]
      congr 1; omega
/-- The cells of m zero elements. -/
def zeros (z : List Value) (m : Nat) : List Value := (List.replicate m z).flatten
theorem zeros_len {z : List Value} {m : Nat} : (zeros z m).length = m * z.length := by
  induction m with
  | zero => simp [zeros]
  | succ m ih => simp only [zeros] at *; rw [List.replicate_succ, List.flatten_cons, List.length_append, ih, Nat.succ_mul]; omega
theorem range_zeros {z : List Value} (m : Nat) (hz : 0 < z.length) : (List.range (m * z.length)).map (fun i => z.toArray[i % z.length]!) = zeros z m := by
  induction m with
  | zero => simp [zeros]
  | succ m ih =>
    rw [Nat.succ_mul, Nat.add_comm, List.range_add, List.map_append]
    have e1 : (List.range z.length).map (fun i => z.toArray[i % z.length]!) = z := by
      apply List.ext_getElem
      · simp
      · intro i h1 h2
        simp at h1
        simp [Nat.mod_eq_of_lt h1, h1]
    rw [e1]
    have e2 : ((List.range (m * z.length)).map (z.length + ·)).map (fun i => z.toArray[i % z.length]!) = zeros z m := by
      rw [← ih, List.map_map]
      apply List.map_congr_left
      intro i _
      simp [Nat.add_mod_left]
    rw [e2]
    simp [zeros, List.replicate_succ]
/-- make([]E, m) -/
theorem Bmake {ty e : TypeId} {x y : Operand} {i : Int} {k1 k2 : IntKind} {z : TypeInfo} {zv : Value} {zc : List Value} (hS : Has n a S) (hR : Sep l w) (hx : ev S x = some (.int k1 i)) (hy : ev S y = some (.int k2 i)) (hu : P.underlying ty = some (.slice e)) (hi : P.info? e = some z) (hz : z.zero = some zv)
    (hzc : zv.cells = zc.toArray) (hsz : z.size = zc.length) (hpos : 0 < zc.length) (h0 : 0 ≤ i) (h2 : (z.bytes : Int) * i ≤ 281474976710656) (h3 : i ≤ 4611686018427387904) (hd : d < n)
    (k : ∀ a' w' b, Has n a' ((d, .slice (some ⟨b, 0, none⟩) i.toNat i.toNat) :: S) → Sep (Sx.blk b (zeros zc i.toNat) e :: l) w' → K a' w') :
    Oper.wp P ⟨some d, .makeSlice ty x y, t, pos, af, g⟩ a w K Q := by
  have hti : ∀ w, (typeInfo e).run P w = .ok z w := fun w => by simp [typeInfo, hi]
  have hsize : ∀ w, (sizeOf e).run P w = .ok z.size w := fun w => by simp [sizeOf, typeInfo, hi]
  have hzero : ∀ w, (zeroValue e).run P w = .ok zv w := fun w => by simp [zeroValue, typeInfo, hi, hz]
  have hw : IntKind.i64.wrap i = i := IntWalk.i64_in _ (by omega)
  have hcells : (Array.range (i.toNat * zc.length)).map (fun j => zc[j % zc.length]?.getD default) = (zeros zc i.toNat).toArray := by
    rw [← range_zeros _ hpos]
    apply Array.ext'
    simp
  have hr : (execOp a.eval ⟨some d, .makeSlice ty x y, t, pos, af, g⟩).run P w = .ok (.value (.slice (some ⟨w.heap.size, 0, none⟩) i.toNat i.toNat)) (w.alloc (.cells (zeros zc i.toNat).toArray e)) := by
    have h4 : ¬ (i < 0) := by omega
    have h5 : ¬ (281474976710656 < (z.bytes : Int) * i) := by omega
    by_cases hz0 : i.toNat = 0
    · have hzz : i = 0 := by omega
      subst hzz
      simp [execOp, hS.ev hx, hS.ev hy, Instr.makeSlice, run_underlying hu, asInt, asIntOf, hti, hsize, hw, newRow, zeros, Array.range_zero']
    · have hz1 : ¬ (i.toNat * zc.length = 0) := fun h => by rcases Nat.mul_eq_zero.1 h with h | h <;> omega
      simp only [execOp, hS.ev hx, hS.ev hy, Instr.makeSlice, Sem.run_bind, run_underlying hu, Result.andThen_ok, asInt, asIntOf, Sem.run_pure, hti, hw]
      simp [h4, h5, hsize, hsz, hz1, hzero, hzc, newRow, hcells]
  unfold Oper.wp
  rw [hr]
  exact k _ _ _ (hS.put d _ hd) (hR.new _)
end
end Go.Proofs.Ytmcfmhiadlkglaa.Sx
