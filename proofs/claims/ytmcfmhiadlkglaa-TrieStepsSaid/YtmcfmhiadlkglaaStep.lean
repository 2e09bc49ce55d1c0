/-
  Steps of a walk, continued: a region's list of operations one by one, operations that make or write memory, calls by their contracts, the control of a function's body. Nothing of a program stands here.
-/
import Derived.Test.YtmcfmhiadlkglaaOps
import Derived.Scope
namespace Go.Proofs.Ytmcfmhiadlkglaa.Sx
open Go
set_option linter.unusedVariables false

/-- A call that returns a value, and what is then known. -/
def CallR (P : Program) (f : FuncId) (args : List Value) (w : World) (Φ : Value → World → Prop) : Prop :=
  Calls P f args.toArray w fun e w' => ∃ v, e = .returned v ∧ Φ v w'
theorem CallR.mono {P : Program} {f : FuncId} {args : List Value} {w : World} {Φ Φ' : Value → World → Prop} (h : CallR P f args w Φ) (hm : ∀ v w', Φ v w' → Φ' v w') : CallR P f args w Φ' :=
  Calls.mono h fun e w' ⟨v, he, hp⟩ => ⟨v, he, hm v w' hp⟩

section
variable {P : Program} {ops : Array Oper} {Q : Exit → Act → World → Prop} {n : Nat} {a : Act} {S : Slots} {l : List HP} {w : World} {rest : List Oper}
  {d : Nat} {op : Op} {t : TypeId} {pos : String} {af : Array Edge} {o : Oper}

/-! ### plain regions -/
theorem sA {v : Value} (hS : Has n a S) (hR : Sep l w) (hy : Yld P a l ⟨some d, op, t, pos, af, none⟩ v) (hd : d < n)
    (k : ∀ a', Has n a' ((d, v) :: S) → wpList P ops Q rest a' w) : wpList P ops Q (⟨some d, op, t, pos, af, none⟩ :: rest) a w := by
  unfold wpList
  simp only [Region.wanted, if_true, Oper.wp, hy w hR, Oper.upon]
  exact .inl (k _ (hS.put d v hd))
theorem sAg {v : Value} {j tj : Nat} {b : Bool} (hS : Has n a S) (hR : Sep l w) (hj : (ops[j]?).bind (·.dst) = some tj) (hg : lk tj S = some (.bool b))
    (hy : Yld P a l ⟨some d, op, t, pos, af, some (j, b)⟩ v) (hd : d < n)
    (k : ∀ a', Has n a' ((d, v) :: S) → wpList P ops Q rest a' w) : wpList P ops Q (⟨some d, op, t, pos, af, some (j, b)⟩ :: rest) a w := by
  have hw : Region.wanted (⟨some d, op, t, pos, af, some (j, b)⟩ : Oper) (yielded ops a.tmps) = true := by simp [Region.wanted, hS.yielded hj hg]
  unfold wpList
  rw [if_pos hw]
  simp only [Oper.wp, hy w hR, Oper.upon]
  exact .inl (k _ (hS.put d v hd))
theorem sSkip {j tj : Nat} {b c : Bool} (hS : Has n a S) (hj : (ops[j]?).bind (·.dst) = some tj) (hg : lk tj S = some (.bool c)) (hbc : (c == b) = false) (hd : d < n)
    (k : ∀ a', Has n a' ((d, undef) :: S) → wpList P ops Q rest a' w) : wpList P ops Q (⟨some d, op, t, pos, af, some (j, b)⟩ :: rest) a w := by
  have hw : Region.wanted (⟨some d, op, t, pos, af, some (j, b)⟩ : Oper) (yielded ops a.tmps) = false := by
    simp only [Region.wanted, hS.yielded hj hg]
    cases b <;> cases c <;> simp_all
  unfold wpList
  rw [if_neg (by simp [hw])]
  exact k _ (hS.put d undef hd)
theorem sSkipU {j tj : Nat} {b : Bool} (hS : Has n a S) (hj : (ops[j]?).bind (·.dst) = some tj) (hg : lk tj S = some undef) (hd : d < n)
    (k : ∀ a', Has n a' ((d, undef) :: S) → wpList P ops Q rest a' w) : wpList P ops Q (⟨some d, op, t, pos, af, some (j, b)⟩ :: rest) a w := by
  have hw : Region.wanted (⟨some d, op, t, pos, af, some (j, b)⟩ : Oper) (yielded ops a.tmps) = false := by
    simp [Region.wanted, hS.yieldedU hj hg]
  unfold wpList
  rw [if_neg (by simp [hw])]
  exact k _ (hS.put d undef hd)
theorem sSkip0 {j tj : Nat} {b c : Bool} (hS : Has n a S) (hj : (ops[j]?).bind (·.dst) = some tj) (hg : lk tj S = some (.bool c)) (hbc : (c == b) = false)
    (k : wpList P ops Q rest a w) : wpList P ops Q (⟨none, op, t, pos, af, some (j, b)⟩ :: rest) a w := by
  have hw : Region.wanted (⟨none, op, t, pos, af, some (j, b)⟩ : Oper) (yielded ops a.tmps) = false := by
    simp only [Region.wanted, hS.yielded hj hg]
    cases b <;> cases c <;> simp_all
  unfold wpList
  rw [if_neg (by simp [hw])]
  exact k
theorem sB {dd : Option Nat} (h : Oper.wp P ⟨dd, op, t, pos, af, none⟩ a w (wpList P ops Q rest) Q) : wpList P ops Q (⟨dd, op, t, pos, af, none⟩ :: rest) a w := by
  unfold wpList
  simp only [Region.wanted, if_true]
  exact .inl h
theorem sBg {dd : Option Nat} {j tj : Nat} {b : Bool} (hS : Has n a S) (hj : (ops[j]?).bind (·.dst) = some tj) (hg : lk tj S = some (.bool b))
    (h : Oper.wp P ⟨dd, op, t, pos, af, some (j, b)⟩ a w (wpList P ops Q rest) Q) : wpList P ops Q (⟨dd, op, t, pos, af, some (j, b)⟩ :: rest) a w := by
  have hw : Region.wanted (⟨dd, op, t, pos, af, some (j, b)⟩ : Oper) (yielded ops a.tmps) = true := by simp [Region.wanted, hS.yielded hj hg]
  unfold wpList
  rw [if_pos hw]
  exact .inl h

/-! ### operations that make or write memory -/
variable {K : Act → World → Prop} {g : Option (Nat × Bool)}
theorem Bbox {T : TypeId} {x : Operand} {v : Value} {cs : List Value} (hS : Has n a S) (hR : Sep l w) (hx : ev S x = some v) (hc : v.cells = cs.toArray) (hd : d < n)
    (k : ∀ a' w' b, Has n a' ((d, .pointer (some ⟨b, 0, none⟩)) :: S) → Sep (blk b cs T :: l) w' → K a' w') : Oper.wp P ⟨some d, .box T x, t, pos, af, g⟩ a w K Q := by
  have hr : (execOp a.eval ⟨some d, .box T x, t, pos, af, g⟩).run P w = .ok (.value (.pointer (some ⟨w.heap.size, 0, none⟩))) (w.alloc (.cells cs.toArray T)) := by
    simp [execOp, hS.ev hx, Instr.box, newVar, newRow, hc]
  unfold Oper.wp
  rw [hr]
  exact k _ _ _ (hS.put d _ hd) (hR.new _)
theorem Balloc {T : TypeId} {z : Value} {cs : List Value} {i : TypeInfo} (hS : Has n a S) (hR : Sep l w) (hi : P.info? T = some i) (hz : i.zero = some z) (hc : z.cells = cs.toArray) (hd : d < n)
    (k : ∀ a' w' b, Has n a' ((d, .pointer (some ⟨b, 0, none⟩)) :: S) → Sep (blk b cs T :: l) w' → K a' w') : Oper.wp P ⟨some d, .alloc T, t, pos, af, g⟩ a w K Q := by
  have hr : (execOp a.eval ⟨some d, .alloc T, t, pos, af, g⟩).run P w = .ok (.value (.pointer (some ⟨w.heap.size, 0, none⟩))) (w.alloc (.cells cs.toArray T)) := by
    simp [execOp, Instr.alloc, zeroValue, typeInfo, hi, hz, newVar, newRow, hc]
  unfold Oper.wp
  rw [hr]
  exact k _ _ _ (hS.put d _ hd) (hR.new _)
theorem BbuildSlice {ty : TypeId} {len : Nat} {ps : List (Nat × Operand)} {vs cs : List Value} {T : TypeId} (hS : Has n a S) (hR : Sep l w) (hx : evs S (ps.map (·.2)) = some vs)
    (h : ∀ w, (Instr.buildSlice ty len ((ps.map (·.1)).zip vs).toArray).run P w = .ok (.slice (some ⟨w.heap.size, 0, none⟩) len len) (w.alloc (.cells cs.toArray T))) (hd : d < n)
    (k : ∀ a' w' b, Has n a' ((d, .slice (some ⟨b, 0, none⟩) len len) :: S) → Sep (blk b cs T :: l) w' → K a' w') : Oper.wp P ⟨some d, .buildSlice ty len ps.toArray, t, pos, af, g⟩ a w K Q := by
  have e : (ps.map fun (i, x) => (i, a.eval x)) = (ps.map (·.1)).zip vs := by
    rw [← hS.evs hx]
    clear hx h
    induction ps with
    | nil => rfl
    | cons p ps ih => simp [ih]
  have hr : (execOp a.eval ⟨some d, .buildSlice ty len ps.toArray, t, pos, af, g⟩).run P w = .ok (.value (.slice (some ⟨w.heap.size, 0, none⟩) len len)) (w.alloc (.cells cs.toArray T)) := by
    simp only [execOp, List.map_toArray, e, Sem.run_bind, h w]
    rfl
  unfold Oper.wp
  rw [hr]
  exact k _ _ _ (hS.put d _ hd) (hR.new _)

/-- Cells laid into a list from a place on. -/
def lay (cs : List Value) (i : Nat) : List Value → List Value
  | [] => cs
  | v :: vs => lay (cs.set i v) (i + 1) vs
theorem run_storeCells {b : Nat} {T : TypeId} (vs : List Value) (base : Nat) : ∀ (cs : List Value) (i : Nat) (w : World), Sep (blk b cs T :: l) w → (∀ v ∈ vs, v.oneCell' = true) → base + i + vs.length ≤ cs.length →
    ∃ w', (storeCells ⟨b, base, none⟩ vs i).run P w = .ok () w' ∧ Sep (blk b (lay cs (base + i) vs) T :: l) w' := by
  induction vs with
  | nil => intro cs i w hw _ _; exact ⟨w, rfl, hw⟩
  | cons v vs ih =>
    intro cs i w hw h1 hl
    have hv : v.oneCell' = true := h1 v (List.mem_cons_self)
    simp only [List.length_cons] at hl
    have hc : w.cell? ⟨b, base + i, none⟩ = some cs[base + i] := by rw [blk_cell hw]; exact List.getElem?_eq_getElem (by omega)
    have hst : (store ((⟨b, base, none⟩ : Addr).add i) v).run P w = .ok () (w.setCell ⟨b, base + i, none⟩ v) := by
      rw [run_store P w _ v _ hv, Addr.add_lit, hc]
      simp [blk_frozen hw]
    obtain ⟨w', hr, hs⟩ := ih (cs.set (base + i) v) (i + 1) _ (blk_set hw (base + i) v) (fun u hu => h1 u (List.mem_cons_of_mem _ hu)) (by simp; omega)
    refine ⟨w', ?_, hs⟩
    simp only [storeCells, Sem.run_bind, hst, Result.andThen_ok]
    exact hr
theorem Bstore {ty : TypeId} {x y : Operand} {b i : Nat} {v : Value} {vs cs : List Value} {T : TypeId} {l' : List HP} {z : TypeInfo} (hS : Has n a S) (hR : Sep l w) (hx : ev S x = some (.pointer (some ⟨b, i, none⟩))) (hy : ev S y = some v)
    (hv : v.cells = vs.toArray) (hi : P.info? ty = some z) (hz : z.size = vs.length) (p : Pk (blk b cs T) l l') (h1 : vs.all Value.oneCell' = true) (hl : i + vs.length ≤ cs.length)
    (k : ∀ w', Sep (blk b (lay cs i vs) T :: l') w' → K a w') : Oper.wp P ⟨none, .store ty x y, t, pos, af, g⟩ a w K Q := by
  obtain ⟨w', hr, hs⟩ := run_storeCells (P := P) vs i cs 0 w (hR.pk p) (by simpa using h1) (by simpa using hl)
  have hsz : (sizeOf ty).run P w = .ok vs.length w := by simp [sizeOf, typeInfo, hi, hz]
  have hr' : (execOp a.eval ⟨none, .store ty x y, t, pos, af, g⟩).run P w = .ok .skip w' := by
    simp [execOp, hS.ev hx, hS.ev hy, Instr.storeAt, Instr.sureAddr, storeVar, hsz, hv, hr]
  unfold Oper.wp
  rw [hr']
  exact k w' hs

/-! ### calls -/
theorem Bcall {f : FuncId} {xs : List Operand} {vs : List Value} {ts : Array TypeId} {Φ : Value → World → Prop} (hS : Has n a S) (hx : evs S xs = some vs)
    (hf : ∀ as w, (callFunc f as).run P w = .ok (.enter f as) w) (hc : CallR P f vs w Φ) (hd : d < n)
    (k : ∀ a' w' v, Has n a' ((d, v) :: S) → Φ v w' → K a' w') : Oper.wp P ⟨some d, .call { callee := .value (.func f), args := xs.toArray, argTypes := ts }, t, pos, af, g⟩ a w K Q := by
  have hr : (execOp a.eval ⟨some d, .call { callee := .value (.func f), args := xs.toArray, argTypes := ts }, t, pos, af, g⟩).run P w = .ok (.enter f vs.toArray) w := by
    simp only [execOp, resolve, List.map_toArray, hS.evs hx, Act.eval, Deferred.ofValue, Sem.run_bind, Sem.run_pure, Result.andThen_ok, invoke]
    simpa using hf vs.toArray w
  unfold Oper.wp
  rw [hr]
  simp only [Oper.upon]
  refine Calls.mono hc fun e w' he => ?_
  obtain ⟨v, rfl, hp⟩ := he
  exact k _ w' v (hS.put d v hd) hp
/-- A call of a function value. -/
theorem BcallV {f : FuncId} {x : Operand} {first caps : List Value} {xs : List Operand} {vs : List Value} {ts : Array TypeId} {Φ : Value → World → Prop} (hS : Has n a S) (h0 : ev S x = some (.func (.func f) first.toArray caps.toArray)) (hx : evs S xs = some vs)
    (hf : ∀ as w, (callFunc f as).run P w = .ok (.enter f as) w) (hc : CallR P f (first ++ vs ++ caps) w Φ) (hd : d < n)
    (k : ∀ a' w' v, Has n a' ((d, v) :: S) → Φ v w' → K a' w') : Oper.wp P ⟨some d, .call { callee := .value x, args := xs.toArray, argTypes := ts }, t, pos, af, g⟩ a w K Q := by
  have hr : (execOp a.eval ⟨some d, .call { callee := .value x, args := xs.toArray, argTypes := ts }, t, pos, af, g⟩).run P w = .ok (.enter f (first ++ vs ++ caps).toArray) w := by
    simp only [execOp, resolve, List.map_toArray, hS.evs hx, hS.ev h0, Deferred.ofValue, Sem.run_bind, Sem.run_pure, Result.andThen_ok, invoke]
    simpa using hf (first ++ vs ++ caps).toArray w
  unfold Oper.wp
  rw [hr]
  simp only [Oper.upon]
  refine Calls.mono hc fun e w' he => ?_
  obtain ⟨v, rfl, hp⟩ := he
  exact k _ w' v (hS.put d v hd) hp

/-! ### the body -/
def entry (i : Nat) : List Value → Slots
  | [] => []
  | v :: vs => (i, v) :: entry (i + 1) vs
theorem lookup_entry : ∀ (vs : List Value) (i t : Nat) (v : Value), lk t (entry i vs) = some v → i ≤ t ∧ vs[t - i]? = some v
  | [], i, t, v, h => by simp [entry, lk] at h
  | u :: vs, i, t, v, h => by
    simp only [entry, lk_cons] at h
    by_cases ht : t = i
    · subst ht; simp at h; subst h; simp
    · rw [if_neg ht] at h
      obtain ⟨h1, h2⟩ := lookup_entry vs (i + 1) t v h
      refine ⟨by omega, ?_⟩
      rw [show t - i = (t - (i + 1)) + 1 from by omega]
      simpa using h2
/-- What is asked of the end of a body. -/
def Post (P : Program) (fn : Func) (Φ : Value → World → Prop) : Exit → Act → World → Prop := bodyPost P fn fun e w' => ∃ v, e = .returned v ∧ Φ v w'
theorem enter {f : FuncId} {fn : Func} {c : Code} {vs : List Value} {m : Nat} {Φ : Value → World → Prop} (hf : P.funcs[f]? = some fn) (hb : fn.body = some c) (hn : fn.ntmps = m) (hl : vs.length ≤ m)
    (h : ∀ a, Has m a (entry 0 vs) → c.wp P (Post P fn Φ) a w) : CallR P f vs w Φ := by
  refine calls_of_wp hf hb (h _ ?_)
  refine ⟨by simp [hn]; omega, rfl, fun t v ht => ?_⟩
  obtain ⟨_, h2⟩ := lookup_entry vs 0 t v ht
  simp only [Nat.sub_zero] at h2
  have hlt : t < vs.length := by
    rcases Nat.lt_or_ge t vs.length with h' | h'
    · exact h'
    · simp [List.getElem?_eq_none h'] at h2
  show (vs.toArray ++ _)[t]? = some v
  rw [Array.getElem?_append_left (by simpa using hlt)]
  simpa using h2

def resOf (tmps : Array Value) : ResultVar → Sem Value
  | .tmp t => pure (tmps.getD t undef)
  | .cell p t => do loadVar t (← asAddr (tmps.getD p undef))
theorem results_eq (fn : Func) (tmps : Array Value) : results fn tmps = (do let vs ← fn.results.mapM (resOf tmps); pure (if h : vs.size = 1 then vs[0] else .tuple vs)) := by
  unfold results
  rfl
/-- A result of a function: what its slot, or the variable that it points to, holds. -/
def Res1 (P : Program) (S : Slots) (l : List HP) (r : ResultVar) (v : Value) : Prop := ∀ (n : Nat) (a : Act) (w : World), Has n a S → Sep l w → (resOf a.tmps r).run P w = .ok v w
theorem Res1.tmp {t : Nat} {v : Value} (hl : lk t S = some v) : Res1 P S l (.tmp t) v := fun n a w hS hR => by
  simp [resOf, Array.getD_eq_getD_getElem?, hS.at' _ _ hl]
theorem Res1.one {t b i : Nat} {ty : TypeId} {v : Value} {dd : TypeDesc} (hl : lk t S = some (.pointer (some ⟨b, i, none⟩))) (hu : P.underlying ty = some dd) (hna : (match dd with | .struct _ | .array _ _ => true | _ => false) = false) (hr : Rd l b i v) : Res1 P S l (.cell t ty) v := fun n a w hS hR => by
  have ha : (isAgg ty).run P w = .ok false w := by
    simp only [isAgg, Sem.run_bind, run_underlying hu, Result.andThen_ok]
    cases dd <;> simp_all
  simp [resOf, Array.getD_eq_getD_getElem?, hS.at' _ _ hl, asAddr, loadVar, ha, hr w hR]
theorem Res1.agg {t b i : Nat} {ty : TypeId} {vs : List Value} {dd : TypeDesc} {z : TypeInfo} (hl : lk t S = some (.pointer (some ⟨b, i, none⟩))) (hu : P.underlying ty = some dd) (hna : (match dd with | .struct _ | .array _ _ => true | _ => false) = true) (hi : P.info? ty = some z) (hr : Rds l b i vs) (hz : z.size = vs.length) : Res1 P S l (.cell t ty) (.agg vs.toArray) := fun n a w hS hR => by
  have ha : (isAgg ty).run P w = .ok true w := by
    simp only [isAgg, Sem.run_bind, run_underlying hu, Result.andThen_ok]
    cases dd <;> simp_all
  have hs : (sizeOf ty).run P w = .ok vs.length w := by simp [sizeOf, typeInfo, hi, hz]
  have hl' := run_loadCells_list (P := P) w ⟨b, i, none⟩ vs (fun j v hj => by rw [Addr.add_lit]; exact hr w hR j v hj)
  simp [resOf, Array.getD_eq_getD_getElem?, hS.at' _ _ hl, asAddr, loadVar, ha, hs, hl']
def ResN (P : Program) (S : Slots) (l : List HP) (rs : List ResultVar) (vs : List Value) : Prop := ∀ (n : Nat) (a : Act) (w : World), Has n a S → Sep l w → (rs.mapM (resOf a.tmps)).run P w = .ok vs w
theorem ResN.nil : ResN P S l [] [] := fun _ _ _ _ _ => rfl
theorem ResN.cons {r : ResultVar} {v : Value} {rs : List ResultVar} {vs : List Value} (h1 : Res1 P S l r v) (h2 : ResN P S l rs vs) : ResN P S l (r :: rs) (v :: vs) := fun n a w hS hR => by
  simp only [List.mapM_cons, Sem.run_bind, h1 n a w hS hR, Result.andThen_ok, h2 n a w hS hR, Sem.run_pure]
theorem thenR {a : Act} {w : World} {K : Act → World → Prop} (h : Q .ret a w) : Exit.then K Q .ret a w := h
theorem blockR {a : Act} {w : World} {id : Nat} (h : Q .ret a w) : Exit.inBlock id Q .ret a w := h
theorem scopeR {a : Act} {w : World} (h : Q .ret a w) : Exit.noGoto Q .ret a w := h
/-- Behind an exit: what is asked of it, seen through the control around it. -/
theorem ret1 {fn : Func} {r : ResultVar} {Φ : Value → World → Prop} {e : Exit} (he : e = .ret ∨ e = .normal) (hf : fn.results = [r].toArray) (hS : Has n a S) (hR : Sep l w) (h : ∃ v, Res1 P S l r v ∧ Φ v w) : Post P fn Φ e a w := by
  obtain ⟨v, h, hp⟩ := h
  have hr : (results fn a.tmps).run P w = .ok v w := by
    have := ResN.cons h ResN.nil n a w hS hR
    rw [results_eq, hf]
    simp only [List.mapM_toArray, Sem.run_bind, Sem.run_map, this, Result.andThen_ok]
    simp
  rcases he with rfl | rfl <;> exact ⟨hS.defers, v, hr, v, rfl, hp⟩
theorem retN {fn : Func} {rs : List ResultVar} {Φ : Value → World → Prop} {e : Exit} (he : e = .ret ∨ e = .normal) (hf : fn.results = rs.toArray) (hS : Has n a S) (hR : Sep l w) (h : ∃ vs, ResN P S l rs vs ∧ Nat.beq vs.length 1 = false ∧ Φ (.tuple vs.toArray) w) : Post P fn Φ e a w := by
  obtain ⟨vs, h, hn', hp⟩ := h
  have hn : vs.length ≠ 1 := fun e => by simp [e] at hn'
  have hr : (results fn a.tmps).run P w = .ok (.tuple vs.toArray) w := by
    have := h n a w hS hR
    rw [results_eq, hf]
    simp only [List.mapM_toArray, Sem.run_bind, Sem.run_map, this, Result.andThen_ok]
    simp [hn]
  rcases he with rfl | rfl <;> exact ⟨hS.defers, _, hr, _, rfl, hp⟩

/-! ### a loop -/
theorem loopI {X : Type} (B : Slots) (V : X → Slots) (H : X → List HP) (r : List HP) (I : X → Prop) (μ : X → Nat) (x0 : X) {c : Code} (hI : I x0) (hS : Has n a (V x0 ++ B)) (hR : Sep (H x0 ++ r) w)
    (round : ∀ x a w, I x → Has n a (V x ++ B) → Sep (H x ++ r) w →
      c.wp P (Exit.then (fun a' w' => ∃ x', I x' ∧ μ x' < μ x ∧ Has n a' (V x' ++ B) ∧ Sep (H x' ++ r) w') Q) a w) : (Code.loop c).wp P Q a w := by
  intro b k cs
  have key : ∀ m x a w, μ x = m → I x → Has n a (V x ++ B) → Sep (H x ++ r) w →
      ∃ e a' w', Q e a' w' ∧ Arrives P (lone (b.at a (.code c :: .inLoop c :: k)) cs w) b k cs e a' w' := by
    intro m
    induction m using Nat.strongRecOn with
    | _ m ih =>
      intro x a w hm hI hS hR
      obtain ⟨e, a₁, w₁, hq, harr⟩ := round x a w hI hS hR b (.inLoop c :: k) cs
      cases e with
      | normal =>
        obtain ⟨x', hI', hlt, hS', hR'⟩ := hq
        obtain ⟨e₂, a₂, w₂, hq₂, harr₂⟩ := ih (μ x') (hm ▸ hlt) x' a₁ w₁ rfl hI' hS' hR'
        exact ⟨e₂, a₂, w₂, hq₂, .of_steps (Steps.trans harr (.one step_inLoop)) harr₂⟩
      | exit id => exact ⟨_, a₁, w₁, hq, .pass (x := .inLoop c) rfl (fun _ _ => .inl (by simp)) harr⟩
      | goto l => exact ⟨_, a₁, w₁, hq, .pass (x := .inLoop c) rfl (fun _ _ => .inl (by simp)) harr⟩
      | ret => exact ⟨_, a₁, w₁, hq, .pass (x := .inLoop c) rfl (fun _ _ => .inl (by simp)) harr⟩
      | panic ch => exact ⟨_, a₁, w₁, hq, .pass (x := .inLoop c) rfl (fun _ _ => .inl (by simp)) harr⟩
      | outgrown => exact ⟨_, a₁, w₁, hq, .pass (x := .inLoop c) rfl (fun _ _ => .inl (by simp)) harr⟩
  obtain ⟨e, a', w', hq, harr⟩ := key _ x0 a w rfl hI hS hR
  exact ⟨e, a', w', hq, .of_steps (.one step_loop) harr⟩

/-! ### a region that draws its order: the operations that only yield a value are taken in the text's order, the others as they may come up -/
theorem BA {v : Value} (hS : Has n a S) (hR : Sep l w) (hy : Yld P a l ⟨some d, op, t, pos, af, g⟩ v) (hd : d < n) (k : ∀ a', Has n a' ((d, v) :: S) → K a' w) : Oper.wp P ⟨some d, op, t, pos, af, g⟩ a w K Q := by
  unfold Oper.wp
  rw [hy w hR]
  exact k _ (hS.put d v hd)
section drawn
variable {l0 : List HP} {fuel : Nat} {listed : Array Bool}
theorem drawn {id : Nat} (hm : P.follows .mixedOrders = true) (hR : Sep l w) (ex : Ex l l0)
    (h : ∀ w, Sep l w → Sep l0 w → wpAnyH P .any ops Q (Sep l0) ops.size (Array.replicate ops.size false) a w) : (Code.region id ops true).wp P Q a w :=
  wp_region_held (S := Sep l0) hm (h _ hR.drewN (hR.drewN.sub ex))
theorem dA {v : Value} (i : Nat) (hi : ops[i]? = some ⟨some d, op, t, pos, af, none⟩) (hs : Region.noSelect ops = true) (hf : Region.free .any ops listed i = true) (hr : (Region.ready .any ops listed).contains i = true)
    (hQ : ∀ c (a : Act) w, Q (.panic c) (a.put (some d) v) w → Q (.panic c) a w) (hS : Has n a S) (hR0 : Sep l0 w) (hy : Yld P a l0 ⟨some d, op, t, pos, af, none⟩ v) (hd : d < n)
    (k : ∀ a', Has n a' ((d, v) :: S) → wpAnyH P .any ops Q (Sep l0) fuel (listed.setIfInBounds i true) a' w) : wpAnyH P .any ops Q (Sep l0) (fuel + 1) listed a w :=
  wpAnyH_take hi hs hf hr hQ (.inl ⟨by simp [Region.wanted], fun w hw => hy w hw⟩) hR0 (k _ (hS.put d v hd))
theorem dAg {v : Value} {j tj : Nat} {b : Bool} (i : Nat) (hi : ops[i]? = some ⟨some d, op, t, pos, af, some (j, b)⟩) (hs : Region.noSelect ops = true) (hf : Region.free .any ops listed i = true) (hr : (Region.ready .any ops listed).contains i = true)
    (hQ : ∀ c (a : Act) w, Q (.panic c) (a.put (some d) v) w → Q (.panic c) a w) (hS : Has n a S) (hj : (ops[j]?).bind (·.dst) = some tj) (hg : lk tj S = some (.bool b)) (hR0 : Sep l0 w) (hy : Yld P a l0 ⟨some d, op, t, pos, af, some (j, b)⟩ v) (hd : d < n)
    (k : ∀ a', Has n a' ((d, v) :: S) → wpAnyH P .any ops Q (Sep l0) fuel (listed.setIfInBounds i true) a' w) : wpAnyH P .any ops Q (Sep l0) (fuel + 1) listed a w :=
  wpAnyH_take hi hs hf hr hQ (.inl ⟨by simp [Region.wanted, hS.yielded hj hg], fun w hw => hy w hw⟩) hR0 (k _ (hS.put d v hd))
theorem dSkip {j tj : Nat} {b c : Bool} (i : Nat) (hi : ops[i]? = some ⟨some d, op, t, pos, af, some (j, b)⟩) (hs : Region.noSelect ops = true) (hf : Region.free .any ops listed i = true) (hr : (Region.ready .any ops listed).contains i = true)
    (hQ : ∀ c (a : Act) w, Q (.panic c) (a.put (some d) undef) w → Q (.panic c) a w) (hS : Has n a S) (hj : (ops[j]?).bind (·.dst) = some tj) (hg : lk tj S = some (.bool c)) (hbc : (c == b) = false) (hR0 : Sep l0 w) (hd : d < n)
    (k : ∀ a', Has n a' ((d, undef) :: S) → wpAnyH P .any ops Q (Sep l0) fuel (listed.setIfInBounds i true) a' w) : wpAnyH P .any ops Q (Sep l0) (fuel + 1) listed a w :=
  wpAnyH_take hi hs hf hr hQ (.inr ⟨by simp only [Region.wanted, hS.yielded hj hg]; cases b <;> cases c <;> simp_all, rfl⟩) hR0 (k _ (hS.put d undef hd))
theorem dSkipU {j tj : Nat} {b : Bool} (i : Nat) (hi : ops[i]? = some ⟨some d, op, t, pos, af, some (j, b)⟩) (hs : Region.noSelect ops = true) (hf : Region.free .any ops listed i = true) (hr : (Region.ready .any ops listed).contains i = true)
    (hQ : ∀ c (a : Act) w, Q (.panic c) (a.put (some d) undef) w → Q (.panic c) a w) (hS : Has n a S) (hj : (ops[j]?).bind (·.dst) = some tj) (hg : lk tj S = some undef) (hR0 : Sep l0 w) (hd : d < n)
    (k : ∀ a', Has n a' ((d, undef) :: S) → wpAnyH P .any ops Q (Sep l0) fuel (listed.setIfInBounds i true) a' w) : wpAnyH P .any ops Q (Sep l0) (fuel + 1) listed a w :=
  wpAnyH_take hi hs hf hr hQ (.inr ⟨by simp [Region.wanted, hS.yieldedU hj hg], rfl⟩) hR0 (k _ (hS.put d undef hd))
theorem dnext {G : Prop} (h : Sep l0 w) (k : Sep l0 w → G) : Sep l0 w ∧ G := ⟨h, k h⟩
theorem dOne {i : Nat} (hr : Region.ready .any ops listed = [i]) (h : wpOp P ops Q i (fun a' w' => Sep l0 w' ∧ wpAnyH P .any ops Q (Sep l0) fuel (listed.setIfInBounds i true) a' w') a w) : wpAnyH P .any ops Q (Sep l0) (fuel + 1) listed a w :=
  wpAnyH_all hr (by simp) (by intro j hj; simp at hj; subst hj; exact h)
theorem dTwo {i j : Nat} (hr : Region.ready .any ops listed = [i, j]) (h : wpOp P ops Q i (fun a' w' => Sep l0 w' ∧ wpAnyH P .any ops Q (Sep l0) fuel (listed.setIfInBounds i true) a' w') a w)
    (h' : wpOp P ops Q j (fun a' w' => Sep l0 w' ∧ wpAnyH P .any ops Q (Sep l0) fuel (listed.setIfInBounds j true) a' w') a w) : wpAnyH P .any ops Q (Sep l0) (fuel + 1) listed a w :=
  wpAnyH_all hr (by simp) (by intro m hm; simp at hm; rcases hm with rfl | rfl <;> assumption)
theorem dThree {i j m : Nat} (hr : Region.ready .any ops listed = [i, j, m]) (h : wpOp P ops Q i (fun a' w' => Sep l0 w' ∧ wpAnyH P .any ops Q (Sep l0) fuel (listed.setIfInBounds i true) a' w') a w)
    (h' : wpOp P ops Q j (fun a' w' => Sep l0 w' ∧ wpAnyH P .any ops Q (Sep l0) fuel (listed.setIfInBounds j true) a' w') a w)
    (h'' : wpOp P ops Q m (fun a' w' => Sep l0 w' ∧ wpAnyH P .any ops Q (Sep l0) fuel (listed.setIfInBounds m true) a' w') a w) : wpAnyH P .any ops Q (Sep l0) (fuel + 1) listed a w :=
  wpAnyH_all hr (by simp) (by intro q hq; simp at hq; rcases hq with rfl | rfl | rfl <;> assumption)
theorem dop {i : Nat} {dd : Option Nat} (hi : ops[i]? = some ⟨dd, op, t, pos, af, none⟩) (h : Oper.wp P ⟨dd, op, t, pos, af, none⟩ a w K Q) : wpOp P ops Q i K a w := by
  unfold wpOp
  simp only [hi, Region.wanted, if_true]
  exact .inl h
theorem dopg {i : Nat} {dd : Option Nat} {j tj : Nat} {b : Bool} (hi : ops[i]? = some ⟨dd, op, t, pos, af, some (j, b)⟩) (hS : Has n a S) (hj : (ops[j]?).bind (·.dst) = some tj) (hg : lk tj S = some (.bool b)) (h : Oper.wp P ⟨dd, op, t, pos, af, some (j, b)⟩ a w K Q) : wpOp P ops Q i K a w := by
  have hw : Region.wanted (⟨dd, op, t, pos, af, some (j, b)⟩ : Oper) (yielded ops a.tmps) = true := by simp [Region.wanted, hS.yielded hj hg]
  unfold wpOp
  simp only [hi, hw, if_true]
  exact .inl h
theorem dopSkip {i : Nat} {dd : Option Nat} {j tj : Nat} {b c : Bool} (hi : ops[i]? = some ⟨dd, op, t, pos, af, some (j, b)⟩) (hS : Has n a S) (hj : (ops[j]?).bind (·.dst) = some tj) (hg : lk tj S = some (.bool c)) (hbc : (c == b) = false) (h : K (a.put dd undef) w) : wpOp P ops Q i K a w := by
  have hw : Region.wanted (⟨dd, op, t, pos, af, some (j, b)⟩ : Oper) (yielded ops a.tmps) = false := by
    simp only [Region.wanted, hS.yielded hj hg]; cases b <;> cases c <;> simp_all
  unfold wpOp
  simp only [hi, hw, Bool.false_eq_true, if_false]
  exact h
end drawn

theorem condT {x : Operand} {c1 c2 : Code} (hS : Has n a S) (hx : ev S x = some (.bool true)) (h : c1.wp P Q a w) : (Code.cond x c1 c2).wp P Q a w := wp_cond_true (hS.ev hx) h
theorem condF {x : Operand} {c1 c2 : Code} (hS : Has n a S) (hx : ev S x = some (.bool false)) (h : c2.wp P Q a w) : (Code.cond x c1 c2).wp P Q a w := wp_cond_false (hS.ev hx) h
theorem condS {x : Operand} {c1 c2 : Code} {b : Bool} (hS : Has n a S) (hx : ev S x = some (.bool b)) (h1 : b = true → c1.wp P Q a w) (h2 : b = false → c2.wp P Q a w) : (Code.cond x c1 c2).wp P Q a w :=
  wp_cond_split (hS.ev hx) h1 h2
end
end Go.Proofs.Ytmcfmhiadlkglaa.Sx
