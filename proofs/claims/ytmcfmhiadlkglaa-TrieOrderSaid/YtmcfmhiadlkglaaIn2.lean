/-
  Ranges over functions: the statement, its rounds, the calls of yield, the function's end. Nothing of a program stands here.
-/
import Derived.Test.YtmcfmhiadlkglaaIn
import Derived.OrdersIn
namespace Go.Proofs.Ytmcfmhiadlkglaa.Sx
open Go
set_option linter.unusedVariables false
section
variable {P : Program} {ops : Array Oper} {ro : Option Nat} {m n : Nat} {a : Act} {S : Slots} {l : List HP} {w : World} {rest : List Oper} {ds : List Deferred}
  {d : Nat} {op : Op} {t : TypeId} {pos : String} {af : Array Edge} {o : Oper} {Q : Exit → Act → World → Prop} {K : Act → World → Prop}
/-- A region that draws its order. -/
theorem xdrawn {id : Nat} {l0 : List HP} (hm : P.follows .mixedOrders = true) (hn : ops.toList.all (fun o => nd o.op) = true) (hS : Has n a S) (hR : Sep l w) (ex : Ex l l0)
    (h : ∀ w, Sep l w → Sep l0 w → wpAnyH P .any ops (Qd ds Q) (Sep l0) ops.size (Array.replicate ops.size false) a w) : (Code.region id ops true).wpIn (FR ro) m P Q (wd ds a) w :=
  wpIn_region_draw fun t => by
    simp only [Region.schedule, hm, Bool.true_or, if_true]
    exact wpOps_in (fun o ho => List.all_eq_true.1 hn o ho) hS.defers (wpAny_sound ops.size t _ a _ (wpAny_of_held _ _ _ _ (h _ hR.drewN (hR.drewN.sub ex))))
/-- The block for the deferred calls of a loop's rounds; its mark. -/
def DF (D : Nat) : HP := pt D (.deferred (some []))
def mk (D : Nat) : Deferred := { target := .collected D, args := #[] }
theorem Sep.put {b : Nat} {o o' : Obj} (h : Sep (pt b o :: l) w) : Sep (pt b o' :: l) (w.putObj b o') :=
  h.upd (World.putObj_heap_same h.lt) (fun c hc => World.putObj_heap_other hc) rfl rfl
/-- What is asked of the end of a body. -/
def PostX (P : Program) (fn : Func) (Φ : Value → World → Prop) : Exit → Act → World → Prop
  | .normal, a, w | .ret, a, w => LeavesInM (FR none) 0 P fn a.tmps (fun e w' => ∃ v, e = .returned v ∧ Φ v w') a.defers .returning w
  | _, _, _ => False
theorem enterX {f : FuncId} {fn : Func} {c : Code} {vs : List Value} {m : Nat} {Φ : Value → World → Prop} (hf : P.funcs[f]? = some fn) (hb : fn.body = some c) (hn : fn.ntmps = m) (hl : vs.length ≤ m)
    (h : ∀ a, Has m a (entry 0 vs) → c.wpIn (FR none) 0 P (PostX P fn Φ) (wd [] a) w) : CallR P f vs w Φ := by
  have hH : Has m { tmps := vs.toArray ++ Array.replicate (fn.ntmps - vs.toArray.size) undef, defers := [] } (entry 0 vs) := by
    refine ⟨by simp [hn]; omega, rfl, fun t v ht => ?_⟩
    obtain ⟨_, h2⟩ := lookup_entry vs 0 t v ht
    simp only [Nat.sub_zero] at h2
    have hlt : t < vs.length := by
      rcases Nat.lt_or_ge t vs.length with h' | h'
      · exact h'
      · simp [List.getElem?_eq_none h'] at h2
    show (vs.toArray ++ _)[t]? = some v
    rw [Array.getElem?_append_left (by simpa using hlt)]
    simpa using h2
  have hw := h _ hH
  refine calls_out (ro := none) (m := 0) (callsIn_of_wp_marks hf hb trivial (Go.wpIn_mono hw ?_))
  intro e a w hx
  cases e <;> first | exact hx | exact hx.elim
theorem leavesX {fn : Func} {tmps : Array Value} {Φ : Value → World → Prop} : ∀ {Ds : List Nat} {w : World}, Sep (Ds.map DF ++ l) w → (∀ w', Sep l w' → ∃ v, (results fn tmps).run P w' = .ok v w' ∧ Φ v w') →
    LeavesInM (FR none) 0 P fn tmps (fun e w' => ∃ v, e = .returned v ∧ Φ v w') (Ds.map mk) .returning w
  | [], w, hR, h => by
    obtain ⟨v, h1, h2⟩ := h w hR
    exact ⟨v, h1, v, rfl, h2⟩
  | D :: Ds, w, hR, h => by
    have hR' : Sep (DF D :: (Ds.map DF ++ l)) w := hR
    exact ⟨by simp, .inl ⟨D, _, rfl, run_takeDeferred hR'.read, leavesX (hR'.put (o' := .deferred none)).drop h⟩⟩
theorem xret1 {fn : Func} {r : ResultVar} {Φ : Value → World → Prop} {e : Exit} (Ds : List Nat) (hds : ds = Ds.map mk) (he : e = .ret ∨ e = .normal) (hf : fn.results = [r].toArray) (hS : Has n a S) (hR : Sep (Ds.map DF ++ l) w)
    (h : ∀ w, Sep l w → ∃ v, Res1 P S l r v ∧ Φ v w) : PostX P fn Φ e (wd ds a) w := by
  subst hds
  have hL : LeavesInM (FR none) 0 P fn a.tmps (fun e w' => ∃ v, e = .returned v ∧ Φ v w') (Ds.map mk) .returning w := by
    refine leavesX hR fun w' hw' => ?_
    obtain ⟨v, h1, hp⟩ := h w' hw'
    have := ResN.cons h1 ResN.nil n a w' hS hw'
    refine ⟨v, ?_, hp⟩
    rw [results_eq, hf]
    simp only [List.mapM_toArray, Sem.run_bind, Sem.run_map, this, Result.andThen_ok]
    simp
  rcases he with rfl | rfl <;> exact hL
theorem xretN {fn : Func} {rs : List ResultVar} {Φ : Value → World → Prop} {e : Exit} (Ds : List Nat) (hds : ds = Ds.map mk) (he : e = .ret ∨ e = .normal) (hf : fn.results = rs.toArray) (hS : Has n a S) (hR : Sep (Ds.map DF ++ l) w)
    (h : ∀ w, Sep l w → ∃ vs, ResN P S l rs vs ∧ Nat.beq vs.length 1 = false ∧ Φ (.tuple vs.toArray) w) : PostX P fn Φ e (wd ds a) w := by
  subst hds
  have hL : LeavesInM (FR none) 0 P fn a.tmps (fun e w' => ∃ v, e = .returned v ∧ Φ v w') (Ds.map mk) .returning w := by
    refine leavesX hR fun w' hw' => ?_
    obtain ⟨vs, h1, hn', hp⟩ := h w' hw'
    have hne : vs.length ≠ 1 := fun e => by simp [e] at hn'
    have := h1 n a w' hS hw'
    refine ⟨.tuple vs.toArray, ?_, hp⟩
    rw [results_eq, hf]
    simp only [List.mapM_toArray, Sem.run_bind, Sem.run_map, this, Result.andThen_ok]
    simp [hne]
  rcases he with rfl | rfl <;> exact hL

/-! ### the statement -/
/-- The record of a loop. -/
def LR (L D : Nat) (fn : FuncId) (tmps : Array Value) (ps : List Tmp) (as bd : Code) (st : LoopState) (pd : Option Code) : HP :=
  pt L (.loop { state := st, pending := pd, fn := fn, tmps := tmps, params := ps.toArray, assign := as, body := bd, defers := D })
theorem xrange {g : Operand} {ps : List Tmp} {as bd : Code} {gf : FuncId} {lb : List Value} (hS : Has n a S) (hR : Sep l w) (hg : ev S g = some (.func (.func gf) #[] lb.toArray)) (hcf : ∀ as w, (callFunc gf as).run P w = .ok (.enter gf as) w)
    (h : ∀ (D L : Nat) (fn : FuncId) (w1 : World), Sep (LR L D fn a.tmps ps as bd .ready none :: DF D :: l) w1 →
      CallR P gf (.func (.yield L) #[] #[] :: lb) w1 (fun v w2 => ∃ st pd l', st ≠ .busy ∧ Sep (LR L D fn a.tmps ps as bd st pd :: l') w2 ∧
        (match pd with
         | none => ∀ w3, Sep l' w3 → Q .normal (wd (mk D :: ds) a) w3
         | some c => ∀ w3, Sep l' w3 → c.wpIn (FR none) m P Q (wd (mk D :: ds) a) w3))) : (Code.rangeFunc g ps.toArray as bd).wpIn (FR none) m P Q (wd ds a) w := by
  refine wpIn_rangeFunc fun fn _ => ?_
  have hg' : (wd ds a).eval g = .func (.func gf) #[] lb.toArray := hS.ev hg
  have hSep : Sep (LR (w.heap.size + 1) w.heap.size fn a.tmps ps as bd .ready none :: DF w.heap.size :: l) ((w.alloc (.deferred (some []))).alloc (.loop { state := .ready, pending := none, fn := fn, tmps := a.tmps, params := ps.toArray, assign := as, body := bd, defers := w.heap.size })) := by
    have h1 := (hR.new (.deferred (some []))).new (.loop { state := .ready, pending := none, fn := fn, tmps := a.tmps, params := ps.toArray, assign := as, body := bd, defers := w.heap.size })
    rw [World.size_alloc] at h1
    exact h1
  obtain ⟨W1, hW1⟩ : ∃ W1, (w.alloc (.deferred (some []))).alloc (.loop { state := .ready, pending := none, fn := fn, tmps := a.tmps, params := ps.toArray, assign := as, body := bd, defers := w.heap.size }) = W1 := ⟨_, rfl⟩
  rw [hW1] at hSep
  refine ⟨w.heap.size + 1, [mk w.heap.size], W1, { target := .fn (.func gf) lb.toArray, args := #[.func (.yield (w.heap.size + 1)) #[] #[]] }, W1, gf, #[.func (.yield (w.heap.size + 1)) #[] #[]] ++ lb.toArray, W1, ?_, ?_, fun _ _ => trivial, ?_, fun hc => by simp [Fence.wide] at hc, ?_⟩
  · rw [← hW1]; exact run_enterLoop_outer _ _ _ _ _
  · simp only [resolve, hg']
    simp [go_sem]
  · simp [invoke, go_sem, hcf]
  · have hc := h w.heap.size (w.heap.size + 1) fn _ hSep
    refine calls_in ?_
    have e : #[.func (.yield (w.heap.size + 1)) #[] #[]] ++ lb.toArray = (.func (.yield (w.heap.size + 1)) #[] #[] :: lb).toArray := by simp
    rw [e]
    refine Calls.mono hc fun x w2 hx => ?_
    obtain ⟨v, rfl, st, pd, l', hb, hR2, hq⟩ := hx
    refine ⟨pd, _, run_endLoop hR2.read hb, ?_⟩
    have hR3 := (hR2.put (o' := .loop { state := .exhausted, pending := pd, fn := fn, tmps := a.tmps, params := ps.toArray, assign := as, body := bd, defers := w.heap.size })).drop
    cases pd with
    | none => exact hq _ hR3
    | some c => exact hq _ hR3

/-! ### a round -/
def YieldR (P : Program) (L : Nat) (vs : List Value) (w : World) (Φ : Bool → World → Prop) : Prop :=
  ∃ fn tmps as bd, (Instr.yield L vs.toArray).run P w = .ok (.round L fn tmps as bd) w ∧ RoundIn (FR none) 0 P L fn tmps as bd w (fun e w' => ∃ b, e = .returned (.bool b) ∧ Φ b w')
theorem YieldR.mono {L : Nat} {vs : List Value} {Φ Φ' : Bool → World → Prop} (h : YieldR P L vs w Φ) (hm : ∀ b w', Φ b w' → Φ' b w') : YieldR P L vs w Φ' := by
  obtain ⟨fn, tmps, as, bd, h1, h2⟩ := h
  exact ⟨fn, tmps, as, bd, h1, h2.mono fun e w' ⟨b, he, hp⟩ => ⟨b, he, hm b w' hp⟩⟩
def rslots : List (Tmp × Value) → Slots → Slots
  | [], S => S
  | (p, v) :: r, S => rslots r ((p, v) :: S)
theorem has_round : ∀ {pv : List (Tmp × Value)} {a : Act} {S : Slots}, Has n a S → (∀ x ∈ pv, x.1 < n) → Has n { tmps := pv.foldl (fun t x => t.setIfInBounds x.1 x.2) a.tmps, defers := [] } (rslots pv S)
  | [], a, S, h, _ => ⟨h.size, rfl, h.at'⟩
  | (p, v) :: r, a, S, h, hp => has_round (pv := r) (a := a.put (some p) v) (S := (p, v) :: S) (h.put p v (hp _ List.mem_cons_self)) fun x hx => hp x (List.mem_cons_of_mem _ hx)
/-- What is asked of the end of a round's body. -/
def RP (P : Program) (L D : Nat) (fn : FuncId) (tmps : Array Value) (ps : List Tmp) (as bd : Code) (Φ : Bool → World → Prop) : Exit → Act → World → Prop
  | .normal, _, w => ∃ l, Sep (LR L D fn tmps ps as bd .busy none :: l) w ∧ ∀ w', Sep (LR L D fn tmps ps as bd .ready none :: l) w' → Φ true w'
  | .ret, _, w => ∃ l, Sep (LR L D fn tmps ps as bd .busy none :: l) w ∧ ∀ w', Sep (LR L D fn tmps ps as bd .done (some .ret) :: l) w' → Φ false w'
  | .exit id, _, w => ∃ l, Sep (LR L D fn tmps ps as bd .busy none :: l) w ∧ ∀ w', Sep (LR L D fn tmps ps as bd .done (some (.exit id)) :: l) w' → Φ false w'
  | _, _, _ => False
theorem xround {L D : Nat} {fn : FuncId} {ps : List Tmp} {as bd : Code} {vs : List Value} {Φ : Bool → World → Prop} (hS : Has n a S) (hR : Sep (LR L D fn a.tmps ps as bd .ready none :: l) w) (hlen : vs.length = ps.length) (hps : ps.all (fun p => Nat.blt p n) = true)
    (h : ∀ a', Has n a' (rslots (ps.zip vs) S) → as.wpIn (FR (some L)) 0 P (Exit.then (fun a1 w1 => ∃ a2 l1, a1 = wd [] a2 ∧ Sep (LR L D fn a.tmps ps as bd .ready none :: l1) w1 ∧
      ∀ w2, Sep (LR L D fn a.tmps ps as bd .busy none :: l1) w2 → bd.wpIn (FR (some L)) 0 P (RP P L D fn a.tmps ps as bd Φ) (wd [] a2) w2) (fun _ _ _ => False)) (wd [] a') w) : YieldR P L vs w Φ := by
  have hy := run_yield (P := P) (args := vs.toArray) hR.read (by simpa using hlen)
  refine ⟨_, _, _, _, hy, roundIn_of_wpIn (F := FR none) trivial ?_⟩
  have e : ((ps.toArray.zip vs.toArray).foldl (fun tmps (x : Tmp × Value) => tmps.setIfInBounds x.1 x.2) a.tmps) = (ps.zip vs).foldl (fun t x => t.setIfInBounds x.1 x.2) a.tmps := by simp
  have hH := has_round (pv := ps.zip vs) hS fun x hx => by
    have := List.all_eq_true.1 hps x.1 (List.of_mem_zip hx).1
    simpa using this
  have h1 := h _ hH
  dsimp only
  rw [e]
  refine Go.wpIn_mono h1 ?_
  intro x a1 w1 hx
  cases x with
  | normal =>
    obtain ⟨a2, l1, rfl, hR1, hb⟩ := hx
    refine ⟨_, run_beginRound hR1.read rfl, Go.wpIn_mono (hb _ hR1.put) ?_⟩
    intro x3 a3 w3 hx3
    cases x3 with
    | normal =>
      obtain ⟨l3, hR3, hk⟩ := hx3
      exact ⟨_, _, run_endRound none hR3.read, true, rfl, hk _ hR3.put⟩
    | ret =>
      obtain ⟨l3, hR3, hk⟩ := hx3
      exact ⟨_, _, run_endRound (some .ret) hR3.read, false, rfl, hk _ hR3.put⟩
    | exit id =>
      obtain ⟨l3, hR3, hk⟩ := hx3
      exact ⟨_, _, run_endRound (some (.exit id)) hR3.read, false, rfl, hk _ hR3.put⟩
    | goto l => exact hx3.elim
    | panic c => exact hx3.elim
    | outgrown => exact hx3.elim
  | exit id => exact hx.elim
  | goto l => exact hx.elim
  | ret => exact hx.elim
  | panic c => exact hx.elim
  | outgrown => exact hx.elim

/-! ### a call of yield -/
theorem xY {L : Nat} {x : Operand} {xs : List Operand} {vs : List Value} {ts : Array TypeId} {Φ : Bool → World → Prop} (hS : Has n a S) (hx : ev S x = some (.func (.yield L) #[] #[])) (hxs : evs S xs = some vs) (hY : YieldR P L vs w Φ) (hd : d < n)
    (k : ∀ a' w' b, Has n a' ((d, .bool b) :: S) → Φ b w' → wpListIn (FR none) m P ops Q rest (wd ds a') w') :
    wpListIn (FR none) m P ops Q (⟨some d, .call { callee := .value x, args := xs.toArray, argTypes := ts }, t, pos, af, none⟩ :: rest) (wd ds a) w := by
  obtain ⟨fn, tmps, as, bd, h1, h2⟩ := hY
  have hr : (execOp a.eval ⟨some d, .call { callee := .value x, args := xs.toArray, argTypes := ts }, t, pos, af, none⟩).run P w = .ok (.round L fn tmps as bd) w := by
    simp only [execOp, resolve, List.map_toArray, hS.evs hxs, hS.ev hx, Deferred.ofValue, Sem.run_bind, Sem.run_pure, Result.andThen_ok, invoke]
    simpa using h1
  unfold wpListIn
  simp only [Region.wanted, if_true]
  refine ⟨fun _ _ => trivial, ?_⟩
  rw [sem_at rfl]
  have he : (wd ds a).eval = a.eval := rfl
  rw [he, hr, Oper.uponIn_round]
  refine ⟨fun hc => by simp [Fence.wide] at hc, ?_⟩
  have h3 : RoundIn (FR none) (m - 1) P L fn tmps as bd w (fun e w' => ∃ b, e = .returned (.bool b) ∧ Φ b w') := ⟨h2.1, fun c cs _ => h2.2 c cs (fun d hd => by simp [Fence.wide] at hd)⟩
  refine h3.mono fun e w' hx => ?_
  obtain ⟨b, rfl, hp⟩ := hx
  have := k _ w' b (hS.put d (.bool b) hd) hp
  rw [← put_wd] at this
  exact this
/-! ### the same, with the loop's record as a name -/
/-- lr is the record of a loop with some body, entered where the slots held what is listed. -/
def RoundOf (lr : LoopState → Option Code → HP) (L n : Nat) (S : Slots) (ps : List Tmp) (as bd : Code) : Prop := ∃ D fn a, (lr = fun st pd => LR L D fn a.tmps ps as bd st pd) ∧ Has n a S
theorem yrange {g : Operand} {ps : List Tmp} {as bd : Code} {gf : FuncId} {lb : List Value} (hS : Has n a S) (hR : Sep l w) (hg : ev S g = some (.func (.func gf) #[] lb.toArray)) (hcf : ∀ as w, (callFunc gf as).run P w = .ok (.enter gf as) w)
    (h : ∀ (D L : Nat) (lr : LoopState → Option Code → HP) (w1 : World), RoundOf lr L n S ps as bd → Sep (lr .ready none :: DF D :: l) w1 →
      CallR P gf (.func (.yield L) #[] #[] :: lb) w1 (fun v w2 => ∃ st pd l', st ≠ .busy ∧ Sep (lr st pd :: l') w2 ∧
        (match pd with
         | none => ∀ w3, Sep l' w3 → Q .normal (wd (mk D :: ds) a) w3
         | some c => ∀ w3, Sep l' w3 → c.wpIn (FR none) m P Q (wd (mk D :: ds) a) w3))) : (Code.rangeFunc g ps.toArray as bd).wpIn (FR none) m P Q (wd ds a) w :=
  xrange hS hR hg hcf fun D L fn w1 hR1 => h D L _ w1 ⟨D, fn, a, rfl, hS⟩ hR1
/-- What is asked of the end of a round's body. -/
def RPy (lr : LoopState → Option Code → HP) (Φ : Bool → World → Prop) : Exit → Act → World → Prop
  | .normal, _, w => ∃ l, Sep (lr .busy none :: l) w ∧ ∀ w', Sep (lr .ready none :: l) w' → Φ true w'
  | .ret, _, w => ∃ l, Sep (lr .busy none :: l) w ∧ ∀ w', Sep (lr .done (some .ret) :: l) w' → Φ false w'
  | .exit id, _, w => ∃ l, Sep (lr .busy none :: l) w ∧ ∀ w', Sep (lr .done (some (.exit id)) :: l) w' → Φ false w'
  | _, _, _ => False
theorem yround {L : Nat} {lr : LoopState → Option Code → HP} {ps : List Tmp} {as bd : Code} {vs : List Value} {Φ : Bool → World → Prop} (hlr : RoundOf lr L n S ps as bd) (hR : Sep (lr .ready none :: l) w) (hlen : vs.length = ps.length) (hps : ps.all (fun p => Nat.blt p n) = true)
    (h : ∀ a', Has n a' (rslots (ps.zip vs) S) → as.wpIn (FR (some L)) 0 P (Exit.then (fun a1 w1 => ∃ a2 l1, a1 = wd [] a2 ∧ Sep (lr .ready none :: l1) w1 ∧
      ∀ w2, Sep (lr .busy none :: l1) w2 → bd.wpIn (FR (some L)) 0 P (RPy lr Φ) (wd [] a2) w2) (fun _ _ _ => False)) (wd [] a') w) : YieldR P L vs w Φ := by
  obtain ⟨D, fn, a0, rfl, hS0⟩ := hlr
  refine xround (D := D) (fn := fn) hS0 hR hlen hps fun a' hS' => Go.wpIn_mono (h a' hS') ?_
  intro e a1 w1 hx
  cases e with
  | normal =>
    obtain ⟨a2, l1, h1, h2, h3⟩ := hx
    refine ⟨a2, l1, h1, h2, fun w2 hw2 => Go.wpIn_mono (h3 w2 hw2) ?_⟩
    intro e3 a3 w3 hx3
    cases e3 <;> exact hx3
  | exit id => exact hx.elim
  | goto l => exact hx.elim
  | ret => exact hx.elim
  | panic c => exact hx.elim
  | outgrown => exact hx.elim
/-- One of two. -/
def orH (A B : HP) : HP := fun σ h => A σ h ∨ B σ h
theorem Sep.orE {A B : HP} (h : Sep (orH A B :: l) w) : Sep (A :: l) w ∨ Sep (B :: l) w := by
  obtain ⟨g, hs, x, y, d, rfl, p | p, s⟩ := h
  · exact .inl ⟨_, hs, x, y, d, rfl, p, s⟩
  · exact .inr ⟨_, hs, x, y, d, rfl, p, s⟩
theorem Sep.orL {A B : HP} (h : Sep (A :: l) w) : Sep (orH A B :: l) w := h.conv fun _ _ p => .inl p
theorem Sep.orR {A B : HP} (h : Sep (B :: l) w) : Sep (orH A B :: l) w := h.conv fun _ _ p => .inr p
end
end Go.Proofs.Ytmcfmhiadlkglaa.Sx
