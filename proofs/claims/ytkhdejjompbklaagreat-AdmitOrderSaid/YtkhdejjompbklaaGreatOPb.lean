/-
  My plain texts put together into one module.
-/
import Derived.Test.YtkhdejjompbklaaGreatOPa
import Derived.RangeFuncLeaves
import Derived.RangeFuncFrom
import Derived.OrdersIn
import Derived.Scope
namespace Go.Proofs.YtkhdejjompbklaaGreat.Sx
open Go
set_option linter.unusedVariables false
abbrev FR (ro : Option Nat) : Fence := { Fence.wide with round := ro }
def wd (ds : List Deferred) (a : Act) : Act := { a with defers := ds }
def nd : Op → Bool
  | .defer _ => false
  | _ => true
theorem sem_at {ro : Option Nat} {ρ : Operand → Value} {o : Oper} (h : nd o.op = true) : Oper.semAt ro ρ o = execOp ρ o :=
  Oper.semAt_eq ro ρ o fun c e => by rw [e] at h; cases h
theorem put_wd {ds : List Deferred} {a : Act} {d : Option Nat} {v : Value} : (wd ds a).put d v = wd ds (a.put d v) := by
  cases d <;> rfl
theorem calls_in {ro : Option Nat} {m : Nat} {P : Program} {f : FuncId} {args : Array Value} {w : World} {R : Ending → World → Prop} (h : Calls P f args w R) : CallsIn (FR ro) m P f args w R := by
  have h2 := (callsIn_wide (n := m)).2 h
  exact h2
theorem calls_out {ro : Option Nat} {m : Nat} {P : Program} {f : FuncId} {args : Array Value} {w : World} {R : Ending → World → Prop} (h : CallsIn (FR ro) m P f args w R) : Calls P f args w R := by
  have h2 : CallsIn Fence.wide m P f args w R := h
  exact callsIn_wide.1 h2
section
variable {P : Program} {ops : Array Oper} {ro : Option Nat} {m n : Nat} {a : Act} {S : Slots} {l : List HP} {w : World} {rest : List Oper} {ds : List Deferred}
  {d : Nat} {op : Op} {t : TypeId} {pos : String} {af : Array Edge} {o : Oper} {Q : Exit → Act → World → Prop} {K : Act → World → Prop}
def Kd (ds : List Deferred) (K : Act → World → Prop) : Act → World → Prop := fun a w => a.defers = [] ∧ K (wd ds a) w
def Qd (ds : List Deferred) (Q : Exit → Act → World → Prop) : Exit → Act → World → Prop := fun e a w => e ≠ .outgrown ∧ a.defers = [] ∧ Q e (wd ds a) w
theorem oper_in (hn : nd o.op = true) (ha : a.defers = []) (h : Oper.wp P o a w (Kd ds K) (Qd ds Q)) : Oper.wpIn (FR ro) m P o (wd ds a) w K Q := by
  refine ⟨fun _ _ => trivial, ?_⟩
  rw [sem_at hn]
  have he : (wd ds a).eval = a.eval := rfl
  rw [he]
  unfold Oper.wp at h
  generalize (execOp a.eval o).run P w = r at h ⊢
  cases r with
  | halt k w' =>
    cases k <;> first | exact h.elim | skip
    exact h.2.2
  | ok x w' =>
    cases x with
    | value v => rw [Oper.uponIn_value, put_wd]; exact h.2
    | skip => rw [Oper.uponIn_skip, put_wd]; exact h.2
    | defer e =>
      have h1 : ({ a with defers := e :: a.defers }.put o.dst undef).defers = [] := h.1
      cases hd : o.dst <;> simp [Act.put, hd] at h1
    | enter f args =>
      rw [Oper.uponIn_enter]
      refine ⟨fun hc => by simp [Fence.wide] at hc, calls_in (Calls.mono h ?_)⟩
      intro e w2 hx
      cases e with
      | returned v => show K ((wd ds a).put o.dst v) w2; rw [put_wd]; exact hx.2
      | panicked c => exact hx.2.2
      | outgrown =>
        obtain ⟨x1, x2, x3⟩ := hx
        exact absurd rfl x3.1
    | row r args =>
      rw [Oper.uponIn_row]
      refine ⟨fun hc => by simp [Fence.wide] at hc, ?_⟩
      have h2 : Rows P r args w' fun v w'' => Kd ds K (a.put o.dst v) w'' := h
      intro c cs _
      obtain ⟨v, w2, r2, s2⟩ := h2 c cs
      exact ⟨v, w2, by show K ((wd ds a).put o.dst v) w2; rw [put_wd]; exact r2.2, stepsIn_wide.2 s2⟩
    | _ => exact h.elim
theorem xval {v : Value} {w' : World} (hn : nd o.op = true) (hy : (execOp a.eval o).run P w = .ok (.value v) w') (k : K (wd ds (a.put o.dst v)) w') : Oper.wpIn (FR ro) m P o (wd ds a) w K Q := by
  refine ⟨fun _ _ => trivial, ?_⟩
  rw [sem_at hn]
  have he : (wd ds a).eval = a.eval := rfl
  rw [he, hy, Oper.uponIn_value, put_wd]
  exact k
theorem xA {v : Value} (hS : Has n a S) (hR : Sep l w) (hy : Yld P a l ⟨some d, op, t, pos, af, none⟩ v) (hd : d < n)
    (k : ∀ a', Has n a' ((d, v) :: S) → wpListIn (FR ro) m P ops Q rest (wd ds a') w) (hn : nd op = true := by rfl) : wpListIn (FR ro) m P ops Q (⟨some d, op, t, pos, af, none⟩ :: rest) (wd ds a) w := by
  unfold wpListIn
  simp only [Region.wanted, if_true]
  exact xval hn (hy w hR) (k _ (hS.put d v hd))
theorem xB {dd : Option Nat} (hS : Has n a S) (h : Oper.wp P ⟨dd, op, t, pos, af, none⟩ a w (Kd ds (wpListIn (FR ro) m P ops Q rest)) (Qd ds Q)) (hn : nd op = true := by rfl) : wpListIn (FR ro) m P ops Q (⟨dd, op, t, pos, af, none⟩ :: rest) (wd ds a) w := by
  unfold wpListIn
  simp only [Region.wanted, if_true]
  exact oper_in hn hS.defers h
theorem xcondT {x : Operand} {c1 c2 : Code} (hS : Has n a S) (hx : ev S x = some (.bool true)) (h : c1.wpIn (FR ro) m P Q (wd ds a) w) : (Code.cond x c1 c2).wpIn (FR ro) m P Q (wd ds a) w := Go.wpIn_cond_true (hS.ev hx) h
theorem xcondF {x : Operand} {c1 c2 : Code} (hS : Has n a S) (hx : ev S x = some (.bool false)) (h : c2.wpIn (FR ro) m P Q (wd ds a) w) : (Code.cond x c1 c2).wpIn (FR ro) m P Q (wd ds a) w := Go.wpIn_cond_false (hS.ev hx) h
def HasW (n : Nat) (ds : List Deferred) (a : Act) (S : Slots) : Prop := ∃ a', a = wd ds a' ∧ Has n a' S
theorem hasW (h : Has n a S) : HasW n ds (wd ds a) S := ⟨a, rfl, h⟩
theorem xloopI {X : Type} (B : Slots) (V : X → Slots) (H : X → List HP) (r : List HP) (I : X → Prop) (μ : X → Nat) (x0 : X) {c : Code} (hI : I x0) (hS : Has n a (V x0 ++ B)) (hR : Sep (H x0 ++ r) w)
    (round : ∀ x a w, I x → Has n a (V x ++ B) → Sep (H x ++ r) w →
      c.wpIn (FR ro) m P (Exit.then (fun a' w' => ∃ x', I x' ∧ μ x' < μ x ∧ HasW n ds a' (V x' ++ B) ∧ Sep (H x' ++ r) w') Q) (wd ds a) w) : (Code.loop c).wpIn (FR ro) m P Q (wd ds a) w := by
  intro b k cs hro hb hr
  have key : ∀ j x a w, μ x = j → I x → Has n a (V x ++ B) → Sep (H x ++ r) w →
      ∃ e a' w', Q e a' w' ∧ ArrivesIn (Machine.fenced P (FR ro)) P (lone (b.atR (wd ds a) (.code c :: .inLoop c :: k)) cs w) b k cs e a' w' := by
    intro j
    induction j using Nat.strongRecOn with
    | _ j ih =>
      intro x a w hm hI hS hR
      obtain ⟨e, a₁, w₁, hq, harr⟩ := round x a w hI hS hR b (.inLoop c :: k) cs hro hb hr
      cases e with
      | normal =>
        obtain ⟨x', hI', hlt, ⟨a2, rfl, hS'⟩, hR'⟩ := hq
        obtain ⟨e₂, a₂, w₂, hq₂, harr₂⟩ := ih (μ x') (hm ▸ hlt) x' a2 w₁ rfl hI' hS' hR'
        exact ⟨e₂, a₂, w₂, hq₂, .of_steps (StepsIn.trans harr (.one (fenced_calm hb hr rfl) stepR_inLoop)) harr₂⟩
      | exit id => exact ⟨_, a₁, w₁, hq, .pass (x := .inLoop c) rfl (fun _ _ => .inl (by simp)) harr⟩
      | goto l => exact ⟨_, a₁, w₁, hq, .pass (x := .inLoop c) rfl (fun _ _ => .inl (by simp)) harr⟩
      | ret => exact ⟨_, a₁, w₁, hq, .pass (x := .inLoop c) rfl (fun _ _ => .inl (by simp)) harr⟩
      | panic ch => exact ⟨_, a₁, w₁, hq, .pass (x := .inLoop c) rfl (fun _ _ => .inl (by simp)) harr⟩
      | outgrown => exact ⟨_, a₁, w₁, hq, .pass (x := .inLoop c) rfl (fun _ _ => .inl (by simp)) harr⟩
  obtain ⟨e, a', w', hq, harr⟩ := key _ x0 a w rfl hI hS hR
  exact ⟨e, a', w', hq, .of_steps (.one (fenced_calm hb hr rfl) stepR_loop) harr⟩
theorem put_defers {d : Option Nat} {v : Value} : (a.put d v).defers = a.defers := by cases d <;> rfl
theorem upon_mono {K K' : Act → World → Prop} (hK : ∀ a w, K a w → K' a w) {r : Result Next} (h : o.upon P a K Q r) : o.upon P a K' Q r := by
  cases r with
  | halt k w' => cases k <;> exact h
  | ok x w' =>
    cases x with
    | value v => exact hK _ _ h
    | skip => exact hK _ _ h
    | defer e => exact hK _ _ h
    | enter f args =>
      refine Calls.mono h fun e w2 hx => ?_
      cases e with
      | returned v => exact hK _ _ hx
      | panicked c => exact hx
      | outgrown => exact hx
    | row r args => exact fun c cs => let ⟨v, w2, r2, s2⟩ := (show Rows P r args w' _ from h) c cs; ⟨v, w2, hK _ _ r2, s2⟩
    | _ => exact h.elim
theorem wpOps_defers {rest : List Nat} : ∀ {a : Act} {w : World}, wpOps P ops (Qd ds Q) rest a w → a.defers = [] := by
  induction rest with
  | nil => intro a w h; exact h.2.1
  | cons i rest ih =>
    intro a w h
    unfold wpOps at h
    cases ho : ops[i]? with
    | none => rw [ho] at h; exact ih h
    | some o =>
      rw [ho] at h
      dsimp only at h
      by_cases hw : Region.wanted o (yielded ops a.tmps) = true
      · rw [if_pos hw] at h
        rcases h with h | ⟨_, x1, x2, x3⟩
        · unfold Oper.wp at h
          generalize (execOp a.eval o).run P w = r at h
          cases r with
          | halt k w' =>
            cases k <;> first | exact h.elim | skip
            exact h.2.1
          | ok x w' =>
            cases x with
            | value v => have := ih (show wpOps P ops (Qd ds Q) rest _ w' from h); rwa [put_defers] at this
            | skip => have := ih (show wpOps P ops (Qd ds Q) rest _ w' from h); rwa [put_defers] at this
            | defer e =>
              have := ih (show wpOps P ops (Qd ds Q) rest _ w' from h)
              rw [put_defers] at this; cases this
            | enter f args =>
              obtain ⟨e, w2, fr, hx, _⟩ := (show Calls P f args w' _ from h) []
              cases e with
              | returned v => have := ih hx; rwa [put_defers] at this
              | panicked c => exact hx.2.1
              | outgrown =>
                obtain ⟨x1, x2, x3⟩ := hx
                exact absurd rfl x3.1
            | row r args =>
              obtain ⟨v, w2, hx, _⟩ := (show Rows P r args w' _ from h) default []
              have := ih hx; rwa [put_defers] at this
            | _ => exact h.elim
        · exact absurd rfl x3.1
      · rw [if_neg hw] at h
        have := ih h; rwa [put_defers] at this
theorem wpOps_in {rest : List Nat} : ∀ {a : Act} {w : World}, (∀ o ∈ ops.toList, nd o.op = true) → a.defers = [] → wpOps P ops (Qd ds Q) rest a w → wpOpsIn (FR ro) m P ops Q rest (wd ds a) w := by
  induction rest with
  | nil => intro a w _ _ h; exact h.2.2
  | cons i rest ih =>
    intro a w hn ha h
    unfold wpOps at h
    unfold wpOpsIn
    cases ho : ops[i]? with
    | none => rw [ho] at h; exact ih hn ha h
    | some o =>
      rw [ho] at h
      have hno : nd o.op = true := hn o (by rw [Array.mem_toList_iff]; exact Array.mem_of_getElem? ho)
      dsimp only at h ⊢
      by_cases hw : Region.wanted o (yielded ops a.tmps) = true
      · rw [if_pos hw] at h
        rw [if_pos (show Region.wanted o (yielded ops (wd ds a).tmps) = true from hw)]
        rcases h with h | ⟨_, x1, x2, x3⟩
        · exact oper_in (K := wpOpsIn (FR ro) m P ops Q rest) hno ha (upon_mono (fun a' w' hx => ⟨wpOps_defers hx, ih hn (wpOps_defers hx) hx⟩) h)
        · exact absurd rfl x3.1
      · rw [if_neg hw] at h
        rw [if_neg (show ¬ Region.wanted o (yielded ops (wd ds a).tmps) = true from hw), put_wd]
        exact ⟨fun _ _ => trivial, ih hn (by rw [put_defers]; exact ha) h⟩
end
end Go.Proofs.YtkhdejjompbklaaGreat.Sx
namespace Go.Proofs.YtkhdejjompbklaaGreat.Sx
open Go
set_option linter.unusedVariables false
section
variable {P : Program} {ops : Array Oper} {ro : Option Nat} {m n : Nat} {a : Act} {S : Slots} {l : List HP} {w : World} {rest : List Oper} {ds : List Deferred}
  {d : Nat} {op : Op} {t : TypeId} {pos : String} {af : Array Edge} {o : Oper} {Q : Exit → Act → World → Prop} {K : Act → World → Prop}
theorem xdrawn {id : Nat} {l0 : List HP} (hm : P.follows .mixedOrders = true) (hn : ops.toList.all (fun o => nd o.op) = true) (hS : Has n a S) (hR : Sep l w) (ex : Ex l l0)
    (h : ∀ w, Sep l w → Sep l0 w → wpAnyH P .any ops (Qd ds Q) (Sep l0) ops.size (Array.replicate ops.size false) a w) : (Code.region id ops true).wpIn (FR ro) m P Q (wd ds a) w :=
  wpIn_region_draw fun t => by
    simp only [Region.schedule, hm, Bool.true_or, if_true]
    exact wpOps_in (fun o ho => List.all_eq_true.1 hn o ho) hS.defers (wpAny_sound ops.size t _ a _ (wpAny_of_held _ _ _ _ (h _ hR.drewN (hR.drewN.sub ex))))
def DF (D : Nat) : HP := pt D (.deferred (some []))
def mk (D : Nat) : Deferred := { target := .collected D, args := #[] }
theorem Sep.put {b : Nat} {o o' : Obj} (h : Sep (pt b o :: l) w) : Sep (pt b o' :: l) (w.putObj b o') :=
  h.upd (World.putObj_heap_same h.lt) (fun c hc => World.putObj_heap_other hc) rfl rfl
def PostX (P : Program) (fn : Func) (Φ : Value → World → Prop) : Exit → Act → World → Prop
  | .normal, a, w | .ret, a, w => LeavesInM (FR none) 0 P fn a.tmps (fun e w' => ∃ v, e = .returned v ∧ Φ v w') a.defers .returning w
  | _, _, _ => False
theorem enterX {f : FuncId} {fn : Func} {c : Code} {vs : List Value} {m : Nat} {Φ : Value → World → Prop} (hf : P.funcs[f]? = some fn) (hb : fn.body = some c) (hn : fn.ntmps = m) (hl : vs.length ≤ m)
    (h : ∀ a, Has m a (entry 0 vs) → c.wpIn (FR none) 0 P (PostX P fn Φ) (wd [] a) w) : CallR P f vs w Φ := by
  have hH : Has m { tmps := vs.toArray ++ Array.replicate (fn.ntmps - vs.toArray.size) undef, defers := [] } (entry 0 vs) := by
    refine ⟨by simp [hn]; omega, rfl, fun t v ht => ?_⟩
    obtain ⟨_, h2⟩ := lookup_entry vs 0 t v ht
    simp only [Nat.sub_zero] at h2
    have hlt : t < vs.length := by
      rcases Nat.lt_or_ge t vs.length with h' | h'
      · exact h'
      · simp [List.getElem?_eq_none h'] at h2
    show (vs.toArray ++ _)[t]? = some v
    rw [Array.getElem?_append_left (by simpa using hlt)]
    simpa using h2
  have hw := h _ hH
  refine calls_out (ro := none) (m := 0) (callsIn_of_wp_marks hf hb trivial (Go.wpIn_mono hw ?_))
  intro e a w hx
  cases e <;> first | exact hx | exact hx.elim
theorem leavesX {fn : Func} {tmps : Array Value} {Φ : Value → World → Prop} : ∀ {Ds : List Nat} {w : World}, Sep (Ds.map DF ++ l) w → (∀ w', Sep l w' → ∃ v, (results fn tmps).run P w' = .ok v w' ∧ Φ v w') →
    LeavesInM (FR none) 0 P fn tmps (fun e w' => ∃ v, e = .returned v ∧ Φ v w') (Ds.map mk) .returning w
  | [], w, hR, h => by
    obtain ⟨v, h1, h2⟩ := h w hR
    exact ⟨v, h1, v, rfl, h2⟩
  | D :: Ds, w, hR, h => by
    have hR' : Sep (DF D :: (Ds.map DF ++ l)) w := hR
    exact ⟨by simp, .inl ⟨D, _, rfl, run_takeDeferred hR'.read, leavesX (hR'.put (o' := .deferred none)).drop h⟩⟩
theorem xret1 {fn : Func} {r : ResultVar} {Φ : Value → World → Prop} {e : Exit} (Ds : List Nat) (hds : ds = Ds.map mk) (he : e = .ret ∨ e = .normal) (hf : fn.results = [r].toArray) (hS : Has n a S) (hR : Sep (Ds.map DF ++ l) w)
    (h : ∀ w, Sep l w → ∃ v, Res1 P S l r v ∧ Φ v w) : PostX P fn Φ e (wd ds a) w := by
  subst hds
  have hL : LeavesInM (FR none) 0 P fn a.tmps (fun e w' => ∃ v, e = .returned v ∧ Φ v w') (Ds.map mk) .returning w := by
    refine leavesX hR fun w' hw' => ?_
    obtain ⟨v, h1, hp⟩ := h w' hw'
    have := ResN.cons h1 ResN.nil n a w' hS hw'
    refine ⟨v, ?_, hp⟩
    rw [results_eq, hf]
    simp only [List.mapM_toArray, Sem.run_bind, Sem.run_map, this, Result.andThen_ok]
    simp
  rcases he with rfl | rfl <;> exact hL
theorem xretN {fn : Func} {rs : List ResultVar} {Φ : Value → World → Prop} {e : Exit} (Ds : List Nat) (hds : ds = Ds.map mk) (he : e = .ret ∨ e = .normal) (hf : fn.results = rs.toArray) (hS : Has n a S) (hR : Sep (Ds.map DF ++ l) w)
    (h : ∀ w, Sep l w → ∃ vs, ResN P S l rs vs ∧ Nat.beq vs.length 1 = false ∧ Φ (.tuple vs.toArray) w) : PostX P fn Φ e (wd ds a) w := by
  subst hds
  have hL : LeavesInM (FR none) 0 P fn a.tmps (fun e w' => ∃ v, e = .returned v ∧ Φ v w') (Ds.map mk) .returning w := by
    refine leavesX hR fun w' hw' => ?_
    obtain ⟨vs, h1, hn', hp⟩ := h w' hw'
    have hne : vs.length ≠ 1 := fun e => by simp [e] at hn'
    have := h1 n a w' hS hw'
    refine ⟨.tuple vs.toArray, ?_, hp⟩
    rw [results_eq, hf]
    simp only [List.mapM_toArray, Sem.run_bind, Sem.run_map, this, Result.andThen_ok]
    simp [hne]
  rcases he with rfl | rfl <;> exact hL
def LR (L D : Nat) (fn : FuncId) (tmps : Array Value) (ps : List Tmp) (as bd : Code) (st : LoopState) (pd : Option Code) : HP :=
  pt L (.loop { state := st, pending := pd, fn := fn, tmps := tmps, params := ps.toArray, assign := as, body := bd, defers := D })
theorem xrange {g : Operand} {ps : List Tmp} {as bd : Code} {gf : FuncId} {lb : List Value} (hS : Has n a S) (hR : Sep l w) (hg : ev S g = some (.func (.func gf) #[] lb.toArray)) (hcf : ∀ as w, (callFunc gf as).run P w = .ok (.enter gf as) w)
    (h : ∀ (D L : Nat) (fn : FuncId) (w1 : World), Sep (LR L D fn a.tmps ps as bd .ready none :: DF D :: l) w1 →
      CallR P gf (.func (.yield L) #[] #[] :: lb) w1 (fun v w2 => ∃ st pd l', st ≠ .busy ∧ Sep (LR L D fn a.tmps ps as bd st pd :: l') w2 ∧
        (match pd with
         | none => ∀ w3, Sep l' w3 → Q .normal (wd (mk D :: ds) a) w3
         | some c => ∀ w3, Sep l' w3 → c.wpIn (FR none) m P Q (wd (mk D :: ds) a) w3))) : (Code.rangeFunc g ps.toArray as bd).wpIn (FR none) m P Q (wd ds a) w := by
  refine wpIn_rangeFunc fun fn _ => ?_
  have hg' : (wd ds a).eval g = .func (.func gf) #[] lb.toArray := hS.ev hg
  have hSep : Sep (LR (w.heap.size + 1) w.heap.size fn a.tmps ps as bd .ready none :: DF w.heap.size :: l) ((w.alloc (.deferred (some []))).alloc (.loop { state := .ready, pending := none, fn := fn, tmps := a.tmps, params := ps.toArray, assign := as, body := bd, defers := w.heap.size })) := by
    have h1 := (hR.new (.deferred (some []))).new (.loop { state := .ready, pending := none, fn := fn, tmps := a.tmps, params := ps.toArray, assign := as, body := bd, defers := w.heap.size })
    rw [World.size_alloc] at h1
    exact h1
  obtain ⟨W1, hW1⟩ : ∃ W1, (w.alloc (.deferred (some []))).alloc (.loop { state := .ready, pending := none, fn := fn, tmps := a.tmps, params := ps.toArray, assign := as, body := bd, defers := w.heap.size }) = W1 := ⟨_, rfl⟩
  rw [hW1] at hSep
  refine ⟨w.heap.size + 1, [mk w.heap.size], W1, { target := .fn (.func gf) lb.toArray, args := #[.func (.yield (w.heap.size + 1)) #[] #[]] }, W1, gf, #[.func (.yield (w.heap.size + 1)) #[] #[]] ++ lb.toArray, W1, ?_, ?_, fun _ _ => trivial, ?_, fun hc => by simp [Fence.wide] at hc, ?_⟩
  · rw [← hW1]; exact run_enterLoop_outer _ _ _ _ _
  · simp only [resolve, hg']
    simp [go_sem]
  · simp [invoke, go_sem, hcf]
  · have hc := h w.heap.size (w.heap.size + 1) fn _ hSep
    refine calls_in ?_
    have e : #[.func (.yield (w.heap.size + 1)) #[] #[]] ++ lb.toArray = (.func (.yield (w.heap.size + 1)) #[] #[] :: lb).toArray := by simp
    rw [e]
    refine Calls.mono hc fun x w2 hx => ?_
    obtain ⟨v, rfl, st, pd, l', hb, hR2, hq⟩ := hx
    refine ⟨pd, _, run_endLoop hR2.read hb, ?_⟩
    have hR3 := (hR2.put (o' := .loop { state := .exhausted, pending := pd, fn := fn, tmps := a.tmps, params := ps.toArray, assign := as, body := bd, defers := w.heap.size })).drop
    cases pd with
    | none => exact hq _ hR3
    | some c => exact hq _ hR3
def YieldR (P : Program) (L : Nat) (vs : List Value) (w : World) (Φ : Bool → World → Prop) : Prop :=
  ∃ fn tmps as bd, (Instr.yield L vs.toArray).run P w = .ok (.round L fn tmps as bd) w ∧ RoundIn (FR none) 0 P L fn tmps as bd w (fun e w' => ∃ b, e = .returned (.bool b) ∧ Φ b w')
theorem YieldR.mono {L : Nat} {vs : List Value} {Φ Φ' : Bool → World → Prop} (h : YieldR P L vs w Φ) (hm : ∀ b w', Φ b w' → Φ' b w') : YieldR P L vs w Φ' := by
  obtain ⟨fn, tmps, as, bd, h1, h2⟩ := h
  exact ⟨fn, tmps, as, bd, h1, h2.mono fun e w' ⟨b, he, hp⟩ => ⟨b, he, hm b w' hp⟩⟩
def rslots : List (Tmp × Value) → Slots → Slots
  | [], S => S
  | (p, v) :: r, S => rslots r ((p, v) :: S)
theorem has_round : ∀ {pv : List (Tmp × Value)} {a : Act} {S : Slots}, Has n a S → (∀ x ∈ pv, x.1 < n) → Has n { tmps := pv.foldl (fun t x => t.setIfInBounds x.1 x.2) a.tmps, defers := [] } (rslots pv S)
  | [], a, S, h, _ => ⟨h.size, rfl, h.at'⟩
  | (p, v) :: r, a, S, h, hp => has_round (pv := r) (a := a.put (some p) v) (S := (p, v) :: S) (h.put p v (hp _ List.mem_cons_self)) fun x hx => hp x (List.mem_cons_of_mem _ hx)
def RP (P : Program) (L D : Nat) (fn : FuncId) (tmps : Array Value) (ps : List Tmp) (as bd : Code) (Φ : Bool → World → Prop) : Exit → Act → World → Prop
  | .normal, _, w => ∃ l, Sep (LR L D fn tmps ps as bd .busy none :: l) w ∧ ∀ w', Sep (LR L D fn tmps ps as bd .ready none :: l) w' → Φ true w'
  | .ret, _, w => ∃ l, Sep (LR L D fn tmps ps as bd .busy none :: l) w ∧ ∀ w', Sep (LR L D fn tmps ps as bd .done (some .ret) :: l) w' → Φ false w'
  | .exit id, _, w => ∃ l, Sep (LR L D fn tmps ps as bd .busy none :: l) w ∧ ∀ w', Sep (LR L D fn tmps ps as bd .done (some (.exit id)) :: l) w' → Φ false w'
  | _, _, _ => False
theorem xround {L D : Nat} {fn : FuncId} {ps : List Tmp} {as bd : Code} {vs : List Value} {Φ : Bool → World → Prop} (hS : Has n a S) (hR : Sep (LR L D fn a.tmps ps as bd .ready none :: l) w) (hlen : vs.length = ps.length) (hps : ps.all (fun p => Nat.blt p n) = true)
    (h : ∀ a', Has n a' (rslots (ps.zip vs) S) → as.wpIn (FR (some L)) 0 P (Exit.then (fun a1 w1 => ∃ a2 l1, a1 = wd [] a2 ∧ Sep (LR L D fn a.tmps ps as bd .ready none :: l1) w1 ∧
      ∀ w2, Sep (LR L D fn a.tmps ps as bd .busy none :: l1) w2 → bd.wpIn (FR (some L)) 0 P (RP P L D fn a.tmps ps as bd Φ) (wd [] a2) w2) (fun _ _ _ => False)) (wd [] a') w) : YieldR P L vs w Φ := by
  have hy := run_yield (P := P) (args := vs.toArray) hR.read (by simpa using hlen)
  refine ⟨_, _, _, _, hy, roundIn_of_wpIn (F := FR none) trivial ?_⟩
  have e : ((ps.toArray.zip vs.toArray).foldl (fun tmps (x : Tmp × Value) => tmps.setIfInBounds x.1 x.2) a.tmps) = (ps.zip vs).foldl (fun t x => t.setIfInBounds x.1 x.2) a.tmps := by simp
  have hH := has_round (pv := ps.zip vs) hS fun x hx => by
    have := List.all_eq_true.1 hps x.1 (List.of_mem_zip hx).1
    simpa using this
  have h1 := h _ hH
  dsimp only
  rw [e]
  refine Go.wpIn_mono h1 ?_
  intro x a1 w1 hx
  cases x with
  | normal =>
    obtain ⟨a2, l1, rfl, hR1, hb⟩ := hx
    refine ⟨_, run_beginRound hR1.read rfl, Go.wpIn_mono (hb _ hR1.put) ?_⟩
    intro x3 a3 w3 hx3
    cases x3 with
    | normal =>
      obtain ⟨l3, hR3, hk⟩ := hx3
      exact ⟨_, _, run_endRound none hR3.read, true, rfl, hk _ hR3.put⟩
    | ret =>
      obtain ⟨l3, hR3, hk⟩ := hx3
      exact ⟨_, _, run_endRound (some .ret) hR3.read, false, rfl, hk _ hR3.put⟩
    | exit id =>
      obtain ⟨l3, hR3, hk⟩ := hx3
      exact ⟨_, _, run_endRound (some (.exit id)) hR3.read, false, rfl, hk _ hR3.put⟩
    | goto l => exact hx3.elim
    | panic c => exact hx3.elim
    | outgrown => exact hx3.elim
  | exit id => exact hx.elim
  | goto l => exact hx.elim
  | ret => exact hx.elim
  | panic c => exact hx.elim
  | outgrown => exact hx.elim
theorem xY {L : Nat} {x : Operand} {xs : List Operand} {vs : List Value} {ts : Array TypeId} {Φ : Bool → World → Prop} (hS : Has n a S) (hx : ev S x = some (.func (.yield L) #[] #[])) (hxs : evs S xs = some vs) (hY : YieldR P L vs w Φ) (hd : d < n)
    (k : ∀ a' w' b, Has n a' ((d, .bool b) :: S) → Φ b w' → wpListIn (FR none) m P ops Q rest (wd ds a') w') :
    wpListIn (FR none) m P ops Q (⟨some d, .call { callee := .value x, args := xs.toArray, argTypes := ts }, t, pos, af, none⟩ :: rest) (wd ds a) w := by
  obtain ⟨fn, tmps, as, bd, h1, h2⟩ := hY
  have hr : (execOp a.eval ⟨some d, .call { callee := .value x, args := xs.toArray, argTypes := ts }, t, pos, af, none⟩).run P w = .ok (.round L fn tmps as bd) w := by
    simp only [execOp, resolve, List.map_toArray, hS.evs hxs, hS.ev hx, Deferred.ofValue, Sem.run_bind, Sem.run_pure, Result.andThen_ok, invoke]
    simpa using h1
  unfold wpListIn
  simp only [Region.wanted, if_true]
  refine ⟨fun _ _ => trivial, ?_⟩
  rw [sem_at rfl]
  have he : (wd ds a).eval = a.eval := rfl
  rw [he, hr, Oper.uponIn_round]
  refine ⟨fun hc => by simp [Fence.wide] at hc, ?_⟩
  have h3 : RoundIn (FR none) (m - 1) P L fn tmps as bd w (fun e w' => ∃ b, e = .returned (.bool b) ∧ Φ b w') := ⟨h2.1, fun c cs _ => h2.2 c cs (fun d hd => by simp [Fence.wide] at hd)⟩
  refine h3.mono fun e w' hx => ?_
  obtain ⟨b, rfl, hp⟩ := hx
  have := k _ w' b (hS.put d (.bool b) hd) hp
  rw [← put_wd] at this
  exact this
def RoundOf (lr : LoopState → Option Code → HP) (L n : Nat) (S : Slots) (ps : List Tmp) (as bd : Code) : Prop := ∃ D fn a, (lr = fun st pd => LR L D fn a.tmps ps as bd st pd) ∧ Has n a S
theorem yrange {g : Operand} {ps : List Tmp} {as bd : Code} {gf : FuncId} {lb : List Value} (hS : Has n a S) (hR : Sep l w) (hg : ev S g = some (.func (.func gf) #[] lb.toArray)) (hcf : ∀ as w, (callFunc gf as).run P w = .ok (.enter gf as) w)
    (h : ∀ (D L : Nat) (lr : LoopState → Option Code → HP) (w1 : World), RoundOf lr L n S ps as bd → Sep (lr .ready none :: DF D :: l) w1 →
      CallR P gf (.func (.yield L) #[] #[] :: lb) w1 (fun v w2 => ∃ st pd l', st ≠ .busy ∧ Sep (lr st pd :: l') w2 ∧
        (match pd with
         | none => ∀ w3, Sep l' w3 → Q .normal (wd (mk D :: ds) a) w3
         | some c => ∀ w3, Sep l' w3 → c.wpIn (FR none) m P Q (wd (mk D :: ds) a) w3))) : (Code.rangeFunc g ps.toArray as bd).wpIn (FR none) m P Q (wd ds a) w :=
  xrange hS hR hg hcf fun D L fn w1 hR1 => h D L _ w1 ⟨D, fn, a, rfl, hS⟩ hR1
def RPy (lr : LoopState → Option Code → HP) (Φ : Bool → World → Prop) : Exit → Act → World → Prop
  | .normal, _, w => ∃ l, Sep (lr .busy none :: l) w ∧ ∀ w', Sep (lr .ready none :: l) w' → Φ true w'
  | .ret, _, w => ∃ l, Sep (lr .busy none :: l) w ∧ ∀ w', Sep (lr .done (some .ret) :: l) w' → Φ false w'
  | .exit id, _, w => ∃ l, Sep (lr .busy none :: l) w ∧ ∀ w', Sep (lr .done (some (.exit id)) :: l) w' → Φ false w'
  | _, _, _ => False
theorem yround {L : Nat} {lr : LoopState → Option Code → HP} {ps : List Tmp} {as bd : Code} {vs : List Value} {Φ : Bool → World → Prop} (hlr : RoundOf lr L n S ps as bd) (hR : Sep (lr .ready none :: l) w) (hlen : vs.length = ps.length) (hps : ps.all (fun p => Nat.blt p n) = true)
    (h : ∀ a', Has n a' (rslots (ps.zip vs) S) → as.wpIn (FR (some L)) 0 P (Exit.then (fun a1 w1 => ∃ a2 l1, a1 = wd [] a2 ∧ Sep (lr .ready none :: l1) w1 ∧
      ∀ w2, Sep (lr .busy none :: l1) w2 → bd.wpIn (FR (some L)) 0 P (RPy lr Φ) (wd [] a2) w2) (fun _ _ _ => False)) (wd [] a') w) : YieldR P L vs w Φ := by
  obtain ⟨D, fn, a0, rfl, hS0⟩ := hlr
  refine xround (D := D) (fn := fn) hS0 hR hlen hps fun a' hS' => Go.wpIn_mono (h a' hS') ?_
  intro e a1 w1 hx
  cases e with
  | normal =>
    obtain ⟨a2, l1, h1, h2, h3⟩ := hx
    refine ⟨a2, l1, h1, h2, fun w2 hw2 => Go.wpIn_mono (h3 w2 hw2) ?_⟩
    intro e3 a3 w3 hx3
    cases e3 <;> exact hx3
  | exit id => exact hx.elim
  | goto l => exact hx.elim
  | ret => exact hx.elim
  | panic c => exact hx.elim
  | outgrown => exact hx.elim
def orH (A B : HP) : HP := fun σ h => A σ h ∨ B σ h
theorem Sep.orE {A B : HP} (h : Sep (orH A B :: l) w) : Sep (A :: l) w ∨ Sep (B :: l) w := by
  obtain ⟨g, hs, x, y, d, rfl, p | p, s⟩ := h
  · exact .inl ⟨_, hs, x, y, d, rfl, p, s⟩
  · exact .inr ⟨_, hs, x, y, d, rfl, p, s⟩
theorem Sep.orL {A B : HP} (h : Sep (A :: l) w) : Sep (orH A B :: l) w := h.conv fun _ _ p => .inl p
theorem Sep.orR {A B : HP} (h : Sep (B :: l) w) : Sep (orH A B :: l) w := h.conv fun _ _ p => .inr p
end
end Go.Proofs.YtkhdejjompbklaaGreat.Sx
namespace Go.Proofs.YtkhdejjompbklaaGreat.Sx
open Go
set_option linter.unusedVariables false
set_option linter.unusedSimpArgs false
end Go.Proofs.YtkhdejjompbklaaGreat.Sx
namespace Go.Proofs.YtkhdejjompbklaaGreat.Sx
open Go
set_option linter.unusedVariables false
theorem lay_left : ∀ (vs xs ys : List Value) (i : Nat), i + vs.length ≤ xs.length → lay (xs ++ ys) i vs = lay xs i vs ++ ys
  | [], _, _, _, _ => rfl
  | v :: vs, xs, ys, i, h => by
    simp only [List.length_cons] at h
    simp only [lay]
    rw [List.set_append_left _ _ (by omega), lay_left vs _ ys (i + 1) (by simp; omega)]
theorem lay_right : ∀ (vs xs ys : List Value) (i : Nat), lay (xs ++ ys) (xs.length + i) vs = xs ++ lay ys i vs
  | [], _, _, _ => rfl
  | v :: vs, xs, ys, i => by
    simp only [lay]
    rw [List.set_append_right _ _ (by omega), show xs.length + i - xs.length = i from by omega, show xs.length + i + 1 = xs.length + (i + 1) from by omega, lay_right vs xs _ (i + 1)]
theorem lay_flat {α : Type} {enc : α → List Value} {m : Nat} (hm : ∀ x, (enc x).length = m) {vs : List Value} {j : Nat} {r' : α} : ∀ {rs : List α} {k : Nat} (hk : k < rs.length), j + vs.length ≤ m → lay (enc rs[k]) j vs = enc r' →
    lay (rs.flatMap enc) (k * m + j) vs = (rs.set k r').flatMap enc
  | [], k, hk, _, _ => by simp at hk
  | r :: rs, 0, _, hj, e => by
    simp only [List.getElem_cons_zero] at e
    simp only [List.flatMap_cons, List.set_cons_zero, Nat.zero_mul, Nat.zero_add]
    rw [lay_left _ _ _ _ (by rw [hm]; exact hj), e]
  | r :: rs, k + 1, hk, hj, e => by
    simp only [List.getElem_cons_succ] at e
    have ih := lay_flat hm (rs := rs) (k := k) (by simpa using hk) hj e
    simp only [List.flatMap_cons, List.set_cons_succ]
    rw [← ih, Nat.succ_mul, show k * m + m + j = (enc r).length + (k * m + j) from by rw [hm]; omega, lay_right]
theorem Sep.flatSet {α : Type} {enc : α → List Value} {m b i k j : Nat} {T : TypeId} {vs : List Value} {rs : List α} (r' : α) {l : List HP} {w : World} (h : Sep (blk b (lay (rs.flatMap enc) i vs) T :: l) w) (hm : ∀ x, (enc x).length = m) (hk : k < rs.length)
    (hi : i = k * m + j) (hj : j + vs.length ≤ m) (e : lay (enc rs[k]) j vs = enc r') : Sep (blk b ((rs.set k r').flatMap enc) T :: l) w := by
  subst hi; rw [lay_flat hm hk hj e] at h; exact h
theorem Rds.part {l : List HP} {b i j : Nat} {vs us : List Value} (h : Rds l b i vs) (e : (vs.drop j).take us.length = us) : Rds l b (i + j) us := by
  intro w hw k v hk
  have := h w hw (j + k) v (by
    have hkl : k < us.length := (List.getElem?_eq_some_iff.1 hk).1
    rw [← e] at hk
    rw [List.getElem?_take_of_lt hkl, List.getElem?_drop] at hk
    exact hk)
  rw [Nat.add_assoc]; exact this
theorem Rd.flat {α : Type} {l l' : List HP} {b k m j : Nat} {xs : List α} {T : TypeId} {enc : α → List Value} {v : Value} (p : Pk (Sx.blk b (xs.flatMap enc) T) l l') (hm : ∀ x, (enc x).length = m) (hk : k < xs.length) (hj : (enc xs[k])[j]? = some v) : Rd l b (k * m + j) v := by
  intro w hw
  have hjm : j < m := by rw [← hm xs[k]]; exact (List.getElem?_eq_some_iff.1 hj).1
  refine Rd.blk p ?_ w hw
  have := flat_get hm xs [] k j hk hjm
  rw [List.append_nil] at this
  rw [this, hj]
def cnt : List Bool → Int
  | [] => 0
  | b :: bs => (if b then 1 else 0) + cnt bs
theorem cnt_set : ∀ {bs : List Bool} {i : Nat} (h : i < bs.length) (b : Bool), cnt (bs.set i b) = cnt bs + (if b then 1 else 0) - (if bs[i] then 1 else 0)
  | [], i, h, _ => by simp at h
  | x :: xs, 0, _, b => by simp only [List.set_cons_zero, cnt, List.getElem_cons_zero]; omega
  | x :: xs, i + 1, h, b => by
    have := cnt_set (bs := xs) (i := i) (by simpa using h) b
    simp only [List.set_cons_succ, cnt, List.getElem_cons_succ, this]; omega
theorem cnt_bd : ∀ bs : List Bool, 0 ≤ cnt bs ∧ cnt bs ≤ bs.length
  | [] => by simp [cnt]
  | b :: bs => by have := cnt_bd bs; simp only [cnt, List.length_cons]; split <;> omega
structure Ar where
  free : List Nat
  turn : List Int
  tk : List Bool
def hd : List Nat → Int
  | [] => -1
  | i :: _ => i
abbrev Srow := Int × Int × Bool × Int
def eS (r : Srow) : List Value := [.int .i64 r.1, .int .i64 r.2.1, .bool r.2.2.1, .int .i64 r.2.2.2]
theorem eS_len (r : Srow) : (eS r).length = 4 := rfl
def Chn (rs : List Srow) : List Nat → Prop
  | [] => True
  | i :: fs => (∃ r, rs[i]? = some r ∧ r.2.2.2 = hd fs) ∧ Chn rs fs
structure AOk (A : Ar) : Prop where
  len : A.tk.length = A.turn.length
  pos : 1 ≤ A.turn.length ∧ A.turn.length ≤ 4096
  nodup : A.free.Nodup
  free : ∀ i, i ∈ A.free ↔ A.tk[i]? = some false
structure Rep (A : Ar) (rs : List Srow) : Prop where
  ok : AOk A
  len : rs.length = A.turn.length
  row : ∀ (i : Nat) (r : Srow), rs[i]? = some r → r.1 = i ∧ A.turn[i]? = some r.2.1 ∧ A.tk[i]? = some r.2.2.1
  chn : Chn rs A.free
def arenaAt (TA TS b br : Nat) (A : Ar) (rs : List Srow) : HP := star (pure' (Rep A rs)) (star (blk b [.slice (some ⟨br, 0, none⟩) rs.length rs.length, .int .i64 (hd A.free), .int .i64 (cnt A.tk)] TA) (blk br (rs.flatMap eS) TS))
def arena (TA TS b : Nat) (A : Ar) : HP := ex fun br : Nat => ex fun rs : List Srow => arenaAt TA TS b br A rs
theorem Sep.arenaE {TA TS b : Nat} {A : Ar} {l : List HP} {w : World} (h : Sep (arena TA TS b A :: l) w) :
    ∃ br rs, Rep A rs ∧ Sep (blk b [.slice (some ⟨br, 0, none⟩) rs.length rs.length, .int .i64 (hd A.free), .int .i64 (cnt A.tk)] TA :: blk br (rs.flatMap eS) TS :: l) w := by
  obtain ⟨br, h⟩ := h.exE
  obtain ⟨rs, h⟩ := h.exE
  obtain ⟨h1, h2⟩ := h.split.pureE
  exact ⟨br, rs, h1, h2.split⟩
theorem Sep.arenaI {TA TS b br n : Nat} {A : Ar} {rs : List Srow} {l : List HP} {w : World} {f c : Int} (hA : Rep A rs) (hn : n = rs.length) (hf : f = hd A.free) (hc : c = cnt A.tk)
    (h : Sep (blk b [.slice (some ⟨br, 0, none⟩) n n, .int .i64 f, .int .i64 c] TA :: blk br (rs.flatMap eS) TS :: l) w) : Sep (arena TA TS b A :: l) w := by
  subst hn hf hc
  exact Sep.exI br (Sep.exI rs (Sep.join (Sep.pureI hA (Sep.join h))))
theorem Chn.set {rs : List Srow} {i : Nat} {r' : Srow} : ∀ {fs : List Nat}, Chn rs fs → i ∉ fs → Chn (rs.set i r') fs
  | [], _, _ => trivial
  | j :: fs, ⟨⟨r, h1, h2⟩, h3⟩, hi => by
    simp only [List.mem_cons, not_or] at hi
    exact ⟨⟨r, by rw [List.getElem?_set_ne hi.1]; exact h1, h2⟩, Chn.set h3 hi.2⟩
def Ar.take (A : Ar) : Ar :=
  match A.free with
  | [] => A
  | i :: fs => { A with free := fs, tk := A.tk.set i true }
def Ar.top (A : Ar) : Int × Int × Int :=
  match A.free with
  | [] => (0, 0, 4)
  | i :: _ => (i, A.turn[i]?.getD 0, 0)
def Ar.give (A : Ar) (i : Nat) : Ar := { free := i :: A.free, turn := A.turn.set i (IntKind.i64.wrap (A.turn[i]?.getD 0 + 1)), tk := A.tk.set i false }
def Ar.at (A : Ar) (s : Int) : Option Int := if 0 ≤ s ∧ A.tk[s.toNat]? = some true then some (A.turn[s.toNat]?.getD 0) else none
def Ar.giveH (A : Ar) (s u : Int) : Ar := if A.at s = some u then A.give s.toNat else A
def Ar.giveE (A : Ar) (s u : Int) : Int := if A.at s = some u then 0 else 6
theorem Ar.at_some {A : Ar} {rs : List Srow} (h : Rep A rs) {i : Nat} {r : Srow} (hr : rs[i]? = some r) (ht : r.2.2.1 = true) : A.at (i : Int) = some r.2.1 := by
  obtain ⟨h1, h2, h3⟩ := h.row i r hr
  unfold Ar.at
  rw [if_pos ⟨by omega, by simpa [ht] using h3⟩]; simp [h2]
theorem Ar.at_no {A : Ar} {rs : List Srow} (h : Rep A rs) {i : Nat} {r : Srow} (hr : rs[i]? = some r) (ht : ¬ r.2.2.1 = true) : A.at (i : Int) = none := by
  obtain ⟨h1, h2, h3⟩ := h.row i r hr
  unfold Ar.at
  rw [if_neg (fun e => ht (by have := e.2; simp [h3] at this; exact this))]
theorem Ar.at_out {A : Ar} {rs : List Srow} (h : Rep A rs) {s : Int} (hs : s < 0 ∨ (rs.length : Int) ≤ s) : A.at s = none := by
  unfold Ar.at
  rw [if_neg]
  rintro ⟨h1, h2⟩
  have := (List.getElem?_eq_some_iff.1 h2).1
  have := h.len; have := h.ok.len
  omega
def atV (A : Ar) (s : Int) : Value := .tuple [.agg [.int .i64 (if (A.at s).isSome then s else 0), .int .i64 ((A.at s).getD 0)].toArray, .bool (A.at s).isSome].toArray
theorem atV_none {A : Ar} {s : Int} (h : A.at s = none) : atV A s = .tuple [.agg [.int .i64 0, .int .i64 0].toArray, .bool false].toArray := by simp [atV, h]
theorem atV_some {A : Ar} {s u : Int} (h : A.at s = some u) : atV A s = .tuple [.agg [.int .i64 s, .int .i64 u].toArray, .bool true].toArray := by simp [atV, h]
theorem Rep.first {A : Ar} {rs : List Srow} (h : Rep A rs) {i : Nat} {fs : List Nat} (e : A.free = i :: fs) : ∃ r, rs[i]? = some r ∧ r.1 = i ∧ A.turn[i]? = some r.2.1 ∧ A.tk[i]? = some false ∧ r.2.2.1 = false ∧ r.2.2.2 = hd fs := by
  have hc := h.chn
  rw [e] at hc
  obtain ⟨⟨r, h1, h2⟩, _⟩ := hc
  obtain ⟨h3, h4, h5⟩ := h.row i r h1
  have h6 := (h.ok.free i).1 (by rw [e]; exact List.mem_cons_self)
  rw [h6] at h5
  exact ⟨r, h1, h3, h4, h6, by simpa using h5.symm, h2⟩
theorem Rep.take {A : Ar} {rs : List Srow} (h : Rep A rs) {i : Nat} {fs : List Nat} {r : Srow} (e : A.free = i :: fs) (hr : rs[i]? = some r) : Rep A.take (rs.set i (r.1, r.2.1, true, r.2.2.2)) := by
  have hnd := h.ok.nodup
  rw [e, List.nodup_cons] at hnd
  have hi : i < A.tk.length := (List.getElem?_eq_some_iff.1 ((h.ok.free i).1 (by rw [e]; exact List.mem_cons_self))).1
  have hf : A.take.free = fs := by simp [Ar.take, e]
  have ht : A.take.tk = A.tk.set i true := by simp [Ar.take, e]
  have hu : A.take.turn = A.turn := by simp [Ar.take, e]
  refine ⟨⟨?_, by rw [hu]; exact h.ok.pos, ?_, ?_⟩, ?_, ?_, ?_⟩
  · rw [ht, hu, List.length_set]; exact h.ok.len
  · rw [hf]; exact hnd.2
  · intro j
    rw [hf, ht]
    by_cases hij : i = j
    · subst hij
      rw [List.getElem?_set_self hi]
      constructor
      · intro h'; exact absurd h' hnd.1
      · intro h'; simp at h'
    · rw [List.getElem?_set_ne hij, ← h.ok.free j, e, List.mem_cons]
      constructor
      · intro h'; exact .inr h'
      · rintro (h' | h')
        · exact absurd h'.symm hij
        · exact h'
  · rw [hu, List.length_set]; exact h.len
  · intro j r' hj
    rw [ht, hu]
    by_cases hij : i = j
    · subst hij
      rw [List.getElem?_set_self (List.getElem?_eq_some_iff.1 hr).1] at hj
      cases hj
      have := h.row i r hr
      exact ⟨this.1, this.2.1, by rw [List.getElem?_set_self hi]⟩
    · rw [List.getElem?_set_ne hij] at hj ⊢
      exact h.row j r' hj
  · rw [hf]
    have := h.chn
    rw [e] at this
    exact Chn.set this.2 hnd.1
theorem Rep.give {A : Ar} {rs : List Srow} (h : Rep A rs) {i : Nat} {r : Srow} (ht : A.tk[i]? = some true) (hr : rs[i]? = some r) : Rep (A.give i) (rs.set i (r.1, IntKind.i64.wrap (r.2.1 + 1), false, hd A.free)) := by
  have hi : i < A.tk.length := (List.getElem?_eq_some_iff.1 ht).1
  have hil : i < rs.length := (List.getElem?_eq_some_iff.1 hr).1
  have hlen := h.ok.len
  have hrl := h.len
  have hni : i ∉ A.free := fun hm => by rw [h.ok.free i, ht] at hm; simp at hm
  refine ⟨⟨?_, ?_, ?_, ?_⟩, ?_, ?_, ?_⟩
  · simp [Ar.give, hlen]
  · simp [Ar.give, h.ok.pos]
  · simp only [Ar.give, List.nodup_cons]; exact ⟨hni, h.ok.nodup⟩
  · intro j
    simp only [Ar.give, List.mem_cons]
    by_cases hij : i = j
    · subst hij; rw [List.getElem?_set_self hi]; simp
    · rw [List.getElem?_set_ne hij, ← h.ok.free j]
      constructor
      · rintro (h' | h')
        · exact absurd h'.symm hij
        · exact h'
      · intro h'; exact .inr h'
  · simp [Ar.give, hrl]
  · intro j r' hj
    simp only [Ar.give]
    by_cases hij : i = j
    · subst hij
      rw [List.getElem?_set_self hil] at hj
      cases hj
      have := h.row i r hr
      rw [List.getElem?_set_self hi, List.getElem?_set_self (by omega), this.2.1]
      exact ⟨this.1, rfl, rfl⟩
    · rw [List.getElem?_set_ne hij] at hj
      rw [List.getElem?_set_ne hij, List.getElem?_set_ne hij]
      exact h.row j r' hj
  · exact ⟨⟨_, List.getElem?_set_self hil, rfl⟩, Chn.set h.chn hni⟩
theorem hd_neg {l : List Nat} (h : hd l < 0) : l = [] := by
  cases l with
  | nil => rfl
  | cons i _ => simp only [hd] at h; omega
theorem hd_pos {l : List Nat} (h : 0 ≤ hd l) : ∃ i fs, l = i :: fs := by
  cases l with
  | nil => simp [hd] at h
  | cons i fs => exact ⟨i, fs, rfl⟩
theorem live_yes {A : Ar} {s u : Int} (h : (A.at s).isSome = true) : Value.bool (decide ((if (A.at s).isSome then s else 0) = s ∧ (A.at s).getD 0 = u)) = .bool (decide (A.at s = some u)) := by
  cases hv : A.at s <;> simp_all
theorem live_no {A : Ar} {s u : Int} (h : (A.at s).isSome = false) : Value.bool false = .bool (decide (A.at s = some u)) := by
  cases hv : A.at s <;> simp_all
theorem Rep.take_fst {A : Ar} {rs : List Srow} (h : Rep A rs) {i : Nat} {fs : List Nat} {r : Srow} (e : A.free = i :: fs) (h5 : r.2.2.2 = hd fs) : r.2.2.2 = hd A.take.free := by simp [Ar.take, e, h5]
theorem Rep.take_cnt {A : Ar} {rs : List Srow} (h : Rep A rs) {i : Nat} {fs : List Nat} (e : A.free = i :: fs) : cnt A.tk + 1 = cnt A.take.tk := by
  have h3 := (h.ok.free i).1 (by rw [e]; exact List.mem_cons_self)
  obtain ⟨hi, hv⟩ := List.getElem?_eq_some_iff.1 h3
  rw [show A.take.tk = A.tk.set i true from by simp [Ar.take, e], cnt_set hi, hv]; simp
theorem Ar.take_nil {A : Ar} (e : A.free = []) : A.take = A := by unfold Ar.take; split <;> simp_all
theorem Ar.top_nil {A : Ar} (e : A.free = []) : A.top = (0, 0, 4) := by unfold Ar.top; split <;> simp_all
theorem Ar.top_cons {A : Ar} {i : Nat} {fs : List Nat} {u : Int} (e : A.free = i :: fs) (h : A.turn[i]? = some u) : A.top = ((i : Int), u, 0) := by unfold Ar.top; split <;> simp_all
theorem Rep.at_inv {A : Ar} {rs : List Srow} (h : Rep A rs) {s u : Int} (e : A.at s = some u) : ∃ (i : Nat) (r : Srow), s = i ∧ rs[i]? = some r ∧ r.1 = i ∧ r.2.1 = u ∧ r.2.2.1 = true ∧ A.tk[i]? = some true := by
  unfold Ar.at at e
  split at e
  · rename_i hc
    have hi := (List.getElem?_eq_some_iff.1 hc.2).1
    have h1 := h.len
    have h2 := h.ok.len
    have hr : rs[s.toNat]? = some (rs[s.toNat]'(by omega)) := by simp
    obtain ⟨h3, h4, h5⟩ := h.row _ _ hr
    rw [h4] at e
    rw [hc.2] at h5
    exact ⟨s.toNat, _, by omega, hr, h3, by simpa using e, by simpa using h5.symm, hc.2⟩
  · cases e
theorem Rep.give_cnt {A : Ar} {i : Nat} (h : A.tk[i]? = some true) : cnt A.tk - 1 = cnt (A.give i).tk := by
  obtain ⟨hi, hv⟩ := List.getElem?_eq_some_iff.1 h
  rw [show (A.give i).tk = A.tk.set i false from rfl, cnt_set hi, hv]; simp
theorem Ar.giveH_yes {A : Ar} {i : Nat} {u : Int} (h : A.at (i : Int) = some u) : A.giveH i u = A.give i := by simp [Ar.giveH, h]
theorem Ar.giveH_no {A : Ar} {s u : Int} (h : ¬ A.at s = some u) : A.giveH s u = A := by simp [Ar.giveH, h]
end Go.Proofs.YtkhdejjompbklaaGreat.Sx
namespace Go.Proofs.YtkhdejjompbklaaGreat.Sx
open Go
theorem zeros_flat {α : Type} {enc : α → List Value} {zc : List Value} (x : α) (m : Nat) (e : zc = enc x) : zeros zc m = (List.replicate m x).flatMap enc := by
  subst e
  induction m with
  | zero => simp [zeros]
  | succ m ih => rw [List.replicate_succ, List.flatMap_cons, ← ih]; simp [zeros, List.replicate_succ]
def Ar.new (m : Nat) : Ar := { free := List.range m, turn := List.replicate m 0, tk := List.replicate m false }
def NewI (m k : Nat) (rs : List Srow) : Prop := k ≤ m ∧ rs.length = m ∧ ∀ i r, rs[i]? = some r → r = if i < k then ((i : Int), 0, false, (i : Int) + 1) else (0, 0, false, 0)
theorem NewI.zero (m : Nat) : NewI m 0 (List.replicate m (0, 0, false, 0)) := ⟨Nat.zero_le _, by simp, fun i r h => by
  rw [List.getElem?_replicate] at h; split at h
  · simp at h; rw [if_neg (by omega)]; exact h.symm
  · cases h⟩
theorem NewI.get {m k : Nat} {rs : List Srow} (h : NewI m k rs) {i : Nat} (hi : i < rs.length) : rs[i] = if i < k then ((i : Int), 0, false, (i : Int) + 1) else (0, 0, false, 0) := h.2.2 i _ (by simp [hi])
theorem NewI.step {m k : Nat} {rs : List Srow} (h : NewI m k rs) (hk : k < m) : NewI m (k + 1) (rs.set k ((k : Int), 0, false, (k : Int) + 1)) := by
  refine ⟨by omega, by rw [List.length_set]; exact h.2.1, fun i r hr => ?_⟩
  have hl := h.2.1
  by_cases e : k = i
  · subst e
    rw [List.getElem?_set_self (by omega)] at hr
    cases hr; rw [if_pos (by omega)]
  · rw [List.getElem?_set_ne e] at hr
    rw [h.2.2 i r hr]
    by_cases hi : i < k
    · rw [if_pos hi, if_pos (by omega)]
    · rw [if_neg hi, if_neg (by omega)]
theorem Chn.range {m : Nat} {rs : List Srow} : ∀ (c j : Nat), j + c = m → (∀ i, i < m → ∃ r, rs[i]? = some r ∧ r.2.2.2 = if i + 1 = m then -1 else (i : Int) + 1) → Chn rs (List.range' j c)
  | 0, _, _, _ => trivial
  | c + 1, j, e, h => by
    rw [List.range'_succ]
    refine ⟨?_, Chn.range c (j + 1) (by omega) h⟩
    obtain ⟨r, h1, h2⟩ := h j (by omega)
    refine ⟨r, h1, ?_⟩
    rw [h2]
    cases c with
    | zero => rw [if_pos (by omega)]; rfl
    | succ c => rw [if_neg (by omega), List.range'_succ]; simp [hd]
theorem cnt_new (m : Nat) : cnt (List.replicate m false) = 0 := by
  induction m with
  | zero => rfl
  | succ m ih => rw [List.replicate_succ]; simp [cnt, ih]
theorem NewI.done {m : Nat} {rs : List Srow} (h : NewI m m rs) (h1 : 1 ≤ m) (h2 : m ≤ 4096) : Rep (Ar.new m) (rs.set (m - 1) (((m - 1 : Nat) : Int), 0, false, -1)) := by
  have hl := h.2.1
  have hrow : ∀ (i : Nat) (r : Srow), (rs.set (m - 1) (((m - 1 : Nat) : Int), 0, false, -1))[i]? = some r → i < m ∧ r = ((i : Int), 0, false, if i + 1 = m then -1 else (i : Int) + 1) := by
    intro i r hr
    by_cases e : m - 1 = i
    · subst e
      rw [List.getElem?_set_self (by omega)] at hr
      cases hr
      exact ⟨by omega, by rw [if_pos (by omega)]⟩
    · rw [List.getElem?_set_ne e] at hr
      have hi := (List.getElem?_eq_some_iff.1 hr).1
      have := h.2.2 i r hr
      rw [if_pos (by omega)] at this
      exact ⟨by omega, by rw [if_neg (by omega)]; exact this⟩
  refine ⟨⟨by simp [Ar.new], by simp [Ar.new]; omega, List.nodup_range, ?_⟩, by simp [Ar.new, hl], ?_, ?_⟩
  · intro i
    simp only [Ar.new, List.mem_range]
    rw [List.getElem?_replicate]
    by_cases hi : i < m
    · simp [hi]
    · simp [hi]
  · intro i r hr
    obtain ⟨hi, rfl⟩ := hrow i r hr
    simp [Ar.new, hi]
  · show Chn _ (List.range m)
    rw [List.range_eq_range']
    refine Chn.range (m := m) m 0 (by omega) fun i hi => ?_
    have hx : i < (rs.set (m - 1) (((m - 1 : Nat) : Int), 0, false, -1)).length := by rw [List.length_set]; omega
    refine ⟨_, List.getElem?_eq_getElem hx, ?_⟩
    rw [(hrow i _ (List.getElem?_eq_getElem hx)).2]
theorem new_first {m : Nat} (h : 1 ≤ m) : (0 : Int) = hd (Ar.new m).free := by
  obtain ⟨k, rfl⟩ : ∃ k, m = k + 1 := ⟨m - 1, by omega⟩
  show (0 : Int) = hd (List.range (k + 1))
  rw [List.range_eq_range', List.range'_succ]; rfl
theorem new_cnt {m : Nat} : (0 : Int) = cnt (Ar.new m).tk := (cnt_new m).symm
def e3 (r : Int × Int × Int) : List Value := [.int .i64 r.1, .int .i64 r.2.1, .int .i64 r.2.2]
def e2 (r : Int × Int) : List Value := [.int .i64 r.1, .int .i64 r.2]
def e1 (r : Int) : List Value := [.int .i64 r]
theorem e1_len (r : Int) : (e1 r).length = 1 := rfl
abbrev Ar.frees (A : Ar) : List Int := A.free.map fun i : Nat => (i : Int)
theorem nodup_len : ∀ {n : Nat} {l : List Nat}, l.Nodup → (∀ i ∈ l, i < n) → l.length ≤ n
  | 0, l, _, hb => by
    cases l with
    | nil => simp
    | cons x xs => have := hb x List.mem_cons_self; omega
  | n + 1, l, h, hb => by
    by_cases hn : n ∈ l
    · have h1 := nodup_len (n := n) (h.erase n) fun i hi => by
        have h2 := (h.mem_erase_iff).1 hi
        have := hb i h2.2
        have := h2.1
        omega
      rw [List.length_erase_of_mem hn] at h1
      omega
    · have h1 := nodup_len (n := n) h fun i hi => by
        have h2 := hb i hi
        have h3 : i ≠ n := fun e => hn (e ▸ hi)
        omega
      omega
end Go.Proofs.YtkhdejjompbklaaGreat.Sx
namespace Go.Proofs.YtkhdejjompbklaaGreat.Sx
open Go
theorem dec_no {p : Prop} [Decidable p] (h : ¬ p) : Go.Value.bool false = .bool (decide p) := by simp [h]
theorem dec_yes {p : Prop} [Decidable p] (h : p) : Go.Value.bool true = .bool (decide p) := by simp [h]
theorem dec_iff {p q : Prop} [Decidable p] [Decidable q] (h : p ↔ q) : Go.Value.bool (decide p) = .bool (decide q) := by simp [h]
def IntsAt (l : List HP) (q : Option Addr) (xs : List Int) : Prop := 0 < xs.length → ∃ b i, q = some ⟨b, i, none⟩ ∧ ∀ k (h : k < xs.length), Rd l b (i + k) (.int .i64 xs[k])
theorem IntsAt.blk {l l' : List HP} {b : Nat} {T : TypeId} {xs : List Int} {cs : List Value} (p : Pk (Sx.blk b cs T) l l') (e : cs = xs.flatMap e1) : IntsAt l (some ⟨b, 0, none⟩) xs := by
  subst e
  intro _
  exact ⟨b, 0, rfl, fun k hk => Rd.at (Rd.flat (j := 0) p e1_len hk rfl) (by omega)⟩
end Go.Proofs.YtkhdejjompbklaaGreat.Sx
namespace Go.Proofs.YtkhdejjompbklaaGreat.Sx
open Go
end Go.Proofs.YtkhdejjompbklaaGreat.Sx
namespace Go.Proofs.YtkhdejjompbklaaGreat.Sx
open Go
set_option linter.unusedVariables false
section
variable {P : Program} {n : Nat} {a : Act} {S : Slots} {l : List HP} {w : World} {dd : Option Nat} {t : TypeId} {pos : String} {af : Array Edge} {g : Option (Nat × Bool)}
variable {r : Option Addr} {m cap : Nat} {T : TypeId} {sz : Nat} {cs : List Value}
def Bk (r : Option Addr) : Prop := r = some ⟨blkOf r, 0, none⟩
theorem Sep.bk (h : Sep (sls r m cap T sz cs :: l) w) (hm : 0 < m) : Bk r := by
  rcases h.slsE with ⟨_, h2, _⟩ | ⟨b, rest, hr, _, _, _, _⟩
  · omega
  · subst hr; rfl
theorem Yld.indexH {ty e : TypeId} {x y : Operand} {ik : IntKind} {i : Int} {z : TypeInfo} (k : Nat) (hS : Has n a S) (hx : ev S x = some (.slice r m cap)) (hy : ev S y = some (.int ik i))
    (hu : P.underlying ty = some (.slice e)) (hi : P.info? e = some z) (hb : Bk r) (hz : z.size = sz) (hk : i = (k : Int)) (h1 : k < m) :
    Yld P a l ⟨dd, .indexAddr ty x y, t, pos, af, g⟩ (.pointer (some ⟨blkOf r, k * sz, none⟩)) := by
  unfold Bk at hb
  rw [hb] at hx ⊢
  exact Yld.indexB k hS hx hy hu hi hz hk h1
end
section
variable {P : Program} {ops : Array Oper} {Q : Exit → Act → World → Prop} {fuel : Nat} {a : Act} {w : World} {l0 : List HP} {listed : Array Bool}
theorem dFour {i j m q : Nat} (hr : Region.ready .any ops listed = [i, j, m, q]) (h : wpOp P ops Q i (fun a' w' => Sep l0 w' ∧ wpAnyH P .any ops Q (Sep l0) fuel (listed.setIfInBounds i true) a' w') a w)
    (h' : wpOp P ops Q j (fun a' w' => Sep l0 w' ∧ wpAnyH P .any ops Q (Sep l0) fuel (listed.setIfInBounds j true) a' w') a w)
    (h'' : wpOp P ops Q m (fun a' w' => Sep l0 w' ∧ wpAnyH P .any ops Q (Sep l0) fuel (listed.setIfInBounds m true) a' w') a w)
    (h3 : wpOp P ops Q q (fun a' w' => Sep l0 w' ∧ wpAnyH P .any ops Q (Sep l0) fuel (listed.setIfInBounds q true) a' w') a w) : wpAnyH P .any ops Q (Sep l0) (fuel + 1) listed a w :=
  wpAnyH_all hr (by simp) (by intro z hz; simp at hz; rcases hz with rfl | rfl | rfl | rfl <;> assumption)
end
end Go.Proofs.YtkhdejjompbklaaGreat.Sx
namespace Go.Proofs.YtkhdejjompbklaaGreat.Sx
open Go
set_option linter.unusedVariables false
section
variable {P : Program} {n : Nat} {a : Act} {S : Slots} {l : List HP} {d : Option Nat} {t : TypeId} {pos : String} {af : Array Edge} {g : Option (Nat × Bool)} {x y : Operand} {ty ty' : TypeId} {k k' : IntKind} {p q c : Int}
theorem Yld.shrL (m : Nat) (M : Int) (hS : Has n a S) (hx : ev S x = some (.int k p)) (hy : ev S y = some (.int k' c)) (hc : c = (m : Int)) (hm : m ≤ k.bits) (hM : (2 : Int) ^ m = M) :
    Yld P a l ⟨d, .binOp .shr ty x y ty', t, pos, af, g⟩ (.int k (p / M)) := by
  intro w _
  subst hc hM
  have h0 : ¬ ((m : Int) < 0) := by omega
  have h1 : p.fdiv (2 ^ m) = p / 2 ^ m := Int.fdiv_eq_ediv_of_nonneg _ (Int.pow_nonneg (by omega))
  simp [execOp, hS.ev hx, hS.ev hy, eqGuard, binOp, Op.shift, h0, Nat.min_eq_left hm, h1]
def bitsOf (op : BinOp) (k : IntKind) (p q : Int) : Int :=
  match op with
  | .and => k.wrap (BitVec.ofInt k.bits p &&& BitVec.ofInt k.bits q).toNat
  | .or => k.wrap (BitVec.ofInt k.bits p ||| BitVec.ofInt k.bits q).toNat
  | _ => k.wrap (BitVec.ofInt k.bits p ^^^ BitVec.ofInt k.bits q).toNat
theorem Yld.and (hS : Has n a S) (hx : ev S x = some (.int k p)) (hy : ev S y = some (.int k q)) : Yld P a l ⟨d, .binOp .and ty x y ty', t, pos, af, g⟩ (.int k (bitsOf .and k p q)) :=
  fun w _ => by simp [execOp, hS.ev hx, hS.ev hy, eqGuard, binOp, Op.intBits, bitsOf]
theorem Yld.or (hS : Has n a S) (hx : ev S x = some (.int k p)) (hy : ev S y = some (.int k q)) : Yld P a l ⟨d, .binOp .or ty x y ty', t, pos, af, g⟩ (.int k (bitsOf .or k p q)) :=
  fun w _ => by simp [execOp, hS.ev hx, hS.ev hy, eqGuard, binOp, Op.intBits, bitsOf]
end
theorem and15 {p : Int} (h : 0 ≤ p ∧ p ≤ 255) : bitsOf .and .u8 p 15 = p % 16 := by
  obtain ⟨m, rfl⟩ : ∃ m : Nat, p = m := ⟨p.toNat, by omega⟩
  have h1 : m < 256 := by omega
  have h2 : (BitVec.ofInt 8 (m : Int) &&& BitVec.ofInt 8 15).toNat = m % 16 := by
    have h3 : (BitVec.ofInt 8 (m : Int)).toNat = m := by
      rw [BitVec.toNat_ofInt]; omega
    rw [BitVec.toNat_and, h3]
    show m &&& 15 = m % 16
    exact Nat.and_two_pow_sub_one_eq_mod m 4
  have h4 : bitsOf .and .u8 (m : Int) 15 = IntKind.u8.wrap ((BitVec.ofInt 8 (m : Int) &&& BitVec.ofInt 8 15).toNat : Int) := rfl
  rw [h4, h2, IntWalk.u8_in _ (by omega)]
  omega
end Go.Proofs.YtkhdejjompbklaaGreat.Sx
namespace Go.Proofs.YtkhdejjompbklaaGreat.Sx
open Go
set_option linter.unusedVariables false
abbrev Ky := Int × Int × Int × Int × Int
abbrev eK (k : Ky) : List Value := [.int .u8 k.1, .int .u32 k.2.1, .int .u32 k.2.2.1, .int .u16 k.2.2.2.1, .int .u16 k.2.2.2.2]
abbrev vK (k : Ky) : Value := .agg [.int .u8 k.1, .int .u32 k.2.1, .int .u32 k.2.2.1, .int .u16 k.2.2.2.1, .int .u16 k.2.2.2.2].toArray
structure WfK (k : Ky) : Prop where
  p : 0 ≤ k.1 ∧ k.1 ≤ 255
  s : 0 ≤ k.2.1 ∧ k.2.1 ≤ 4294967295
  d : 0 ≤ k.2.2.1 ∧ k.2.2.1 ≤ 4294967295
  a : 0 ≤ k.2.2.2.1 ∧ k.2.2.2.1 ≤ 65535
  b : 0 ≤ k.2.2.2.2 ∧ k.2.2.2.2 ≤ 65535
def byts (k : Ky) : List Int :=
  [k.2.1 / 16777216 % 256, k.2.1 / 65536 % 256, k.2.1 / 256 % 256, k.2.1 % 256, k.2.2.1 / 16777216 % 256, k.2.2.1 / 65536 % 256, k.2.2.1 / 256 % 256, k.2.2.1 % 256, k.1 % 256,
   k.2.2.2.1 / 256 % 256, k.2.2.2.1 % 256, k.2.2.2.2 / 256 % 256, k.2.2.2.2 % 256]
theorem byts_bd {k : Ky} {j : Nat} {x : Int} (h : (byts k)[j]? = some x) : 0 ≤ x ∧ x ≤ 255 := by
  have hm := List.mem_of_getElem? h
  simp only [byts, List.mem_cons, List.not_mem_nil, or_false] at hm
  omega
def dig (k : Ky) (i : Nat) : Int := if i % 2 = 0 then (byts k)[i / 2]?.getD 0 / 16 % 16 else (byts k)[i / 2]?.getD 0 % 16
def digI (k : Ky) (i : Int) : Int := if 0 ≤ i ∧ i < 26 then dig k i.toNat else 0
theorem dig_bd (k : Ky) (i : Nat) : 0 ≤ dig k i ∧ dig k i < 16 := by
  unfold dig; split <;> omega
theorem dig_even {k : Ky} {j : Nat} {x : Int} (h : (byts k)[j]? = some x) : dig k (2 * j) = x / 16 % 16 := by
  unfold dig; rw [if_pos (by omega), show 2 * j / 2 = j from by omega, h]; rfl
theorem dig_odd {k : Ky} {j : Nat} {x : Int} (h : (byts k)[j]? = some x) : dig k (2 * j + 1) = x % 16 := by
  unfold dig; rw [if_neg (by omega), show (2 * j + 1) / 2 = j from by omega, h]; rfl
def dl (k : Ky) : List Int := (List.range 26).map (dig k)
theorem dl_len (k : Ky) : (dl k).length = 26 := by simp [dl]
theorem dl_get {k : Ky} {i : Nat} (h : i < 26) : (dl k)[i]? = some (dig k i) := by simp [dl, h]
theorem dl_take {k : Ky} {i : Nat} (h : i < 26) : (dl k).take (i + 1) = (dl k).take i ++ [dig k i] := by
  rw [List.take_succ_eq_append_getElem (by rw [dl_len]; exact h)]; simp [dl]
theorem dl_inj {k k' : Ky} (h : WfK k) (h' : WfK k') (e : dl k = dl k') : k = k' := by
  have hd : ∀ i, i < 26 → dig k i = dig k' i := fun i hi => by
    have h1 := dl_get (k := k) hi
    rw [e, dl_get hi] at h1
    exact (Option.some.inj h1).symm
  have hb : ∀ j x y, j < 13 → (byts k)[j]? = some x → (byts k')[j]? = some y → x = y := fun j x y hj hx hy => by
    have h1 := hd (2 * j) (by omega)
    have h2 := hd (2 * j + 1) (by omega)
    rw [dig_even hx, dig_even hy] at h1
    rw [dig_odd hx, dig_odd hy] at h2
    have := byts_bd hx
    have := byts_bd hy
    omega
  obtain ⟨p, s, d, a, b⟩ := k
  obtain ⟨p', s', d', a', b'⟩ := k'
  have h0 := hb 0 _ _ (by omega) rfl rfl
  have h1 := hb 1 _ _ (by omega) rfl rfl
  have h2 := hb 2 _ _ (by omega) rfl rfl
  have h3 := hb 3 _ _ (by omega) rfl rfl
  have h4 := hb 4 _ _ (by omega) rfl rfl
  have h5 := hb 5 _ _ (by omega) rfl rfl
  have h6 := hb 6 _ _ (by omega) rfl rfl
  have h7 := hb 7 _ _ (by omega) rfl rfl
  have h8 := hb 8 _ _ (by omega) rfl rfl
  have h9 := hb 9 _ _ (by omega) rfl rfl
  have h10 := hb 10 _ _ (by omega) rfl rfl
  have h11 := hb 11 _ _ (by omega) rfl rfl
  have h12 := hb 12 _ _ (by omega) rfl rfl
  have q1 := h.p; have q2 := h.s; have q3 := h.d; have q4 := h.a; have q5 := h.b
  have r1 := h'.p; have r2 := h'.s; have r3 := h'.d; have r4 := h'.a; have r5 := h'.b
  dsimp only at *
  have e1 : p = p' := by omega
  have e2 : s = s' := by omega
  have e3 : d = d' := by omega
  have e4 : a = a' := by omega
  have e5 : b = b' := by omega
  subst e1 e2 e3 e4 e5
  rfl
end Go.Proofs.YtkhdejjompbklaaGreat.Sx
