/-
  Steps of a walk for functions that hold a range over a function, for the bodies of such loops and for the functions that are ranged over. Nothing of a program stands here.
-/
import Derived.Test.YtmcfmhiadlkglaaAuto
import Derived.RangeFuncLeaves
import Derived.RangeFuncFrom
namespace Go.Proofs.Ytmcfmhiadlkglaa.Sx
open Go
set_option linter.unusedVariables false
/-- No fence; frames of rounds of a loop, or of none. -/
abbrev FR (ro : Option Nat) : Fence := { Fence.wide with round := ro }
/-- An activation with some deferred calls. -/
def wd (ds : List Deferred) (a : Act) : Act := { a with defers := ds }
theorem wd_nil {n : Nat} {a : Act} {S : Slots} (h : Has n a S) : a = wd [] a := by
  have := h.defers
  cases a; simp_all [wd]
def nd : Op → Bool
  | .defer _ => false
  | _ => true
theorem sem_at {ro : Option Nat} {ρ : Operand → Value} {o : Oper} (h : nd o.op = true) : Oper.semAt ro ρ o = execOp ρ o :=
  Oper.semAt_eq ro ρ o fun c e => by rw [e] at h; cases h
theorem put_wd {ds : List Deferred} {a : Act} {d : Option Nat} {v : Value} : (wd ds a).put d v = wd ds (a.put d v) := by
  cases d <;> rfl
theorem calls_in {ro : Option Nat} {m : Nat} {P : Program} {f : FuncId} {args : Array Value} {w : World} {R : Ending → World → Prop} (h : Calls P f args w R) : CallsIn (FR ro) m P f args w R := by
  have h2 := (callsIn_wide (n := m)).2 h
  exact h2
theorem calls_out {ro : Option Nat} {m : Nat} {P : Program} {f : FuncId} {args : Array Value} {w : World} {R : Ending → World → Prop} (h : CallsIn (FR ro) m P f args w R) : Calls P f args w R := by
  have h2 : CallsIn Fence.wide m P f args w R := h
  exact callsIn_wide.1 h2
theorem rows_in {ro : Option Nat} {m : Nat} {P : Program} {row : String} {args : Array Value} {w : World} {R : Value → World → Prop} (h : Rows P row args w R) : RowsIn (FR ro) m P row args w R := by
  intro c cs _
  obtain ⟨v, w', r, s⟩ := h c cs
  exact ⟨v, w', r, stepsIn_wide.2 s⟩

section
variable {P : Program} {ops : Array Oper} {ro : Option Nat} {m n : Nat} {a : Act} {S : Slots} {l : List HP} {w : World} {rest : List Oper} {ds : List Deferred}
  {d : Nat} {op : Op} {t : TypeId} {pos : String} {af : Array Edge} {o : Oper} {Q : Exit → Act → World → Prop} {K : Act → World → Prop}

/-- What is asked behind an operation: nothing was deferred. -/
def Kd (ds : List Deferred) (K : Act → World → Prop) : Act → World → Prop := fun a w => a.defers = [] ∧ K (wd ds a) w
def Qd (ds : List Deferred) (Q : Exit → Act → World → Prop) : Exit → Act → World → Prop := fun e a w => e ≠ .outgrown ∧ a.defers = [] ∧ Q e (wd ds a) w
theorem oper_in (hn : nd o.op = true) (ha : a.defers = []) (h : Oper.wp P o a w (Kd ds K) (Qd ds Q)) : Oper.wpIn (FR ro) m P o (wd ds a) w K Q := by
  refine ⟨fun _ _ => trivial, ?_⟩
  rw [sem_at hn]
  have he : (wd ds a).eval = a.eval := rfl
  rw [he]
  unfold Oper.wp at h
  generalize (execOp a.eval o).run P w = r at h ⊢
  cases r with
  | halt k w' =>
    cases k <;> first | exact h.elim | skip
    exact h.2.2
  | ok x w' =>
    cases x with
    | value v => rw [Oper.uponIn_value, put_wd]; exact h.2
    | skip => rw [Oper.uponIn_skip, put_wd]; exact h.2
    | defer e =>
      have h1 : ({ a with defers := e :: a.defers }.put o.dst undef).defers = [] := h.1
      cases hd : o.dst <;> simp [Act.put, hd] at h1
    | enter f args =>
      rw [Oper.uponIn_enter]
      refine ⟨fun hc => by simp [Fence.wide] at hc, calls_in (Calls.mono h ?_)⟩
      intro e w2 hx
      cases e with
      | returned v => show K ((wd ds a).put o.dst v) w2; rw [put_wd]; exact hx.2
      | panicked c => exact hx.2.2
      | outgrown =>
        obtain ⟨x1, x2, x3⟩ := hx
        exact absurd rfl x3.1
    | row r args =>
      rw [Oper.uponIn_row]
      refine ⟨fun hc => by simp [Fence.wide] at hc, ?_⟩
      have h2 : Rows P r args w' fun v w'' => Kd ds K (a.put o.dst v) w'' := h
      intro c cs _
      obtain ⟨v, w2, r2, s2⟩ := h2 c cs
      exact ⟨v, w2, by show K ((wd ds a).put o.dst v) w2; rw [put_wd]; exact r2.2, stepsIn_wide.2 s2⟩
    | _ => exact h.elim
theorem xval {v : Value} {w' : World} (hn : nd o.op = true) (hy : (execOp a.eval o).run P w = .ok (.value v) w') (k : K (wd ds (a.put o.dst v)) w') : Oper.wpIn (FR ro) m P o (wd ds a) w K Q := by
  refine ⟨fun _ _ => trivial, ?_⟩
  rw [sem_at hn]
  have he : (wd ds a).eval = a.eval := rfl
  rw [he, hy, Oper.uponIn_value, put_wd]
  exact k
theorem xA {v : Value} (hS : Has n a S) (hR : Sep l w) (hy : Yld P a l ⟨some d, op, t, pos, af, none⟩ v) (hd : d < n)
    (k : ∀ a', Has n a' ((d, v) :: S) → wpListIn (FR ro) m P ops Q rest (wd ds a') w) (hn : nd op = true := by rfl) : wpListIn (FR ro) m P ops Q (⟨some d, op, t, pos, af, none⟩ :: rest) (wd ds a) w := by
  unfold wpListIn
  simp only [Region.wanted, if_true]
  exact xval hn (hy w hR) (k _ (hS.put d v hd))
theorem xAg {v : Value} {j tj : Nat} {b : Bool} (hS : Has n a S) (hR : Sep l w) (hj : (ops[j]?).bind (·.dst) = some tj) (hg : lk tj S = some (.bool b))
    (hy : Yld P a l ⟨some d, op, t, pos, af, some (j, b)⟩ v) (hd : d < n)
    (k : ∀ a', Has n a' ((d, v) :: S) → wpListIn (FR ro) m P ops Q rest (wd ds a') w) (hn : nd op = true := by rfl) : wpListIn (FR ro) m P ops Q (⟨some d, op, t, pos, af, some (j, b)⟩ :: rest) (wd ds a) w := by
  have hw : Region.wanted (⟨some d, op, t, pos, af, some (j, b)⟩ : Oper) (yielded ops (wd ds a).tmps) = true := by simp [Region.wanted, wd, hS.yielded hj hg]
  unfold wpListIn
  rw [if_pos hw]
  exact xval hn (hy w hR) (k _ (hS.put d v hd))
theorem xSkip {j tj : Nat} {b c : Bool} (hS : Has n a S) (hj : (ops[j]?).bind (·.dst) = some tj) (hg : lk tj S = some (.bool c)) (hbc : (c == b) = false) (hd : d < n)
    (k : ∀ a', Has n a' ((d, undef) :: S) → wpListIn (FR ro) m P ops Q rest (wd ds a') w) : wpListIn (FR ro) m P ops Q (⟨some d, op, t, pos, af, some (j, b)⟩ :: rest) (wd ds a) w := by
  have hw : Region.wanted (⟨some d, op, t, pos, af, some (j, b)⟩ : Oper) (yielded ops (wd ds a).tmps) = false := by
    simp only [Region.wanted, wd, hS.yielded hj hg]
    cases b <;> cases c <;> simp_all
  unfold wpListIn
  rw [if_neg (by simp [hw]), put_wd]
  exact ⟨fun _ _ => trivial, k _ (hS.put d undef hd)⟩
theorem xSkipU {j tj : Nat} {b : Bool} (hS : Has n a S) (hj : (ops[j]?).bind (·.dst) = some tj) (hg : lk tj S = some undef) (hd : d < n)
    (k : ∀ a', Has n a' ((d, undef) :: S) → wpListIn (FR ro) m P ops Q rest (wd ds a') w) : wpListIn (FR ro) m P ops Q (⟨some d, op, t, pos, af, some (j, b)⟩ :: rest) (wd ds a) w := by
  have hw : Region.wanted (⟨some d, op, t, pos, af, some (j, b)⟩ : Oper) (yielded ops (wd ds a).tmps) = false := by
    simp [Region.wanted, wd, hS.yieldedU hj hg]
  unfold wpListIn
  rw [if_neg (by simp [hw]), put_wd]
  exact ⟨fun _ _ => trivial, k _ (hS.put d undef hd)⟩
theorem xSkip0 {j tj : Nat} {b c : Bool} (hS : Has n a S) (hj : (ops[j]?).bind (·.dst) = some tj) (hg : lk tj S = some (.bool c)) (hbc : (c == b) = false)
    (k : wpListIn (FR ro) m P ops Q rest (wd ds a) w) : wpListIn (FR ro) m P ops Q (⟨none, op, t, pos, af, some (j, b)⟩ :: rest) (wd ds a) w := by
  have hw : Region.wanted (⟨none, op, t, pos, af, some (j, b)⟩ : Oper) (yielded ops (wd ds a).tmps) = false := by
    simp only [Region.wanted, wd, hS.yielded hj hg]
    cases b <;> cases c <;> simp_all
  unfold wpListIn
  rw [if_neg (by simp [hw])]
  exact ⟨fun _ _ => trivial, k⟩
theorem xB {dd : Option Nat} (hS : Has n a S) (h : Oper.wp P ⟨dd, op, t, pos, af, none⟩ a w (Kd ds (wpListIn (FR ro) m P ops Q rest)) (Qd ds Q)) (hn : nd op = true := by rfl) : wpListIn (FR ro) m P ops Q (⟨dd, op, t, pos, af, none⟩ :: rest) (wd ds a) w := by
  unfold wpListIn
  simp only [Region.wanted, if_true]
  exact oper_in hn hS.defers h
theorem xBg {dd : Option Nat} {j tj : Nat} {b : Bool} (hS : Has n a S) (hj : (ops[j]?).bind (·.dst) = some tj) (hg : lk tj S = some (.bool b))
    (h : Oper.wp P ⟨dd, op, t, pos, af, some (j, b)⟩ a w (Kd ds (wpListIn (FR ro) m P ops Q rest)) (Qd ds Q)) (hn : nd op = true := by rfl) : wpListIn (FR ro) m P ops Q (⟨dd, op, t, pos, af, some (j, b)⟩ :: rest) (wd ds a) w := by
  have hw : Region.wanted (⟨dd, op, t, pos, af, some (j, b)⟩ : Oper) (yielded ops (wd ds a).tmps) = true := by simp [Region.wanted, wd, hS.yielded hj hg]
  unfold wpListIn
  rw [if_pos hw]
  exact oper_in hn hS.defers h
theorem xcondT {x : Operand} {c1 c2 : Code} (hS : Has n a S) (hx : ev S x = some (.bool true)) (h : c1.wpIn (FR ro) m P Q (wd ds a) w) : (Code.cond x c1 c2).wpIn (FR ro) m P Q (wd ds a) w := Go.wpIn_cond_true (hS.ev hx) h
theorem xcondF {x : Operand} {c1 c2 : Code} (hS : Has n a S) (hx : ev S x = some (.bool false)) (h : c2.wpIn (FR ro) m P Q (wd ds a) w) : (Code.cond x c1 c2).wpIn (FR ro) m P Q (wd ds a) w := Go.wpIn_cond_false (hS.ev hx) h
/-- The frame, with some deferred calls, has the listed slots. -/
def HasW (n : Nat) (ds : List Deferred) (a : Act) (S : Slots) : Prop := ∃ a', a = wd ds a' ∧ Has n a' S
theorem hasW (h : Has n a S) : HasW n ds (wd ds a) S := ⟨a, rfl, h⟩
theorem xloopI {X : Type} (B : Slots) (V : X → Slots) (H : X → List HP) (r : List HP) (I : X → Prop) (μ : X → Nat) (x0 : X) {c : Code} (hI : I x0) (hS : Has n a (V x0 ++ B)) (hR : Sep (H x0 ++ r) w)
    (round : ∀ x a w, I x → Has n a (V x ++ B) → Sep (H x ++ r) w →
      c.wpIn (FR ro) m P (Exit.then (fun a' w' => ∃ x', I x' ∧ μ x' < μ x ∧ HasW n ds a' (V x' ++ B) ∧ Sep (H x' ++ r) w') Q) (wd ds a) w) : (Code.loop c).wpIn (FR ro) m P Q (wd ds a) w := by
  intro b k cs hro hb hr
  have key : ∀ j x a w, μ x = j → I x → Has n a (V x ++ B) → Sep (H x ++ r) w →
      ∃ e a' w', Q e a' w' ∧ ArrivesIn (Machine.fenced P (FR ro)) P (lone (b.atR (wd ds a) (.code c :: .inLoop c :: k)) cs w) b k cs e a' w' := by
    intro j
    induction j using Nat.strongRecOn with
    | _ j ih =>
      intro x a w hm hI hS hR
      obtain ⟨e, a₁, w₁, hq, harr⟩ := round x a w hI hS hR b (.inLoop c :: k) cs hro hb hr
      cases e with
      | normal =>
        obtain ⟨x', hI', hlt, ⟨a2, rfl, hS'⟩, hR'⟩ := hq
        obtain ⟨e₂, a₂, w₂, hq₂, harr₂⟩ := ih (μ x') (hm ▸ hlt) x' a2 w₁ rfl hI' hS' hR'
        exact ⟨e₂, a₂, w₂, hq₂, .of_steps (StepsIn.trans harr (.one (fenced_calm hb hr rfl) stepR_inLoop)) harr₂⟩
      | exit id => exact ⟨_, a₁, w₁, hq, .pass (x := .inLoop c) rfl (fun _ _ => .inl (by simp)) harr⟩
      | goto l => exact ⟨_, a₁, w₁, hq, .pass (x := .inLoop c) rfl (fun _ _ => .inl (by simp)) harr⟩
      | ret => exact ⟨_, a₁, w₁, hq, .pass (x := .inLoop c) rfl (fun _ _ => .inl (by simp)) harr⟩
      | panic ch => exact ⟨_, a₁, w₁, hq, .pass (x := .inLoop c) rfl (fun _ _ => .inl (by simp)) harr⟩
      | outgrown => exact ⟨_, a₁, w₁, hq, .pass (x := .inLoop c) rfl (fun _ _ => .inl (by simp)) harr⟩
  obtain ⟨e, a', w', hq, harr⟩ := key _ x0 a w rfl hI hS hR
  exact ⟨e, a', w', hq, .of_steps (.one (fenced_calm hb hr rfl) stepR_loop) harr⟩
/-- A region that draws its order. -/
theorem put_defers {d : Option Nat} {v : Value} : (a.put d v).defers = a.defers := by cases d <;> rfl
theorem upon_mono {K K' : Act → World → Prop} (hK : ∀ a w, K a w → K' a w) {r : Result Next} (h : o.upon P a K Q r) : o.upon P a K' Q r := by
  cases r with
  | halt k w' => cases k <;> exact h
  | ok x w' =>
    cases x with
    | value v => exact hK _ _ h
    | skip => exact hK _ _ h
    | defer e => exact hK _ _ h
    | enter f args =>
      refine Calls.mono h fun e w2 hx => ?_
      cases e with
      | returned v => exact hK _ _ hx
      | panicked c => exact hx
      | outgrown => exact hx
    | row r args => exact fun c cs => let ⟨v, w2, r2, s2⟩ := (show Rows P r args w' _ from h) c cs; ⟨v, w2, hK _ _ r2, s2⟩
    | _ => exact h.elim
theorem wpOps_defers {rest : List Nat} : ∀ {a : Act} {w : World}, wpOps P ops (Qd ds Q) rest a w → a.defers = [] := by
  induction rest with
  | nil => intro a w h; exact h.2.1
  | cons i rest ih =>
    intro a w h
    unfold wpOps at h
    cases ho : ops[i]? with
    | none => rw [ho] at h; exact ih h
    | some o =>
      rw [ho] at h
      dsimp only at h
      by_cases hw : Region.wanted o (yielded ops a.tmps) = true
      · rw [if_pos hw] at h
        rcases h with h | ⟨_, x1, x2, x3⟩
        · unfold Oper.wp at h
          generalize (execOp a.eval o).run P w = r at h
          cases r with
          | halt k w' =>
            cases k <;> first | exact h.elim | skip
            exact h.2.1
          | ok x w' =>
            cases x with
            | value v => have := ih (show wpOps P ops (Qd ds Q) rest _ w' from h); rwa [put_defers] at this
            | skip => have := ih (show wpOps P ops (Qd ds Q) rest _ w' from h); rwa [put_defers] at this
            | defer e =>
              have := ih (show wpOps P ops (Qd ds Q) rest _ w' from h)
              rw [put_defers] at this; cases this
            | enter f args =>
              obtain ⟨e, w2, fr, hx, _⟩ := (show Calls P f args w' _ from h) []
              cases e with
              | returned v => have := ih hx; rwa [put_defers] at this
              | panicked c => exact hx.2.1
              | outgrown =>
                obtain ⟨x1, x2, x3⟩ := hx
                exact absurd rfl x3.1
            | row r args =>
              obtain ⟨v, w2, hx, _⟩ := (show Rows P r args w' _ from h) default []
              have := ih hx; rwa [put_defers] at this
            | _ => exact h.elim
        · exact absurd rfl x3.1
      · rw [if_neg hw] at h
        have := ih h; rwa [put_defers] at this
theorem wpOps_in {rest : List Nat} : ∀ {a : Act} {w : World}, (∀ o ∈ ops.toList, nd o.op = true) → a.defers = [] → wpOps P ops (Qd ds Q) rest a w → wpOpsIn (FR ro) m P ops Q rest (wd ds a) w := by
  induction rest with
  | nil => intro a w _ _ h; exact h.2.2
  | cons i rest ih =>
    intro a w hn ha h
    unfold wpOps at h
    unfold wpOpsIn
    cases ho : ops[i]? with
    | none => rw [ho] at h; exact ih hn ha h
    | some o =>
      rw [ho] at h
      have hno : nd o.op = true := hn o (by rw [Array.mem_toList_iff]; exact Array.mem_of_getElem? ho)
      dsimp only at h ⊢
      by_cases hw : Region.wanted o (yielded ops a.tmps) = true
      · rw [if_pos hw] at h
        rw [if_pos (show Region.wanted o (yielded ops (wd ds a).tmps) = true from hw)]
        rcases h with h | ⟨_, x1, x2, x3⟩
        · exact oper_in (K := wpOpsIn (FR ro) m P ops Q rest) hno ha (upon_mono (fun a' w' hx => ⟨wpOps_defers hx, ih hn (wpOps_defers hx) hx⟩) h)
        · exact absurd rfl x3.1
      · rw [if_neg hw] at h
        rw [if_neg (show ¬ Region.wanted o (yielded ops (wd ds a).tmps) = true from hw), put_wd]
        exact ⟨fun _ _ => trivial, ih hn (by rw [put_defers]; exact ha) h⟩
end
end Go.Proofs.Ytmcfmhiadlkglaa.Sx
