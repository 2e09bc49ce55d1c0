/-
  Plain texts and walks, put together.
-/
import Derived.WalkKit
import Derived.OrdersHeld
import Derived.Scope
import Derived.ProofKit
import Derived.OpenShut
import Derived.WideKeyArgs
import Derived.Lib.SmallJoins
import Derived.Laws.Append
import Derived.Deep.Slices
namespace Go.Proofs.YtkhdejjompbklaaGreat.Sx
open Go
set_option linter.unusedVariables false
set_option linter.unusedSimpArgs false
abbrev PH := Nat → Option Obj
abbrev Sig := Os × Array (Nat × ByteArray)
abbrev HP := Sig → PH → Prop
def PH.disj (g h : PH) : Prop := ∀ b, g b = none ∨ h b = none
def PH.uni (g h : PH) : PH := fun b => (g b).or (h b)
def PH.emp : PH := fun _ => none
def PH.sub (g : PH) (w : World) : Prop := ∀ b o, g b = some o → w.heap[b]? = some o
def pt (b : Nat) (o : Obj) : HP := fun _ h => h = fun c => if c = b then some o else none
def blk (b : Nat) (cs : List Value) (T : TypeId) : HP := pt b (.cells cs.toArray T)
def old (W : World) : HP := fun σ h => σ = (W.os, W.output) ∧ h = fun b => W.heap[b]?
def pure' (p : Prop) : HP := fun _ h => p ∧ h = PH.emp
def star (P Q : HP) : HP := fun σ h => ∃ g k, PH.disj g k ∧ h = PH.uni g k ∧ P σ g ∧ Q σ k
def ex {α : Type} (P : α → HP) : HP := fun σ h => ∃ x, P x σ h
def stars : List HP → HP
  | [] => fun _ h => h = PH.emp
  | P :: l => star P (stars l)
def Sep (l : List HP) (w : World) : Prop := ∃ h : PH, PH.sub h w ∧ stars l (w.os, w.output) h
theorem PH.uni_comm {g h : PH} (d : PH.disj g h) : PH.uni g h = PH.uni h g := by
  funext b;rcases d b with e | e <;> simp [PH.uni, e]
theorem PH.disj.symm {g h : PH} (d : PH.disj g h) : PH.disj h g := fun b => (d b).symm
theorem PH.uni_assoc (f g h : PH) : PH.uni (PH.uni f g) h = PH.uni f (PH.uni g h) := by
  funext b;simp [PH.uni, Option.or_assoc]
theorem PH.disj_uni {f g h : PH} : PH.disj f (PH.uni g h) ↔ PH.disj f g ∧ PH.disj f h := by
  constructor
  · intro d
    refine ⟨fun b => ?_, fun b => ?_⟩ <;> rcases d b with e | e <;> first | exact .inl e | (simp [PH.uni] at e;exact .inr (by first | exact e.1 | exact e.2))
  · rintro ⟨d1, d2⟩ b
    rcases d1 b with e | e
    · exact .inl e
    · rcases d2 b with e' | e'
      · exact .inl e'
      · exact .inr (by simp [PH.uni, e, e'])
theorem PH.uni_disj {f g h : PH} : PH.disj (PH.uni g h) f ↔ PH.disj g f ∧ PH.disj h f :=
  ⟨fun d => ⟨(PH.disj_uni.1 d.symm).1.symm, (PH.disj_uni.1 d.symm).2.symm⟩, fun ⟨a, b⟩ => (PH.disj_uni.2 ⟨a.symm, b.symm⟩).symm⟩
theorem PH.uni_emp (g : PH) : PH.uni g PH.emp = g := by funext b;simp [PH.uni, PH.emp]
theorem PH.emp_uni (g : PH) : PH.uni PH.emp g = g := by funext b;simp [PH.uni, PH.emp]
theorem PH.disj_emp (g : PH) : PH.disj g PH.emp := fun _ => .inr rfl
theorem PH.emp_disj (g : PH) : PH.disj PH.emp g := fun _ => .inl rfl
theorem star_comm {P Q : HP} {σ : Sig} {h : PH} (s : star P Q σ h) : star Q P σ h := by
  obtain ⟨g, k, d, rfl, p, q⟩ := s;exact ⟨k, g, d.symm, PH.uni_comm d, q, p⟩
theorem star_assoc {P Q R : HP} {σ : Sig} {h : PH} (s : star (star P Q) R σ h) : star P (star Q R) σ h := by
  obtain ⟨gk, r, d, rfl, ⟨g, k, d', rfl, p, q⟩, hr⟩ := s;obtain ⟨d1, d2⟩ := PH.uni_disj.1 d;exact ⟨g, PH.uni k r, PH.disj_uni.2 ⟨d', d1⟩, PH.uni_assoc _ _ _, p, k, r, d2, rfl, q, hr⟩
theorem star_assoc' {P Q R : HP} {σ : Sig} {h : PH} (s : star P (star Q R) σ h) : star (star P Q) R σ h := by
  obtain ⟨g, kr, d, rfl, p, k, r, d', rfl, q, hr⟩ := s;obtain ⟨d1, d2⟩ := PH.disj_uni.1 d;exact ⟨PH.uni g k, r, PH.uni_disj.2 ⟨d2, d'⟩, (PH.uni_assoc _ _ _).symm, ⟨g, k, d1, rfl, p, q⟩, hr⟩
theorem star_mono {P P' Q Q' : HP} {σ : Sig} (hp : ∀ h, P σ h → P' σ h) (hq : ∀ h, Q σ h → Q' σ h) {h : PH} (s : star P Q σ h) : star P' Q' σ h := by
  obtain ⟨g, k, d, rfl, p, q⟩ := s;exact ⟨g, k, d, rfl, hp _ p, hq _ q⟩
def Pk (r : HP) (l l' : List HP) : Prop := ∀ (σ : Sig) (h : PH), stars l σ h ↔ stars (r :: l') σ h
theorem Pk.here {r : HP} {l : List HP} : Pk r (r :: l) l := fun _ _ => Iff.rfl
theorem Pk.there {r x : HP} {l l' : List HP} (p : Pk r l l') : Pk r (x :: l) (x :: l') := by
  intro σ h;constructor
  · intro s
    have s2 : star x (Sx.stars (r :: l')) σ h := star_mono (fun _ x => x) (fun g => (p σ g).1) s;exact star_mono (fun _ x => x) (fun _ x => x) (star_assoc (star_mono (fun _ => star_comm) (fun _ x => x) (star_assoc' s2)))
  · intro s
    exact star_mono (fun _ x => x) (fun g => (p σ g).2) (star_assoc (star_mono (fun _ => star_comm) (fun _ x => x) (star_assoc' s)))
section
variable {l l' : List HP} {w : World} {P Q : HP}
theorem Sep.pk {r : HP} (h : Sep l w) (p : Pk r l l') : Sep (r :: l') w :=
  let ⟨g, hs, s⟩ := h;⟨g, hs, (p _ g).1 s⟩
theorem Sep.back {r : HP} (h : Sep (r :: l') w) (p : Pk r l l') : Sep l w :=
  let ⟨g, hs, s⟩ := h;⟨g, hs, (p _ g).2 s⟩
theorem Sep.nil (w : World) : Sep [] w := ⟨PH.emp, fun b o e => by simp [PH.emp] at e, rfl⟩
theorem Sep.drop (h : Sep (P :: l) w) : Sep l w := by
  obtain ⟨g, hs, x, y, d, rfl, _, s⟩ := h;exact ⟨y, fun b o e => hs b o (by rcases d b with e' | e' <;> simp_all [PH.uni]), s⟩
theorem Sep.swap (h : Sep (P :: Q :: l) w) : Sep (Q :: P :: l) w := h.pk (.there .here)
theorem Sep.start (W : World) : Sep [old W] W := by
  refine ⟨fun b => W.heap[b]?, fun b o e => e, _, PH.emp, PH.disj_emp _, (PH.uni_emp _).symm, ⟨rfl, rfl⟩, rfl⟩
theorem Sep.conv {P' : HP} (h : Sep (P :: l) w) (c : ∀ σ g, P σ g → P' σ g) : Sep (P' :: l) w :=
  let ⟨g, hs, s⟩ := h;⟨g, hs, star_mono (c _) (fun _ x => x) s⟩
theorem Sep.split (h : Sep (star P Q :: l) w) : Sep (P :: Q :: l) w :=
  let ⟨g, hs, s⟩ := h;⟨g, hs, star_assoc s⟩
theorem Sep.join (h : Sep (P :: Q :: l) w) : Sep (star P Q :: l) w :=
  let ⟨g, hs, s⟩ := h;⟨g, hs, star_assoc' s⟩
theorem Sep.exE {α : Type} {R : α → HP} (h : Sep (ex R :: l) w) : ∃ x, Sep (R x :: l) w := by
  obtain ⟨g, hs, x, y, d, rfl, ⟨v, p⟩, s⟩ := h;exact ⟨v, _, hs, x, y, d, rfl, p, s⟩
theorem Sep.exI {α : Type} {R : α → HP} (x : α) (h : Sep (R x :: l) w) : Sep (ex R :: l) w := h.conv fun _ _ p => ⟨x, p⟩
theorem Sep.pureE {p : Prop} (h : Sep (pure' p :: l) w) : p ∧ Sep l w := by
  obtain ⟨g, hs, x, y, d, rfl, ⟨hp, e⟩, s⟩ := h;subst e;rw [PH.emp_uni] at hs;exact ⟨hp, y, hs, s⟩
theorem Sep.pureI {p : Prop} (hp : p) (h : Sep l w) : Sep (pure' p :: l) w := by
  obtain ⟨g, hs, s⟩ := h;exact ⟨g, hs, PH.emp, g, PH.emp_disj _, (PH.emp_uni _).symm, ⟨hp, rfl⟩, s⟩
theorem Sep.read {b : Nat} {o : Obj} (h : Sep (pt b o :: l) w) : w.heap[b]? = some o := by
  obtain ⟨g, hs, x, y, d, rfl, e, s⟩ := h;refine hs b o ?_;simp only [pt] at e;subst e;simp [PH.uni]
theorem Sep.readOld {W : World} (h : Sep (old W :: l) w) {b : Nat} (hb : b < W.heap.size) : w.heap[b]? = W.heap[b]? := by
  obtain ⟨g, hs, x, y, d, rfl, ⟨_, e⟩, s⟩ := h;subst e;have : W.heap[b]? = some W.heap[b] := by simp [hb]
  rw [this];exact hs b _ (by simp [PH.uni, hb])
theorem Sep.readSig {W : World} (h : Sep (old W :: l) w) : w.os = W.os ∧ w.output = W.output := by
  obtain ⟨g, hs, x, y, d, rfl, ⟨e, _⟩, s⟩ := h;exact ⟨congrArg Prod.fst e, congrArg Prod.snd e⟩
theorem Sep.of_heap {w' : World} (h : Sep l w) (e : w'.heap = w.heap) (e1 : w'.os = w.os) (e2 : w'.output = w.output) : Sep l w' := by
  obtain ⟨g, hs, s⟩ := h;exact ⟨g, fun b o hb => e ▸ hs b o hb, by rw [e1, e2];exact s⟩
theorem Sep.drew (h : Sep l w) : Sep l w.drew := h.of_heap rfl rfl rfl
theorem Sep.drewN {n : Nat} (h : Sep l w) : Sep l { w with drawn := n } := h.of_heap rfl rfl rfl
theorem Sep.new (h : Sep l w) (o : Obj) : Sep (pt w.heap.size o :: l) (w.alloc o) := by
  obtain ⟨g, hs, s⟩ := h;have d : PH.disj (fun c => if c = w.heap.size then some o else none) g := by
    intro b;by_cases hb : b = w.heap.size
    · right
      cases hg : g b with
      | none => rfl
      | some o' => have := hs b o' hg;subst hb;simp at this
    · left;simp [hb]
  refine ⟨_, ?_, _, g, d, rfl, rfl, s⟩;intro b o' e;simp only [PH.uni] at e;by_cases hb : b = w.heap.size
  · subst hb;simp at e;subst e
    show (w.heap.push o)[w.heap.size]? = some o;simp
  · simp [hb] at e
    have := hs b o' e;show (w.heap.push o)[b]? = some o';rw [Array.getElem?_push, if_neg hb];exact this
theorem Sep.upd {b : Nat} {o o' : Obj} {w' : World} (h : Sep (pt b o :: l) w) (hb : w'.heap[b]? = some o')
    (hk : ∀ c, c ≠ b → w'.heap[c]? = w.heap[c]?) (e1 : w'.os = w.os) (e2 : w'.output = w.output) : Sep (pt b o' :: l) w' := by
  obtain ⟨g, hs, x, y, d, rfl, e, s⟩ := h;simp only [pt] at e;subst e;have hy : y b = none := by rcases d b with e | e <;> simp_all
  refine ⟨_, ?_, (fun c => if c = b then some o' else none), y, ?_, rfl, rfl, by rw [e1, e2];exact s⟩
  · intro c oc e
    simp only [PH.uni] at e;by_cases hc : c = b
    · subst hc;simp at e;subst e;exact hb
    · rw [hk c hc]
      refine hs c oc ?_;simp [PH.uni, hc] at e ⊢;exact e
  · intro c
    by_cases hc : c = b
    · right;rw [hc];exact hy
    · left;simp [hc]
theorem Sep.lt {b : Nat} {o : Obj} (h : Sep (pt b o :: l) w) : b < w.heap.size := by
  have := h.read;rcases Nat.lt_or_ge b w.heap.size with h' | h'
  · exact h'
  · simp [Array.getElem?_eq_none h'] at this
theorem blk_cell {b : Nat} {cs : List Value} {T : TypeId} (h : Sep (blk b cs T :: l) w) (i : Nat) : w.cell? ⟨b, i, none⟩ = cs[i]? := by
  have := h.read;simp [World.cell?, this]
theorem blk_frozen {b : Nat} {cs : List Value} {T : TypeId} (h : Sep (blk b cs T :: l) w) (i : Nat) : w.frozen? ⟨b, i, none⟩ = false := by
  have := h.read;simp [World.frozen?, this]
theorem blk_set {b : Nat} {cs : List Value} {T : TypeId} (h : Sep (blk b cs T :: l) w) (i : Nat) (v : Value) :
    Sep (blk b (cs.set i v) T :: l) (w.setCell ⟨b, i, none⟩ v) := by
  have hr := h.read;refine Sep.upd (o := .cells cs.toArray T) (o' := .cells (cs.set i v).toArray T) h ?_ ?_ rfl rfl
  · simp [World.setCell, Array.getElem?_modify, hr]
  · intro c hc
    simp only [World.setCell, Array.getElem?_modify];rw [if_neg (fun e => hc e.symm)]
end
def Ex (l l' : List HP) : Prop := ∀ (σ : Sig) (h : PH), stars l σ h → ∃ g : PH, (∀ b o, g b = some o → h b = some o) ∧ stars l' σ g
theorem Ex.refl {l : List HP} : Ex l l := fun _ h s => ⟨h, fun _ _ e => e, s⟩
theorem Ex.drop {x : HP} {l l' : List HP} (e : Ex l l') : Ex (x :: l) l' := by
  rintro σ h ⟨x, y, d, rfl, _, s⟩;obtain ⟨g, hg, s'⟩ := e σ y s;refine ⟨g, fun b o e => ?_, s'⟩;have := hg b o e;rcases d b with e' | e' <;> simp_all [PH.uni]
theorem Ex.take {r : HP} {l l1 l2 : List HP} (p : Pk r l l1) (e : Ex l1 l2) : Ex l (r :: l2) := by
  intro σ h s;obtain ⟨x, y, d, rfl, px, s⟩ := (p σ h).1 s;obtain ⟨g, hg, s'⟩ := e σ y s;have dg : PH.disj x g := fun b => by
    rcases d b with e' | e'
    · exact .inl e'
    · right
      cases hgb : g b with
      | none => rfl
      | some o => have := hg b o hgb;simp_all
  refine ⟨PH.uni x g, fun b o e => ?_, x, g, dg, rfl, px, s'⟩;simp only [PH.uni] at e ⊢;cases hx : x b with
  | some u => simpa [hx] using e
  | none => simp [hx] at e ⊢;exact hg b o e
theorem Sep.sub {l l' : List HP} {w : World} (h : Sep l w) (e : Ex l l') : Sep l' w := by
  obtain ⟨h, hs, s⟩ := h;obtain ⟨g, hg, s'⟩ := e _ h s;exact ⟨g, fun b o x => hs b o (hg b o x), s'⟩
theorem Ex.nilapp {l l' : List HP} (h : Ex l l') : Ex l ([] ++ l') := h
theorem Ex.keep {r : HP} {l l' : List HP} (h : Ex l l') : Ex (r :: l) (r :: l') := .take .here h
theorem Ex.of_pk {r : HP} {l l' : List HP} (p : Pk r l l') : Ex l l' := fun σ h s => Ex.drop Ex.refl σ h ((p σ h).1 s)
theorem pkQ {r : HP} {l l' : List HP} (h : Pk r l l' := by repeat (first | with_reducible exact Pk.here | with_reducible apply Pk.there)) : Pk r l l' := h
theorem exQ {l l' : List HP} (h : Ex l l' := by repeat (first | with_reducible exact Ex.refl | (with_reducible apply Ex.take;· repeat (first | with_reducible exact Pk.here | with_reducible apply Pk.there)) | with_reducible apply Ex.drop)) : Ex l l' := h
abbrev Slots := List (Nat × Value)
def lk (t : Nat) : Slots → Option Value
  | [] => none
  | (k, v) :: S => bif Nat.beq t k then some v else lk t S
theorem lk_cons (t k : Nat) (v : Value) (S : Slots) : lk t ((k, v) :: S) = if t = k then some v else lk t S := by
  simp only [lk];by_cases h : t = k
  · subst h;simp
  · simp [h, cond_eq_ite]
structure Has (n : Nat) (a : Act) (S : Slots) : Prop where
  size : a.tmps.size = n
  defers : a.defers = []
  at' : ∀ t v, lk t S = some v → a.tmps[t]? = some v
def ev (S : Slots) : Operand → Option Value
  | .tmp t => lk t S
  | .const v => some v
  | .global g => some (.pointer (some ⟨g, 0, none⟩))
  | .func f => some (.func (.func f) #[] #[])
def evs (S : Slots) : List Operand → Option (List Value)
  | [] => some []
  | x :: xs => match ev S x, evs S xs with
    | some v, some vs => some (v :: vs)
    | _, _ => none
section
variable {n : Nat} {a : Act} {S : Slots}
theorem Has.put (h : Has n a S) (d : Nat) (v : Value) (hd : d < n) : Has n (a.put (some d) v) ((d, v) :: S) := by
  refine ⟨by simp [Act.put, h.size], by simp [Act.put, h.defers], fun t u hl => ?_⟩;simp only [Act.put, lk_cons] at hl ⊢;by_cases ht : t = d
  · subst ht
    simp at hl;subst hl;simp [h.size, hd]
  · rw [if_neg ht] at hl
    rw [Array.getElem?_setIfInBounds_ne (fun e => ht e.symm)];exact h.at' t u hl
theorem Has.ev (h : Has n a S) {x : Operand} {v : Value} (hx : ev S x = some v) : a.eval x = v := by
  cases x with
  | tmp t =>
    have := h.at' t v hx;simp [Act.eval, Array.getD_eq_getD_getElem?, this]
  | const u => simpa [Sx.ev, Act.eval] using hx
  | global g => simpa [Sx.ev, Act.eval] using hx
  | func f => simpa [Sx.ev, Act.eval] using hx
theorem Has.evs (h : Has n a S) : ∀ {xs : List Operand} {vs : List Value}, evs S xs = some vs → xs.map a.eval = vs
  | [], vs, hx => by simpa [Sx.evs] using hx
  | x :: xs, vs, hx => by
    simp only [Sx.evs] at hx;cases hv : Sx.ev S x with
    | none => simp [hv] at hx
    | some v =>
      cases hvs : Sx.evs S xs with
      | none => simp [hv, hvs] at hx
      | some us =>
        simp [hv, hvs] at hx;subst hx;simp [h.ev hv, h.evs hvs]
theorem Has.yielded (h : Has n a S) {ops : Array Oper} {j t : Nat} {b : Bool} (hj : (ops[j]?).bind (·.dst) = some t) (hl : lk t S = some (.bool b)) :
    yielded ops a.tmps j = some b := by
  have := h.at' t _ hl;simp [Go.yielded, hj, this]
theorem Has.yieldedU (h : Has n a S) {ops : Array Oper} {j t : Nat} (hj : (ops[j]?).bind (·.dst) = some t) (hl : lk t S = some undef) : Go.yielded ops a.tmps j = none := by
  have := h.at' t _ hl;simp [Go.yielded, hj, this, undef]
def Le (T S : Slots) : Prop := ∀ t v, lk t T = some v → lk t S = some v
theorem Has.le {T : Slots} (h : Has n a S) (l : Le T S) : Has n a T := ⟨h.size, h.defers, fun t v e => h.at' t v (l t v e)⟩
theorem Le.refl (S : Slots) : Le S S := fun _ _ h => h
theorem Le.nilapp {T S : Slots} (h : Le T S) : Le ([] ++ T) S := h
theorem Le.nil (S : Slots) : Le [] S := fun t v h => by simp [lk] at h
theorem Le.cons {T S : Slots} {t : Nat} {v : Value} (h : lk t S = some v) (l : Le T S) : Le ((t, v) :: T) S := by
  intro u x e;rw [lk_cons] at e
  split at e
  · rename_i hu;subst hu;cases e;exact h
  · exact l u x e
theorem Le.skip {T S : Slots} {k : Nat} {u : Value} (h : lk k T = none) (l : Le T S) : Le T ((k, u) :: S) := by
  intro t v e;rw [lk_cons]
  split
  · rename_i ht;subst ht;rw [h] at e;cases e
  · exact l t v e
def without (M : List Nat) (S : Slots) : Slots := S.filter fun p => !M.any (Nat.beq p.1)
theorem without_cons (M : List Nat) (p : Nat × Value) (S : Slots) : without M (p :: S) = if M.any (Nat.beq p.1) = true then without M S else p :: without M S := by
  simp only [without, List.filter];cases M.any (Nat.beq p.1) <;> simp
theorem lk_without {M : List Nat} {S : Slots} {k : Nat} (h : M.any (Nat.beq k) = true) : lk k (without M S) = none := by
  induction S with
  | nil => rfl
  | cons p S ih =>
    obtain ⟨t, v⟩ := p;rw [without_cons]
    split
    · exact ih
    · rename_i hc
      rw [lk_cons]
      split
      · rename_i hk;subst hk;exact absurd h hc
      · exact ih
theorem Le.without (M : List Nat) (S : Slots) : Le (without M S) S := by
  induction S with
  | nil => exact Le.refl _
  | cons p S ih =>
    obtain ⟨t, v⟩ := p;intro k u e;rw [without_cons] at e
    split at e
    · rename_i hc
      rw [lk_cons]
      split
      · rename_i hk
        subst hk;rw [lk_without hc] at e;cases e
      · exact ih k u e
    · rw [lk_cons] at e ⊢
      by_cases hk : k = t
      · rw [if_pos hk] at e ⊢;exact e
      · rw [if_neg hk] at e ⊢;exact ih k u e
class BT (b : Bool) (t f : outParam Prop) : Prop where
  tt : b = true → t
  ff : b = false → f
instance (priority := 10) (b : Bool) : BT b (b = true) (b = false) := ⟨id, id⟩
instance (priority := 100) (p : Prop) [Decidable p] : BT (decide p) p (¬ p) := ⟨of_decide_eq_true, of_decide_eq_false⟩
instance (x y : Int) : BT (decide (x < y)) (x < y) (y ≤ x) := ⟨of_decide_eq_true, fun h => Int.not_lt.1 (of_decide_eq_false h)⟩
instance (x y : Int) : BT (decide (x ≤ y)) (x ≤ y) (y < x) := ⟨of_decide_eq_true, fun h => Int.not_le.1 (of_decide_eq_false h)⟩
instance (x y : Int) : BT (decide (x ≠ y)) (x ≠ y) (x = y) := ⟨of_decide_eq_true, fun h => Decidable.not_not.1 (of_decide_eq_false h)⟩
instance (x y : Nat) : BT (decide (x < y)) (x < y) (y ≤ x) := ⟨of_decide_eq_true, fun h => Nat.not_lt.1 (of_decide_eq_false h)⟩
instance (b : Bool) (t f : Prop) [h : BT b t f] : BT (!b) f t := ⟨fun e => h.ff (by simpa using e), fun e => h.tt (by simpa using e)⟩
theorem Has.splitB {t : Nat} {e : Bool} {G : Prop} (h : Has n a S) (hl : lk t S = some (.bool e)) {p q : Prop} [hb : BT e p q]
    (ht : p → Has n a ((t, .bool true) :: S) → G) (hf : q → Has n a ((t, .bool false) :: S) → G) : G := by
  cases e with
  | true => exact ht (hb.tt rfl) (h.le (Le.cons hl (Le.refl _)))
  | false => exact hf (hb.ff rfl) (h.le (Le.cons hl (Le.refl _)))
theorem Has.sayB {t : Nat} {e : Bool} (h : Has n a S) (u : Bool) (hl : lk t S = some (.bool e)) (x : e = u) : Has n a ((t, .bool u) :: S) :=
  h.le (Le.cons (x ▸ hl) (Le.refl _))
theorem Has.say {t : Nat} {v : Value} (h : Has n a S) (u : Value) (hl : lk t S = some v) (e : v = u) : Has n a ((t, u) :: S) :=
  h.le (Le.cons (e ▸ hl) (Le.refl _))
end
def Yld (P : Program) (a : Act) (l : List HP) (o : Oper) (v : Value) : Prop := ∀ w, Sep l w → (execOp a.eval o).run P w = .ok (.value v) w
def Rd (l : List HP) (b i : Nat) (v : Value) : Prop := ∀ w, Sep l w → w.cell? ⟨b, i, none⟩ = some v
theorem Rd.blk {l l' : List HP} {b i : Nat} {cs : List Value} {T : TypeId} {v : Value} (p : Pk (Sx.blk b cs T) l l') (h : cs[i]? = some v) : Rd l b i v :=
  fun w hw => by rw [blk_cell (hw.pk p)];exact h
theorem Rd.old {l l' : List HP} {W : World} {b i : Nat} {v : Value} (p : Pk (Sx.old W) l l') (h : W.cell? ⟨b, i, none⟩ = some v) : Rd l b i v := by
  intro w hw;have hb : b < W.heap.size := World.block_lt_of_cell? W _ h;have := (hw.pk p).readOld hb;rw [← h];simp only [World.cell?, this]
def Rds (l : List HP) (b i : Nat) (vs : List Value) : Prop := ∀ w, Sep l w → ∀ j v, vs[j]? = some v → w.cell? ⟨b, i + j, none⟩ = some v
theorem Rds.blk {l l' : List HP} {b i : Nat} {cs vs : List Value} {T : TypeId} (p : Pk (Sx.blk b cs T) l l') (h : (cs.drop i).take vs.length = vs) : Rds l b i vs := by
  intro w hw j v hj;rw [blk_cell (hw.pk p)];rw [← h] at hj;rw [List.getElem?_take] at hj
  split at hj
  · rw [List.getElem?_drop] at hj;exact hj
  · cases hj
theorem Rds.blk0 {l l' : List HP} {b : Nat} {cs : List Value} {T : TypeId} (p : Pk (Sx.blk b cs T) l l') : Rds l b 0 cs :=
  Rds.blk p (by simp)
theorem Rds.old {l l' : List HP} {W : World} {b i : Nat} {vs : List Value} (p : Pk (Sx.old W) l l') (h : ∀ j v, vs[j]? = some v → W.cell? ⟨b, i + j, none⟩ = some v) : Rds l b i vs :=
  fun w hw j v hj => Rd.old p (h j v hj) w hw
theorem Rds.at {l : List HP} {b i j : Nat} {vs : List Value} (h : Rds l b i vs) (e : j = i) : Rds l b j vs := e ▸ h
theorem Rd.at {l : List HP} {b i j : Nat} {v : Value} (h : Rd l b i v) (e : j = i) : Rd l b j v := e ▸ h
theorem flat_len {α : Type} {enc : α → List Value} {m : Nat} (hm : ∀ x, (enc x).length = m) (xs : List α) : (xs.flatMap enc).length = xs.length * m := by
  induction xs with
  | nil => simp
  | cons x xs ih => simp [ih, hm, Nat.succ_mul, Nat.add_comm]
theorem flat_get {α : Type} {enc : α → List Value} {m : Nat} (hm : ∀ x, (enc x).length = m) : ∀ (xs : List α) (rest : List Value) (k j : Nat) (hk : k < xs.length), j < m → (xs.flatMap enc ++ rest)[k * m + j]? = (enc xs[k])[j]?
  | [], _, k, j, hk, _ => by simp at hk
  | x :: xs, rest, 0, j, _, hj => by
    simp only [List.flatMap_cons, Nat.zero_mul, Nat.zero_add, List.append_assoc, List.getElem_cons_zero];rw [List.getElem?_append_left (by rw [hm];exact hj)]
  | x :: xs, rest, k + 1, j, hk, hj => by
    have := flat_get hm xs rest k j (by simpa using hk) hj;simp only [List.flatMap_cons, List.append_assoc, List.getElem_cons_succ];rw [List.getElem?_append_right (by rw [hm, Nat.succ_mul];omega), hm, show (k + 1) * m + j - m = k * m + j from by rw [Nat.succ_mul];omega];exact this
theorem Rds.flat {α : Type} {l l' : List HP} {b k m : Nat} {xs : List α} {rest : List Value} {T : TypeId} {enc : α → List Value} (p : Pk (Sx.blk b (xs.flatMap enc ++ rest) T) l l') (hm : ∀ x, (enc x).length = m) (hk : k < xs.length) : Rds l b (k * m) (enc xs[k]) := by
  intro w hw j v hj;have hjm : j < m := by
    rw [← hm xs[k]];rcases Nat.lt_or_ge j (enc xs[k]).length with h | h
    · exact h
    · rw [List.getElem?_eq_none h] at hj;cases hj
  rw [blk_cell (hw.pk p), flat_get hm xs rest k j hk hjm];exact hj
theorem Rds.rd {l : List HP} {b i : Nat} {vs : List Value} {v : Value} (h : Rds l b i vs) (e : vs[0]? = some v) : Rd l b i v := fun w hw => h w hw 0 v e
theorem Rds.nil {l : List HP} {b i : Nat} : Rds l b i [] := fun _ _ j v h => by simp at h
theorem Rds.cons {l : List HP} {b i : Nat} {v : Value} {vs : List Value} (h : Rd l b i v) (hs : Rds l b (i + 1) vs) : Rds l b i (v :: vs) := by
  intro w hw j u hj;cases j with
  | zero => simp at hj;subst hj;exact h w hw
  | succ j =>
    have := hs w hw j u (by simpa using hj)
    rwa [show i + 1 + j = i + (j + 1) from by omega] at this
section
variable {P : Program} {n : Nat} {a : Act} {S : Slots} {l : List HP} {d : Option Nat} {t : TypeId} {pos : String} {af : Array Edge} {g : Option (Nat × Bool)}
theorem Yld.move {x : Operand} {v : Value} (hS : Has n a S) (hx : ev S x = some v) : Yld P a l ⟨d, .move x, t, pos, af, g⟩ v :=
  fun w _ => by simp only [execOp, hS.ev hx];rfl
theorem Yld.assign {x : Operand} {v : Value} (hS : Has n a S) (hx : ev S x = some v) : Yld P a l ⟨d, .assign x, t, pos, af, g⟩ v :=
  fun w _ => by simp only [execOp, hS.ev hx];rfl
theorem Yld.pickT {c x y : Operand} {v : Value} (hS : Has n a S) (hc : ev S c = some (.bool true)) (hx : ev S x = some v) : Yld P a l ⟨d, .pick c x y, t, pos, af, g⟩ v :=
  fun w _ => by simp [execOp, hS.ev hc, hS.ev hx, asBool]
theorem Yld.pickF {c x y : Operand} {v : Value} (hS : Has n a S) (hc : ev S c = some (.bool false)) (hx : ev S y = some v) : Yld P a l ⟨d, .pick c x y, t, pos, af, g⟩ v :=
  fun w _ => by simp [execOp, hS.ev hc, hS.ev hx, asBool]
theorem Yld.extract {x : Operand} {vs : List Value} {i : Nat} {v : Value} (hS : Has n a S) (hx : ev S x = some (.tuple vs.toArray)) (hi : vs[i]? = some v) : Yld P a l ⟨d, .extract x i, t, pos, af, g⟩ v :=
  fun w _ => by simp [execOp, hS.ev hx, Instr.extract, hi]
theorem Yld.not {x : Operand} {ty : TypeId} {b : Bool} (hS : Has n a S) (hx : ev S x = some (.bool b)) : Yld P a l ⟨d, .unOp .not ty x, t, pos, af, g⟩ (.bool !b) :=
  fun w _ => by simp [execOp, hS.ev hx, Op.unary]
theorem Yld.nilCheck {x : Operand} {p : Addr} (hS : Has n a S) (hx : ev S x = some (.pointer (some p))) : Yld P a l ⟨d, .nilCheck x, t, pos, af, g⟩ (.pointer (some p)) :=
  fun w _ => by simp [execOp, hS.ev hx]
theorem Yld.makeFunc {fn : Fn} {xs ys : List Operand} {vs us : List Value} (hS : Has n a S) (hx : evs S xs = some vs) (hy : evs S ys = some us) : Yld P a l ⟨d, .makeFunc fn xs.toArray ys.toArray, t, pos, af, g⟩ (.func fn vs.toArray us.toArray) :=
  fun w _ => by simp [execOp, Instr.makeFunc, List.map_toArray, hS.evs hx, hS.evs hy]
theorem Yld.convInt {x : Operand} {s u : TypeId} {k k' : IntKind} {m : Int} (hS : Has n a S) (hx : ev S x = some (.int k m)) (hs : (P.underlying s).isSome = true) (hu : P.underlying u = some (.int k')) :
    Yld P a l ⟨d, .convert s u x, t, pos, af, g⟩ (.int k' (k'.wrap m)) := by
  intro w _;obtain ⟨ds, hs'⟩ := Option.isSome_iff_exists.1 hs;cases ds <;> simp [execOp, hS.ev hx, convert, run_underlying hs', run_underlying hu, Conv.intToInt]
section ints
variable {x y : Operand} {ty ty' : TypeId} {k : IntKind} {p q : Int}
theorem Yld.add (hS : Has n a S) (hx : ev S x = some (.int k p)) (hy : ev S y = some (.int k q)) : Yld P a l ⟨d, .binOp .add ty x y ty', t, pos, af, g⟩ (.int k (k.wrap (p + q))) :=
  fun w _ => by simp [execOp, hS.ev hx, hS.ev hy, eqGuard, binOp, Op.intArith]
theorem Yld.sub (hS : Has n a S) (hx : ev S x = some (.int k p)) (hy : ev S y = some (.int k q)) : Yld P a l ⟨d, .binOp .sub ty x y ty', t, pos, af, g⟩ (.int k (k.wrap (p - q))) :=
  fun w _ => by simp [execOp, hS.ev hx, hS.ev hy, eqGuard, binOp, Op.intArith]
theorem Yld.mul (hS : Has n a S) (hx : ev S x = some (.int k p)) (hy : ev S y = some (.int k q)) : Yld P a l ⟨d, .binOp .mul ty x y ty', t, pos, af, g⟩ (.int k (k.wrap (p * q))) :=
  fun w _ => by simp [execOp, hS.ev hx, hS.ev hy, eqGuard, binOp, Op.intArith]
theorem Yld.add64 (hS : Has n a S) (hx : ev S x = some (.int .i64 p)) (hy : ev S y = some (.int .i64 q)) (hb : -9223372036854775808 ≤ p + q ∧ p + q ≤ 9223372036854775807) : Yld P a l ⟨d, .binOp .add ty x y ty', t, pos, af, g⟩ (.int .i64 (p + q)) := by
  have h := Yld.add (P := P) (l := l) (d := d) (ty := ty) (ty' := ty') (t := t) (pos := pos) (af := af) (g := g) hS hx hy;rw [IntWalk.i64_in _ hb] at h;exact h
theorem Yld.sub64 (hS : Has n a S) (hx : ev S x = some (.int .i64 p)) (hy : ev S y = some (.int .i64 q)) (hb : -9223372036854775808 ≤ p - q ∧ p - q ≤ 9223372036854775807) : Yld P a l ⟨d, .binOp .sub ty x y ty', t, pos, af, g⟩ (.int .i64 (p - q)) := by
  have h := Yld.sub (P := P) (l := l) (d := d) (ty := ty) (ty' := ty') (t := t) (pos := pos) (af := af) (g := g) hS hx hy;rw [IntWalk.i64_in _ hb] at h;exact h
theorem Yld.mul64 (hS : Has n a S) (hx : ev S x = some (.int .i64 p)) (hy : ev S y = some (.int .i64 q)) (hb : -9223372036854775808 ≤ p * q ∧ p * q ≤ 9223372036854775807) : Yld P a l ⟨d, .binOp .mul ty x y ty', t, pos, af, g⟩ (.int .i64 (p * q)) := by
  have h := Yld.mul (P := P) (l := l) (d := d) (ty := ty) (ty' := ty') (t := t) (pos := pos) (af := af) (g := g) hS hx hy;rw [IntWalk.i64_in _ hb] at h;exact h
theorem Yld.quo (hS : Has n a S) (hx : ev S x = some (.int k p)) (hy : ev S y = some (.int k q)) (h0 : q ≠ 0) : Yld P a l ⟨d, .binOp .quo ty x y ty', t, pos, af, g⟩ (.int k (k.wrap (p.tdiv q))) :=
  fun w _ => by simp [execOp, hS.ev hx, hS.ev hy, eqGuard, binOp, Op.intDiv, h0]
theorem Yld.rem (hS : Has n a S) (hx : ev S x = some (.int k p)) (hy : ev S y = some (.int k q)) (h0 : q ≠ 0) : Yld P a l ⟨d, .binOp .rem ty x y ty', t, pos, af, g⟩ (.int k (p.tmod q)) :=
  fun w _ => by simp [execOp, hS.ev hx, hS.ev hy, eqGuard, binOp, Op.intDiv, h0]
theorem Yld.quo64 (hS : Has n a S) (hx : ev S x = some (.int .i64 p)) (hy : ev S y = some (.int .i64 q)) (hb : 0 ≤ p ∧ p ≤ 9223372036854775807 ∧ 1 ≤ q) : Yld P a l ⟨d, .binOp .quo ty x y ty', t, pos, af, g⟩ (.int .i64 (p / q)) := by
  have h := Yld.quo (P := P) (l := l) (d := d) (ty := ty) (ty' := ty') (t := t) (pos := pos) (af := af) (g := g) hS hx hy (by omega);rw [IntWalk.i64_quo _ _ hb] at h;exact h
theorem Yld.rem64 (hS : Has n a S) (hx : ev S x = some (.int k p)) (hy : ev S y = some (.int k q)) (hb : 0 ≤ p ∧ 1 ≤ q) : Yld P a l ⟨d, .binOp .rem ty x y ty', t, pos, af, g⟩ (.int k (p % q)) := by
  have h := Yld.rem (P := P) (l := l) (d := d) (ty := ty) (ty' := ty') (t := t) (pos := pos) (af := af) (g := g) hS hx hy (by omega);rw [IntWalk.rem_in _ _ hb.1] at h;exact h
theorem Yld.lss (hS : Has n a S) (hx : ev S x = some (.int k p)) (hy : ev S y = some (.int k q)) : Yld P a l ⟨d, .binOp .lss ty x y ty', t, pos, af, g⟩ (.bool (decide (p < q))) :=
  fun w _ => by simp [execOp, hS.ev hx, hS.ev hy, eqGuard, binOp, Op.intCmp]
theorem Yld.leq (hS : Has n a S) (hx : ev S x = some (.int k p)) (hy : ev S y = some (.int k q)) : Yld P a l ⟨d, .binOp .leq ty x y ty', t, pos, af, g⟩ (.bool (decide (p ≤ q))) :=
  fun w _ => by simp [execOp, hS.ev hx, hS.ev hy, eqGuard, binOp, Op.intCmp]
theorem Yld.gtr (hS : Has n a S) (hx : ev S x = some (.int k p)) (hy : ev S y = some (.int k q)) : Yld P a l ⟨d, .binOp .gtr ty x y ty', t, pos, af, g⟩ (.bool (decide (q < p))) :=
  fun w _ => by simp [execOp, hS.ev hx, hS.ev hy, eqGuard, binOp, Op.intCmp]
theorem Yld.geq (hS : Has n a S) (hx : ev S x = some (.int k p)) (hy : ev S y = some (.int k q)) : Yld P a l ⟨d, .binOp .geq ty x y ty', t, pos, af, g⟩ (.bool (decide (q ≤ p))) :=
  fun w _ => by simp [execOp, hS.ev hx, hS.ev hy, eqGuard, binOp, Op.intCmp]
theorem Yld.eql (hS : Has n a S) (hx : ev S x = some (.int k p)) (hy : ev S y = some (.int k q)) : Yld P a l ⟨d, .binOp .eql ty x y ty', t, pos, af, g⟩ (.bool (decide (p = q))) :=
  fun w _ => by simp [execOp, hS.ev hx, hS.ev hy, eqGuard, binOp, Op.intCmp];by_cases h : p = q <;> simp [h]
theorem Yld.neq (hS : Has n a S) (hx : ev S x = some (.int k p)) (hy : ev S y = some (.int k q)) : Yld P a l ⟨d, .binOp .neq ty x y ty', t, pos, af, g⟩ (.bool (decide (p ≠ q))) :=
  fun w _ => by simp [execOp, hS.ev hx, hS.ev hy, eqGuard, binOp, Op.intCmp];by_cases h : p = q <;> simp [h]
end ints
theorem Yld.eqlB {x y : Operand} {ty ty' : TypeId} {p q : Bool} (hS : Has n a S) (hx : ev S x = some (.bool p)) (hy : ev S y = some (.bool q)) (hu : P.underlying ty = some .bool) : Yld P a l ⟨d, .binOp .eql ty x y ty', t, pos, af, g⟩ (.bool (p == q)) :=
  fun w _ => by simp only [execOp, hS.ev hx, hS.ev hy, eqGuard_at_bool, Sem.run_bind, Sem.run_pure, Result.andThen_ok, run_eql_bool w ty p q hu]
theorem Yld.neqB {x y : Operand} {ty ty' : TypeId} {p q : Bool} (hS : Has n a S) (hx : ev S x = some (.bool p)) (hy : ev S y = some (.bool q)) (hu : P.underlying ty = some .bool) : Yld P a l ⟨d, .binOp .neq ty x y ty', t, pos, af, g⟩ (.bool (!(p == q))) :=
  fun w _ => by simp only [execOp, hS.ev hx, hS.ev hy, eqGuard_at_bool, Sem.run_bind, Sem.run_pure, Result.andThen_ok, run_neq_bool w ty p q hu]
theorem Yld.eqlNil {x : Operand} {y : Operand} {ty ty' : TypeId} {p : Option Addr} (hS : Has n a S) (hx : ev S x = some (.pointer p)) (hy : ev S y = some (.pointer none)) (hu : P.underlying ty = some (.pointer (P.pointee ty))) : Yld P a l ⟨d, .binOp .eql ty x y ty', t, pos, af, g⟩ (.bool p.isNone) :=
  fun w _ => by simp only [execOp, hS.ev hx, hS.ev hy, eqGuard_at_pointer, Sem.run_bind, Sem.run_pure, Result.andThen_ok, run_eql_pointer_nil w ty p hu]
theorem Yld.neqNil {x : Operand} {y : Operand} {ty ty' : TypeId} {p : Option Addr} (hS : Has n a S) (hx : ev S x = some (.pointer p)) (hy : ev S y = some (.pointer none)) (hu : P.underlying ty = some (.pointer (P.pointee ty))) : Yld P a l ⟨d, .binOp .neq ty x y ty', t, pos, af, g⟩ (.bool (!p.isNone)) :=
  fun w _ => by simp only [execOp, hS.ev hx, hS.ev hy, eqGuard_at_pointer, Sem.run_bind, Sem.run_pure, Result.andThen_ok, run_neq_pointer_nil w ty p hu]
theorem Yld.binRun {op : BinOp} {x y : Operand} {ty ty' : TypeId} {u v r : Value} (hS : Has n a S) (hx : ev S x = some u) (hy : ev S y = some v)
    (h : ∀ w, (do eqGuard op ty x y u v;binOp op ty u v : Sem Value).run P w = .ok r w) : Yld P a l ⟨d, .binOp op ty x y ty', t, pos, af, g⟩ r := by
  intro w _;have := h w;simp only [Sem.run_bind] at this;simp only [execOp, hS.ev hx, hS.ev hy, Sem.run_bind];generalize (eqGuard op ty x y u v).run P w = z at *;cases z with
  | ok _ w' => simp only [Result.andThen_ok] at *;rw [this];rfl
  | halt _ w' => cases this
theorem Yld.build {ty : TypeId} {ps : List (Nat × Operand)} {vs : List Value} {r : Value} (hS : Has n a S) (hx : evs S (ps.map (·.2)) = some vs)
    (h : ∀ w, (Instr.build ty ((ps.map (·.1)).zip vs).toArray).run P w = .ok r w) : Yld P a l ⟨d, .build ty ps.toArray, t, pos, af, g⟩ r := by
  intro w _;have e : (ps.map fun (i, x) => (i, a.eval x)) = (ps.map (·.1)).zip vs := by
    rw [← hS.evs hx];clear hx h
    induction ps with
    | nil => rfl
    | cons p ps ih => simp [ih]
  simp only [execOp, List.map_toArray, e, Sem.run_bind, h w];rfl
theorem Yld.neg {x : Operand} {ty : TypeId} {k : IntKind} {m : Int} (hS : Has n a S) (hx : ev S x = some (.int k m)) : Yld P a l ⟨d, .unOp .neg ty x, t, pos, af, g⟩ (.int k (k.wrap (0 - m))) :=
  fun w _ => by simp [execOp, hS.ev hx, Op.unary, Op.intArith]
theorem Yld.fieldAddr {s : TypeId} {x : Operand} {f : Nat} {b i : Nat} {fs : Array Field} {fd : Field} {z : TypeInfo} (hS : Has n a S) (hx : ev S x = some (.pointer (some ⟨b, i, none⟩)))
    (o : Nat) (hu : P.underlying s = some (.struct fs)) (hf : fs[f]? = some fd) (ho : fd.offset = o) (hi : P.info? fd.type = some z) (hz : z.size ≠ 0) :
    Yld P a l ⟨d, .fieldAddr s x f, t, pos, af, g⟩ (.pointer (some ⟨b, i + o, none⟩)) := by
  intro w _;subst ho;have hs : (sizeOf fd.type).run P w = .ok z.size w := by simp [sizeOf, typeInfo, hi]
  simp [execOp, hS.ev hx, Instr.fieldAt, run_underlying hu, hf, Instr.sureAddr, fieldPlace, hs, hz, Addr.add_lit]
theorem Yld.load1 {ty : TypeId} {x : Operand} {b i : Nat} {v : Value} {dd : TypeDesc} (hS : Has n a S) (hx : ev S x = some (.pointer (some ⟨b, i, none⟩)))
    (hu : P.underlying ty = some dd) (hna : (match dd with | .struct _ | .array _ _ => true | _ => false) = false) (hr : Rd l b i v) :
    Yld P a l ⟨d, .load ty x, t, pos, af, g⟩ v := by
  intro w hw;have ha : (isAgg ty).run P w = .ok false w := by
    simp only [isAgg, Sem.run_bind, run_underlying hu, Result.andThen_ok];cases dd <;> simp_all
  simp [execOp, hS.ev hx, Instr.loadAt, Instr.sureAddr, loadVar, ha, hr w hw]
theorem Yld.loadAgg {ty : TypeId} {x : Operand} {b i : Nat} {vs : List Value} {dd : TypeDesc} {z : TypeInfo} (hS : Has n a S) (hx : ev S x = some (.pointer (some ⟨b, i, none⟩)))
    (hu : P.underlying ty = some dd) (hna : (match dd with | .struct _ | .array _ _ => true | _ => false) = true) (hi : P.info? ty = some z) (hr : Rds l b i vs) (hz : z.size = vs.length) :
    Yld P a l ⟨d, .load ty x, t, pos, af, g⟩ (.agg vs.toArray) := by
  intro w hw;have ha : (isAgg ty).run P w = .ok true w := by
    simp only [isAgg, Sem.run_bind, run_underlying hu, Result.andThen_ok];cases dd <;> simp_all
  have hs : (sizeOf ty).run P w = .ok vs.length w := by simp [sizeOf, typeInfo, hi, hz]
  have hl := run_loadCells_list (P := P) w ⟨b, i, none⟩ vs (fun j v hj => by rw [Addr.add_lit];exact hr w hw j v hj);simp [execOp, hS.ev hx, Instr.loadAt, Instr.sureAddr, loadVar, ha, hs, hl]
theorem Yld.indexSlice {ty e : TypeId} {x y : Operand} {b i len cap : Nat} {k : IntKind} {m : Int} {z : TypeInfo} (hS : Has n a S) (hx : ev S x = some (.slice (some ⟨b, i, none⟩) len cap)) (hy : ev S y = some (.int k m))
    (hu : P.underlying ty = some (.slice e)) (hi : P.info? e = some z) (h0 : 0 ≤ m) (h1 : m < len) :
    Yld P a l ⟨d, .indexAddr ty x y, t, pos, af, g⟩ (.pointer (some ⟨b, i + m.toNat * z.size, none⟩)) := by
  intro w _;have hs : (sizeOf e).run P w = .ok z.size w := by simp [sizeOf, typeInfo, hi]
  simp [execOp, hS.ev hx, hS.ev hy, Instr.indexAt, asIntOf, run_underlying hu, h0, h1, hs, Addr.add_lit]
theorem Yld.indexArr {ty e : TypeId} {x y : Operand} {b i len : Nat} {k : IntKind} {m : Int} {z : TypeInfo} (hS : Has n a S) (hx : ev S x = some (.pointer (some ⟨b, i, none⟩))) (hy : ev S y = some (.int k m))
    (hu : P.underlying ty = some (.array len e)) (hi : P.info? e = some z) (h0 : 0 ≤ m) (h1 : m < len) :
    Yld P a l ⟨d, .indexAddr ty x y, t, pos, af, g⟩ (.pointer (some ⟨b, i + m.toNat * z.size, none⟩)) := by
  intro w _;have hs : (sizeOf e).run P w = .ok z.size w := by simp [sizeOf, typeInfo, hi]
  simp [execOp, hS.ev hx, hS.ev hy, Instr.indexAt, asIntOf, run_underlying hu, h0, h1, hs, Addr.add_lit, Instr.sureAddr]
theorem Yld.len {x : Operand} {ty e : TypeId} {r : Option Addr} {len cap : Nat} (hS : Has n a S) (hx : ev S x = some (.slice r len cap)) (hu : P.underlying ty = some (.slice e)) :
    Yld P a l ⟨d, .call { callee := .builtin .len, args := [x].toArray, argTypes := [ty].toArray }, t, pos, af, g⟩ (.int .i64 len) := by
  intro w _;simp [execOp, resolve, hS.ev hx, invoke, builtin, Builtin.len_, run_underlying hu, goInt]
theorem Yld.min {x y : Operand} {ts : Array TypeId} {k : IntKind} {p q : Int} (hS : Has n a S) (hx : ev S x = some (.int k p)) (hy : ev S y = some (.int k q)) :
    Yld P a l ⟨d, .call { callee := .builtin .min, args := [x, y].toArray, argTypes := ts }, t, pos, af, g⟩ (.int k (Min.min p q)) := by
  intro w _;have : (if q < p then q else p) = Min.min p q := by split <;> omega
  simp [execOp, resolve, hS.ev hx, hS.ev hy, invoke, builtin, Builtin.min_, Builtin.min2, this]
theorem Yld.max {x y : Operand} {ts : Array TypeId} {k : IntKind} {p q : Int} (hS : Has n a S) (hx : ev S x = some (.int k p)) (hy : ev S y = some (.int k q)) :
    Yld P a l ⟨d, .call { callee := .builtin .max, args := [x, y].toArray, argTypes := ts }, t, pos, af, g⟩ (.int k (Max.max p q)) := by
  intro w _;have : (if p < q then q else p) = Max.max p q := by split <;> omega
  simp [execOp, resolve, hS.ev hx, hS.ev hy, invoke, builtin, Builtin.max_, Builtin.max2, this]
end
def CallR (P : Program) (f : FuncId) (args : List Value) (w : World) (Φ : Value → World → Prop) : Prop :=
  Calls P f args.toArray w fun e w' => ∃ v, e = .returned v ∧ Φ v w'
theorem CallR.mono {P : Program} {f : FuncId} {args : List Value} {w : World} {Φ Φ' : Value → World → Prop} (h : CallR P f args w Φ) (hm : ∀ v w', Φ v w' → Φ' v w') : CallR P f args w Φ' :=
  Calls.mono h fun e w' ⟨v, he, hp⟩ => ⟨v, he, hm v w' hp⟩
section
variable {P : Program} {ops : Array Oper} {Q : Exit → Act → World → Prop} {n : Nat} {a : Act} {S : Slots} {l : List HP} {w : World} {rest : List Oper}
  {d : Nat} {op : Op} {t : TypeId} {pos : String} {af : Array Edge} {o : Oper}
theorem sA {v : Value} (hS : Has n a S) (hR : Sep l w) (hy : Yld P a l ⟨some d, op, t, pos, af, none⟩ v) (hd : d < n)
    (k : ∀ a', Has n a' ((d, v) :: S) → wpList P ops Q rest a' w) : wpList P ops Q (⟨some d, op, t, pos, af, none⟩ :: rest) a w := by
  unfold wpList;simp only [Region.wanted, if_true, Oper.wp, hy w hR, Oper.upon];exact .inl (k _ (hS.put d v hd))
theorem sAg {v : Value} {j tj : Nat} {b : Bool} (hS : Has n a S) (hR : Sep l w) (hj : (ops[j]?).bind (·.dst) = some tj) (hg : lk tj S = some (.bool b))
    (hy : Yld P a l ⟨some d, op, t, pos, af, some (j, b)⟩ v) (hd : d < n)
    (k : ∀ a', Has n a' ((d, v) :: S) → wpList P ops Q rest a' w) : wpList P ops Q (⟨some d, op, t, pos, af, some (j, b)⟩ :: rest) a w := by
  have hw : Region.wanted (⟨some d, op, t, pos, af, some (j, b)⟩ : Oper) (yielded ops a.tmps) = true := by simp [Region.wanted, hS.yielded hj hg]
  unfold wpList;rw [if_pos hw];simp only [Oper.wp, hy w hR, Oper.upon];exact .inl (k _ (hS.put d v hd))
theorem sSkip {j tj : Nat} {b c : Bool} (hS : Has n a S) (hj : (ops[j]?).bind (·.dst) = some tj) (hg : lk tj S = some (.bool c)) (hbc : (c == b) = false) (hd : d < n)
    (k : ∀ a', Has n a' ((d, undef) :: S) → wpList P ops Q rest a' w) : wpList P ops Q (⟨some d, op, t, pos, af, some (j, b)⟩ :: rest) a w := by
  have hw : Region.wanted (⟨some d, op, t, pos, af, some (j, b)⟩ : Oper) (yielded ops a.tmps) = false := by
    simp only [Region.wanted, hS.yielded hj hg];cases b <;> cases c <;> simp_all
  unfold wpList;rw [if_neg (by simp [hw])];exact k _ (hS.put d undef hd)
theorem sB {dd : Option Nat} (h : Oper.wp P ⟨dd, op, t, pos, af, none⟩ a w (wpList P ops Q rest) Q) : wpList P ops Q (⟨dd, op, t, pos, af, none⟩ :: rest) a w := by
  unfold wpList;simp only [Region.wanted, if_true];exact .inl h
theorem sBg {dd : Option Nat} {j tj : Nat} {b : Bool} (hS : Has n a S) (hj : (ops[j]?).bind (·.dst) = some tj) (hg : lk tj S = some (.bool b))
    (h : Oper.wp P ⟨dd, op, t, pos, af, some (j, b)⟩ a w (wpList P ops Q rest) Q) : wpList P ops Q (⟨dd, op, t, pos, af, some (j, b)⟩ :: rest) a w := by
  have hw : Region.wanted (⟨dd, op, t, pos, af, some (j, b)⟩ : Oper) (yielded ops a.tmps) = true := by simp [Region.wanted, hS.yielded hj hg]
  unfold wpList;rw [if_pos hw];exact .inl h
variable {K : Act → World → Prop} {g : Option (Nat × Bool)}
theorem Bbox {T : TypeId} {x : Operand} {v : Value} {cs : List Value} (hS : Has n a S) (hR : Sep l w) (hx : ev S x = some v) (hc : v.cells = cs.toArray) (hd : d < n)
    (k : ∀ a' w' b, Has n a' ((d, .pointer (some ⟨b, 0, none⟩)) :: S) → Sep (blk b cs T :: l) w' → K a' w') : Oper.wp P ⟨some d, .box T x, t, pos, af, g⟩ a w K Q := by
  have hr : (execOp a.eval ⟨some d, .box T x, t, pos, af, g⟩).run P w = .ok (.value (.pointer (some ⟨w.heap.size, 0, none⟩))) (w.alloc (.cells cs.toArray T)) := by
    simp [execOp, hS.ev hx, Instr.box, newVar, newRow, hc]
  unfold Oper.wp;rw [hr];exact k _ _ _ (hS.put d _ hd) (hR.new _)
theorem Balloc {T : TypeId} {z : Value} {cs : List Value} {i : TypeInfo} (hS : Has n a S) (hR : Sep l w) (hi : P.info? T = some i) (hz : i.zero = some z) (hc : z.cells = cs.toArray) (hd : d < n)
    (k : ∀ a' w' b, Has n a' ((d, .pointer (some ⟨b, 0, none⟩)) :: S) → Sep (blk b cs T :: l) w' → K a' w') : Oper.wp P ⟨some d, .alloc T, t, pos, af, g⟩ a w K Q := by
  have hr : (execOp a.eval ⟨some d, .alloc T, t, pos, af, g⟩).run P w = .ok (.value (.pointer (some ⟨w.heap.size, 0, none⟩))) (w.alloc (.cells cs.toArray T)) := by
    simp [execOp, Instr.alloc, zeroValue, typeInfo, hi, hz, newVar, newRow, hc]
  unfold Oper.wp;rw [hr];exact k _ _ _ (hS.put d _ hd) (hR.new _)
theorem BbuildSlice {ty : TypeId} {len : Nat} {ps : List (Nat × Operand)} {vs cs : List Value} {T : TypeId} (hS : Has n a S) (hR : Sep l w) (hx : evs S (ps.map (·.2)) = some vs)
    (h : ∀ w, (Instr.buildSlice ty len ((ps.map (·.1)).zip vs).toArray).run P w = .ok (.slice (some ⟨w.heap.size, 0, none⟩) len len) (w.alloc (.cells cs.toArray T))) (hd : d < n)
    (k : ∀ a' w' b, Has n a' ((d, .slice (some ⟨b, 0, none⟩) len len) :: S) → Sep (blk b cs T :: l) w' → K a' w') : Oper.wp P ⟨some d, .buildSlice ty len ps.toArray, t, pos, af, g⟩ a w K Q := by
  have e : (ps.map fun (i, x) => (i, a.eval x)) = (ps.map (·.1)).zip vs := by
    rw [← hS.evs hx];clear hx h
    induction ps with
    | nil => rfl
    | cons p ps ih => simp [ih]
  have hr : (execOp a.eval ⟨some d, .buildSlice ty len ps.toArray, t, pos, af, g⟩).run P w = .ok (.value (.slice (some ⟨w.heap.size, 0, none⟩) len len)) (w.alloc (.cells cs.toArray T)) := by
    simp only [execOp, List.map_toArray, e, Sem.run_bind, h w];rfl
  unfold Oper.wp;rw [hr];exact k _ _ _ (hS.put d _ hd) (hR.new _)
def lay (cs : List Value) (i : Nat) : List Value → List Value
  | [] => cs
  | v :: vs => lay (cs.set i v) (i + 1) vs
theorem run_storeCells {b : Nat} {T : TypeId} (vs : List Value) (base : Nat) : ∀ (cs : List Value) (i : Nat) (w : World), Sep (blk b cs T :: l) w → (∀ v ∈ vs, v.oneCell' = true) → base + i + vs.length ≤ cs.length →
    ∃ w', (storeCells ⟨b, base, none⟩ vs i).run P w = .ok () w' ∧ Sep (blk b (lay cs (base + i) vs) T :: l) w' := by
  induction vs with
  | nil => intro cs i w hw _ _;exact ⟨w, rfl, hw⟩
  | cons v vs ih =>
    intro cs i w hw h1 hl;have hv : v.oneCell' = true := h1 v (List.mem_cons_self);simp only [List.length_cons] at hl;have hc : w.cell? ⟨b, base + i, none⟩ = some cs[base + i] := by rw [blk_cell hw];exact List.getElem?_eq_getElem (by omega)
    have hst : (store ((⟨b, base, none⟩ : Addr).add i) v).run P w = .ok () (w.setCell ⟨b, base + i, none⟩ v) := by
      rw [run_store P w _ v _ hv, Addr.add_lit, hc];simp [blk_frozen hw]
    obtain ⟨w', hr, hs⟩ := ih (cs.set (base + i) v) (i + 1) _ (blk_set hw (base + i) v) (fun u hu => h1 u (List.mem_cons_of_mem _ hu)) (by simp;omega);refine ⟨w', ?_, hs⟩;simp only [storeCells, Sem.run_bind, hst, Result.andThen_ok];exact hr
theorem Bstore {ty : TypeId} {x y : Operand} {b i : Nat} {v : Value} {vs cs : List Value} {T : TypeId} {l' : List HP} {z : TypeInfo} (hS : Has n a S) (hR : Sep l w) (hx : ev S x = some (.pointer (some ⟨b, i, none⟩))) (hy : ev S y = some v)
    (hv : v.cells = vs.toArray) (hi : P.info? ty = some z) (hz : z.size = vs.length) (p : Pk (blk b cs T) l l') (h1 : vs.all Value.oneCell' = true) (hl : i + vs.length ≤ cs.length)
    (k : ∀ w', Sep (blk b (lay cs i vs) T :: l') w' → K a w') : Oper.wp P ⟨none, .store ty x y, t, pos, af, g⟩ a w K Q := by
  obtain ⟨w', hr, hs⟩ := run_storeCells (P := P) vs i cs 0 w (hR.pk p) (by simpa using h1) (by simpa using hl);have hsz : (sizeOf ty).run P w = .ok vs.length w := by simp [sizeOf, typeInfo, hi, hz]
  have hr' : (execOp a.eval ⟨none, .store ty x y, t, pos, af, g⟩).run P w = .ok .skip w' := by
    simp [execOp, hS.ev hx, hS.ev hy, Instr.storeAt, Instr.sureAddr, storeVar, hsz, hv, hr]
  unfold Oper.wp;rw [hr'];exact k w' hs
theorem Bcall {f : FuncId} {xs : List Operand} {vs : List Value} {ts : Array TypeId} {Φ : Value → World → Prop} (hS : Has n a S) (hx : evs S xs = some vs)
    (hf : ∀ as w, (callFunc f as).run P w = .ok (.enter f as) w) (hc : CallR P f vs w Φ) (hd : d < n)
    (k : ∀ a' w' v, Has n a' ((d, v) :: S) → Φ v w' → K a' w') : Oper.wp P ⟨some d, .call { callee := .value (.func f), args := xs.toArray, argTypes := ts }, t, pos, af, g⟩ a w K Q := by
  have hr : (execOp a.eval ⟨some d, .call { callee := .value (.func f), args := xs.toArray, argTypes := ts }, t, pos, af, g⟩).run P w = .ok (.enter f vs.toArray) w := by
    simp only [execOp, resolve, List.map_toArray, hS.evs hx, Act.eval, Deferred.ofValue, Sem.run_bind, Sem.run_pure, Result.andThen_ok, invoke];simpa using hf vs.toArray w
  unfold Oper.wp;rw [hr];simp only [Oper.upon];refine Calls.mono hc fun e w' he => ?_;obtain ⟨v, rfl, hp⟩ := he;exact k _ w' v (hS.put d v hd) hp
theorem BcallV {f : FuncId} {x : Operand} {first caps : List Value} {xs : List Operand} {vs : List Value} {ts : Array TypeId} {Φ : Value → World → Prop} (hS : Has n a S) (h0 : ev S x = some (.func (.func f) first.toArray caps.toArray)) (hx : evs S xs = some vs)
    (hf : ∀ as w, (callFunc f as).run P w = .ok (.enter f as) w) (hc : CallR P f (first ++ vs ++ caps) w Φ) (hd : d < n)
    (k : ∀ a' w' v, Has n a' ((d, v) :: S) → Φ v w' → K a' w') : Oper.wp P ⟨some d, .call { callee := .value x, args := xs.toArray, argTypes := ts }, t, pos, af, g⟩ a w K Q := by
  have hr : (execOp a.eval ⟨some d, .call { callee := .value x, args := xs.toArray, argTypes := ts }, t, pos, af, g⟩).run P w = .ok (.enter f (first ++ vs ++ caps).toArray) w := by
    simp only [execOp, resolve, List.map_toArray, hS.evs hx, hS.ev h0, Deferred.ofValue, Sem.run_bind, Sem.run_pure, Result.andThen_ok, invoke];simpa using hf (first ++ vs ++ caps).toArray w
  unfold Oper.wp;rw [hr];simp only [Oper.upon];refine Calls.mono hc fun e w' he => ?_;obtain ⟨v, rfl, hp⟩ := he;exact k _ w' v (hS.put d v hd) hp
def entry (i : Nat) : List Value → Slots
  | [] => []
  | v :: vs => (i, v) :: entry (i + 1) vs
theorem lookup_entry : ∀ (vs : List Value) (i t : Nat) (v : Value), lk t (entry i vs) = some v → i ≤ t ∧ vs[t - i]? = some v
  | [], i, t, v, h => by simp [entry, lk] at h
  | u :: vs, i, t, v, h => by
    simp only [entry, lk_cons] at h;by_cases ht : t = i
    · subst ht;simp at h;subst h;simp
    · rw [if_neg ht] at h
      obtain ⟨h1, h2⟩ := lookup_entry vs (i + 1) t v h;refine ⟨by omega, ?_⟩;rw [show t - i = (t - (i + 1)) + 1 from by omega];simpa using h2
def Post (P : Program) (fn : Func) (Φ : Value → World → Prop) : Exit → Act → World → Prop := bodyPost P fn fun e w' => ∃ v, e = .returned v ∧ Φ v w'
theorem enter {f : FuncId} {fn : Func} {c : Code} {vs : List Value} {m : Nat} {Φ : Value → World → Prop} (hf : P.funcs[f]? = some fn) (hb : fn.body = some c) (hn : fn.ntmps = m) (hl : vs.length ≤ m)
    (h : ∀ a, Has m a (entry 0 vs) → c.wp P (Post P fn Φ) a w) : CallR P f vs w Φ := by
  refine calls_of_wp hf hb (h _ ?_);refine ⟨by simp [hn];omega, rfl, fun t v ht => ?_⟩;obtain ⟨_, h2⟩ := lookup_entry vs 0 t v ht;simp only [Nat.sub_zero] at h2;have hlt : t < vs.length := by
    rcases Nat.lt_or_ge t vs.length with h' | h'
    · exact h'
    · simp [List.getElem?_eq_none h'] at h2
  show (vs.toArray ++ _)[t]? = some v;rw [Array.getElem?_append_left (by simpa using hlt)];simpa using h2
def resOf (tmps : Array Value) : ResultVar → Sem Value
  | .tmp t => pure (tmps.getD t undef)
  | .cell p t => do loadVar t (← asAddr (tmps.getD p undef))
theorem results_eq (fn : Func) (tmps : Array Value) : results fn tmps = (do let vs ← fn.results.mapM (resOf tmps);pure (if h : vs.size = 1 then vs[0] else .tuple vs)) := by
  unfold results;rfl
def Res1 (P : Program) (S : Slots) (l : List HP) (r : ResultVar) (v : Value) : Prop := ∀ (n : Nat) (a : Act) (w : World), Has n a S → Sep l w → (resOf a.tmps r).run P w = .ok v w
theorem Res1.tmp {t : Nat} {v : Value} (hl : lk t S = some v) : Res1 P S l (.tmp t) v := fun n a w hS hR => by
  simp [resOf, Array.getD_eq_getD_getElem?, hS.at' _ _ hl]
theorem Res1.one {t b i : Nat} {ty : TypeId} {v : Value} {dd : TypeDesc} (hl : lk t S = some (.pointer (some ⟨b, i, none⟩))) (hu : P.underlying ty = some dd) (hna : (match dd with | .struct _ | .array _ _ => true | _ => false) = false) (hr : Rd l b i v) : Res1 P S l (.cell t ty) v := fun n a w hS hR => by
  have ha : (isAgg ty).run P w = .ok false w := by
    simp only [isAgg, Sem.run_bind, run_underlying hu, Result.andThen_ok];cases dd <;> simp_all
  simp [resOf, Array.getD_eq_getD_getElem?, hS.at' _ _ hl, asAddr, loadVar, ha, hr w hR]
theorem Res1.agg {t b i : Nat} {ty : TypeId} {vs : List Value} {dd : TypeDesc} {z : TypeInfo} (hl : lk t S = some (.pointer (some ⟨b, i, none⟩))) (hu : P.underlying ty = some dd) (hna : (match dd with | .struct _ | .array _ _ => true | _ => false) = true) (hi : P.info? ty = some z) (hr : Rds l b i vs) (hz : z.size = vs.length) : Res1 P S l (.cell t ty) (.agg vs.toArray) := fun n a w hS hR => by
  have ha : (isAgg ty).run P w = .ok true w := by
    simp only [isAgg, Sem.run_bind, run_underlying hu, Result.andThen_ok];cases dd <;> simp_all
  have hs : (sizeOf ty).run P w = .ok vs.length w := by simp [sizeOf, typeInfo, hi, hz]
  have hl' := run_loadCells_list (P := P) w ⟨b, i, none⟩ vs (fun j v hj => by rw [Addr.add_lit];exact hr w hR j v hj);simp [resOf, Array.getD_eq_getD_getElem?, hS.at' _ _ hl, asAddr, loadVar, ha, hs, hl']
def ResN (P : Program) (S : Slots) (l : List HP) (rs : List ResultVar) (vs : List Value) : Prop := ∀ (n : Nat) (a : Act) (w : World), Has n a S → Sep l w → (rs.mapM (resOf a.tmps)).run P w = .ok vs w
theorem ResN.nil : ResN P S l [] [] := fun _ _ _ _ _ => rfl
theorem ResN.cons {r : ResultVar} {v : Value} {rs : List ResultVar} {vs : List Value} (h1 : Res1 P S l r v) (h2 : ResN P S l rs vs) : ResN P S l (r :: rs) (v :: vs) := fun n a w hS hR => by
  simp only [List.mapM_cons, Sem.run_bind, h1 n a w hS hR, Result.andThen_ok, h2 n a w hS hR, Sem.run_pure]
theorem thenR {a : Act} {w : World} {K : Act → World → Prop} (h : Q .ret a w) : Exit.then K Q .ret a w := h
theorem blockR {a : Act} {w : World} {id : Nat} (h : Q .ret a w) : Exit.inBlock id Q .ret a w := h
theorem scopeR {a : Act} {w : World} (h : Q .ret a w) : Exit.noGoto Q .ret a w := h
theorem ret1 {fn : Func} {r : ResultVar} {Φ : Value → World → Prop} {e : Exit} (he : e = .ret ∨ e = .normal) (hf : fn.results = [r].toArray) (hS : Has n a S) (hR : Sep l w) (h : ∃ v, Res1 P S l r v ∧ Φ v w) : Post P fn Φ e a w := by
  obtain ⟨v, h, hp⟩ := h;have hr : (results fn a.tmps).run P w = .ok v w := by
    have := ResN.cons h ResN.nil n a w hS hR;rw [results_eq, hf];simp only [List.mapM_toArray, Sem.run_bind, Sem.run_map, this, Result.andThen_ok];simp
  rcases he with rfl | rfl <;> exact ⟨hS.defers, v, hr, v, rfl, hp⟩
theorem retN {fn : Func} {rs : List ResultVar} {Φ : Value → World → Prop} {e : Exit} (he : e = .ret ∨ e = .normal) (hf : fn.results = rs.toArray) (hS : Has n a S) (hR : Sep l w) (h : ∃ vs, ResN P S l rs vs ∧ Nat.beq vs.length 1 = false ∧ Φ (.tuple vs.toArray) w) : Post P fn Φ e a w := by
  obtain ⟨vs, h, hn', hp⟩ := h;have hn : vs.length ≠ 1 := fun e => by simp [e] at hn'
  have hr : (results fn a.tmps).run P w = .ok (.tuple vs.toArray) w := by
    have := h n a w hS hR;rw [results_eq, hf];simp only [List.mapM_toArray, Sem.run_bind, Sem.run_map, this, Result.andThen_ok];simp [hn]
  rcases he with rfl | rfl <;> exact ⟨hS.defers, _, hr, _, rfl, hp⟩
theorem loopI {X : Type} (B : Slots) (V : X → Slots) (H : X → List HP) (r : List HP) (I : X → Prop) (μ : X → Nat) (x0 : X) {c : Code} (hI : I x0) (hS : Has n a (V x0 ++ B)) (hR : Sep (H x0 ++ r) w)
    (round : ∀ x a w, I x → Has n a (V x ++ B) → Sep (H x ++ r) w →
      c.wp P (Exit.then (fun a' w' => ∃ x', I x' ∧ μ x' < μ x ∧ Has n a' (V x' ++ B) ∧ Sep (H x' ++ r) w') Q) a w) : (Code.loop c).wp P Q a w := by
  intro b k cs;have key : ∀ m x a w, μ x = m → I x → Has n a (V x ++ B) → Sep (H x ++ r) w →
      ∃ e a' w', Q e a' w' ∧ Arrives P (lone (b.at a (.code c :: .inLoop c :: k)) cs w) b k cs e a' w' := by
    intro m
    induction m using Nat.strongRecOn with
    | _ m ih =>
      intro x a w hm hI hS hR;obtain ⟨e, a₁, w₁, hq, harr⟩ := round x a w hI hS hR b (.inLoop c :: k) cs;cases e with
      | normal =>
        obtain ⟨x', hI', hlt, hS', hR'⟩ := hq;obtain ⟨e₂, a₂, w₂, hq₂, harr₂⟩ := ih (μ x') (hm ▸ hlt) x' a₁ w₁ rfl hI' hS' hR';exact ⟨e₂, a₂, w₂, hq₂, .of_steps (Steps.trans harr (.one step_inLoop)) harr₂⟩
      | exit id => exact ⟨_, a₁, w₁, hq, .pass (x := .inLoop c) rfl (fun _ _ => .inl (by simp)) harr⟩
      | goto l => exact ⟨_, a₁, w₁, hq, .pass (x := .inLoop c) rfl (fun _ _ => .inl (by simp)) harr⟩
      | ret => exact ⟨_, a₁, w₁, hq, .pass (x := .inLoop c) rfl (fun _ _ => .inl (by simp)) harr⟩
      | panic ch => exact ⟨_, a₁, w₁, hq, .pass (x := .inLoop c) rfl (fun _ _ => .inl (by simp)) harr⟩
      | outgrown => exact ⟨_, a₁, w₁, hq, .pass (x := .inLoop c) rfl (fun _ _ => .inl (by simp)) harr⟩
  obtain ⟨e, a', w', hq, harr⟩ := key _ x0 a w rfl hI hS hR;exact ⟨e, a', w', hq, .of_steps (.one step_loop) harr⟩
theorem BA {v : Value} (hS : Has n a S) (hR : Sep l w) (hy : Yld P a l ⟨some d, op, t, pos, af, g⟩ v) (hd : d < n) (k : ∀ a', Has n a' ((d, v) :: S) → K a' w) : Oper.wp P ⟨some d, op, t, pos, af, g⟩ a w K Q := by
  unfold Oper.wp;rw [hy w hR];exact k _ (hS.put d v hd)
section drawn
variable {l0 : List HP} {fuel : Nat} {listed : Array Bool}
theorem drawn {id : Nat} (hm : P.follows .mixedOrders = true) (hR : Sep l w) (ex : Ex l l0)
    (h : ∀ w, Sep l w → Sep l0 w → wpAnyH P .any ops Q (Sep l0) ops.size (Array.replicate ops.size false) a w) : (Code.region id ops true).wp P Q a w :=
  wp_region_held (S := Sep l0) hm (h _ hR.drewN (hR.drewN.sub ex))
theorem dA {v : Value} (i : Nat) (hi : ops[i]? = some ⟨some d, op, t, pos, af, none⟩) (hs : Region.noSelect ops = true) (hf : Region.free .any ops listed i = true) (hr : (Region.ready .any ops listed).contains i = true)
    (hQ : ∀ c (a : Act) w, Q (.panic c) (a.put (some d) v) w → Q (.panic c) a w) (hS : Has n a S) (hR0 : Sep l0 w) (hy : Yld P a l0 ⟨some d, op, t, pos, af, none⟩ v) (hd : d < n)
    (k : ∀ a', Has n a' ((d, v) :: S) → wpAnyH P .any ops Q (Sep l0) fuel (listed.setIfInBounds i true) a' w) : wpAnyH P .any ops Q (Sep l0) (fuel + 1) listed a w :=
  wpAnyH_take hi hs hf hr hQ (.inl ⟨by simp [Region.wanted], fun w hw => hy w hw⟩) hR0 (k _ (hS.put d v hd))
theorem dAg {v : Value} {j tj : Nat} {b : Bool} (i : Nat) (hi : ops[i]? = some ⟨some d, op, t, pos, af, some (j, b)⟩) (hs : Region.noSelect ops = true) (hf : Region.free .any ops listed i = true) (hr : (Region.ready .any ops listed).contains i = true)
    (hQ : ∀ c (a : Act) w, Q (.panic c) (a.put (some d) v) w → Q (.panic c) a w) (hS : Has n a S) (hj : (ops[j]?).bind (·.dst) = some tj) (hg : lk tj S = some (.bool b)) (hR0 : Sep l0 w) (hy : Yld P a l0 ⟨some d, op, t, pos, af, some (j, b)⟩ v) (hd : d < n)
    (k : ∀ a', Has n a' ((d, v) :: S) → wpAnyH P .any ops Q (Sep l0) fuel (listed.setIfInBounds i true) a' w) : wpAnyH P .any ops Q (Sep l0) (fuel + 1) listed a w :=
  wpAnyH_take hi hs hf hr hQ (.inl ⟨by simp [Region.wanted, hS.yielded hj hg], fun w hw => hy w hw⟩) hR0 (k _ (hS.put d v hd))
theorem dSkip {j tj : Nat} {b c : Bool} (i : Nat) (hi : ops[i]? = some ⟨some d, op, t, pos, af, some (j, b)⟩) (hs : Region.noSelect ops = true) (hf : Region.free .any ops listed i = true) (hr : (Region.ready .any ops listed).contains i = true)
    (hQ : ∀ c (a : Act) w, Q (.panic c) (a.put (some d) undef) w → Q (.panic c) a w) (hS : Has n a S) (hj : (ops[j]?).bind (·.dst) = some tj) (hg : lk tj S = some (.bool c)) (hbc : (c == b) = false) (hR0 : Sep l0 w) (hd : d < n)
    (k : ∀ a', Has n a' ((d, undef) :: S) → wpAnyH P .any ops Q (Sep l0) fuel (listed.setIfInBounds i true) a' w) : wpAnyH P .any ops Q (Sep l0) (fuel + 1) listed a w :=
  wpAnyH_take hi hs hf hr hQ (.inr ⟨by simp only [Region.wanted, hS.yielded hj hg];cases b <;> cases c <;> simp_all, rfl⟩) hR0 (k _ (hS.put d undef hd))
theorem dSkipU {j tj : Nat} {b : Bool} (i : Nat) (hi : ops[i]? = some ⟨some d, op, t, pos, af, some (j, b)⟩) (hs : Region.noSelect ops = true) (hf : Region.free .any ops listed i = true) (hr : (Region.ready .any ops listed).contains i = true)
    (hQ : ∀ c (a : Act) w, Q (.panic c) (a.put (some d) undef) w → Q (.panic c) a w) (hS : Has n a S) (hj : (ops[j]?).bind (·.dst) = some tj) (hg : lk tj S = some undef) (hR0 : Sep l0 w) (hd : d < n)
    (k : ∀ a', Has n a' ((d, undef) :: S) → wpAnyH P .any ops Q (Sep l0) fuel (listed.setIfInBounds i true) a' w) : wpAnyH P .any ops Q (Sep l0) (fuel + 1) listed a w :=
  wpAnyH_take hi hs hf hr hQ (.inr ⟨by simp [Region.wanted, hS.yieldedU hj hg], rfl⟩) hR0 (k _ (hS.put d undef hd))
theorem dnext {G : Prop} (h : Sep l0 w) (k : Sep l0 w → G) : Sep l0 w ∧ G := ⟨h, k h⟩
theorem dOne {i : Nat} (hr : Region.ready .any ops listed = [i]) (h : wpOp P ops Q i (fun a' w' => Sep l0 w' ∧ wpAnyH P .any ops Q (Sep l0) fuel (listed.setIfInBounds i true) a' w') a w) : wpAnyH P .any ops Q (Sep l0) (fuel + 1) listed a w :=
  wpAnyH_all hr (by simp) (by intro j hj;simp at hj;subst hj;exact h)
theorem dTwo {i j : Nat} (hr : Region.ready .any ops listed = [i, j]) (h : wpOp P ops Q i (fun a' w' => Sep l0 w' ∧ wpAnyH P .any ops Q (Sep l0) fuel (listed.setIfInBounds i true) a' w') a w)
    (h' : wpOp P ops Q j (fun a' w' => Sep l0 w' ∧ wpAnyH P .any ops Q (Sep l0) fuel (listed.setIfInBounds j true) a' w') a w) : wpAnyH P .any ops Q (Sep l0) (fuel + 1) listed a w :=
  wpAnyH_all hr (by simp) (by intro m hm;simp at hm;rcases hm with rfl | rfl <;> assumption)
theorem dThree {i j m : Nat} (hr : Region.ready .any ops listed = [i, j, m]) (h : wpOp P ops Q i (fun a' w' => Sep l0 w' ∧ wpAnyH P .any ops Q (Sep l0) fuel (listed.setIfInBounds i true) a' w') a w)
    (h' : wpOp P ops Q j (fun a' w' => Sep l0 w' ∧ wpAnyH P .any ops Q (Sep l0) fuel (listed.setIfInBounds j true) a' w') a w)
    (h'' : wpOp P ops Q m (fun a' w' => Sep l0 w' ∧ wpAnyH P .any ops Q (Sep l0) fuel (listed.setIfInBounds m true) a' w') a w) : wpAnyH P .any ops Q (Sep l0) (fuel + 1) listed a w :=
  wpAnyH_all hr (by simp) (by intro q hq;simp at hq;rcases hq with rfl | rfl | rfl <;> assumption)
theorem dop {i : Nat} {dd : Option Nat} (hi : ops[i]? = some ⟨dd, op, t, pos, af, none⟩) (h : Oper.wp P ⟨dd, op, t, pos, af, none⟩ a w K Q) : wpOp P ops Q i K a w := by
  unfold wpOp;simp only [hi, Region.wanted, if_true];exact .inl h
theorem dopg {i : Nat} {dd : Option Nat} {j tj : Nat} {b : Bool} (hi : ops[i]? = some ⟨dd, op, t, pos, af, some (j, b)⟩) (hS : Has n a S) (hj : (ops[j]?).bind (·.dst) = some tj) (hg : lk tj S = some (.bool b)) (h : Oper.wp P ⟨dd, op, t, pos, af, some (j, b)⟩ a w K Q) : wpOp P ops Q i K a w := by
  have hw : Region.wanted (⟨dd, op, t, pos, af, some (j, b)⟩ : Oper) (yielded ops a.tmps) = true := by simp [Region.wanted, hS.yielded hj hg]
  unfold wpOp;simp only [hi, hw, if_true];exact .inl h
end drawn
theorem condT {x : Operand} {c1 c2 : Code} (hS : Has n a S) (hx : ev S x = some (.bool true)) (h : c1.wp P Q a w) : (Code.cond x c1 c2).wp P Q a w := wp_cond_true (hS.ev hx) h
theorem condF {x : Operand} {c1 c2 : Code} (hS : Has n a S) (hx : ev S x = some (.bool false)) (h : c2.wp P Q a w) : (Code.cond x c1 c2).wp P Q a w := wp_cond_false (hS.ev hx) h
end
section
open Go Go.ChangeShapes Go.WideShapes Go.ChangeAt Go.RowKit
section
variable {H : Type} {enc : TypeId × Value → H} {P : Program} {W W' : World}
structure Kept (W W' : World) : Prop where
  os : W'.os = W.os
  output : W'.output = W.output
  block : ∀ b, b < W.heap.size → W'.heap[b]? = W.heap[b]?
theorem kept_of_sep {l l' : List HP} (h : Sep l W') (p : Pk (old W) l l') : Kept W W' :=
  ⟨(h.pk p).readSig.1, (h.pk p).readSig.2, fun _ hb => (h.pk p).readOld hb⟩
theorem Kept.same (h : Kept W W') {p : MemPlace} (hp : p.block < W.heap.size) : W.sameAt W' p := by
  cases p with
  | cell b o => exact World.cell?_of_block (w := W) (h.block b hp)
  | map b => exact h.block b hp
theorem trodAll_stays (hl : laidOutB P = true) {sp : Nat → Bool} : ∀ {ts : List TypeId} {vs : List Value} {ds : List (DataW H)} {ps : List MemPlace},
    (∀ t ∈ ts, P.readableRec t = true ∧ t < P.types.size) → DataW.TrodAll enc P W 0 (fun _ => true) true ts vs ds ps →
    (∀ p ∈ ps, W.sameAt W' p) → (∀ p ∈ ps, sp p.block = true) → DataW.TrodAll enc P W' 0 sp true ts vs ds ps
  | [], [], [], _, _, h, _, _ => h
  | t :: ts, v :: vs, d :: ds, ps, hr, ⟨p, q, h1, h2, e⟩, hs, hsp => by
    subst e;refine ⟨p, q, ?_, trodAll_stays hl (fun u hu => hr u (List.mem_cons_of_mem _ hu)) h2 (fun x hx => hs x (List.mem_append_right _ hx)) (fun x hx => hsp x (List.mem_append_right _ hx)), rfl⟩;obtain ⟨r1, r2⟩ := hr t List.mem_cons_self;exact WideElems.Trod_stays hl r1 r2 h1 (fun x hx => hs x (List.mem_append_left _ hx)) (fun x hx => hsp x (List.mem_append_left _ hx))
  | [], _ :: _, _, _, _, h, _, _ => h.elim
  | [], [], _ :: _, _, _, h, _, _ => h.elim
  | _ :: _, [], _, _, _, h, _, _ => h.elim
  | _ :: _, _ :: _, [], _, _, h, _, _ => h.elim
theorem law_post {f : Func} {s : ChangeSpec} {apart fresh handsOn again : Bool} {args : Array Value} {ds gs : List (DataW H)} {before : List MemPlace} {tb : TypeId} (hl : laidOutB P = true)
    (hpar : ∀ t ∈ f.params.toList, P.readableRec t = true ∧ t < P.types.size) (hres : f.resultTypes = [tb].toArray) (hb : P.underlying tb = some .bool) (hvars : s.vars = [])
    (hfn : s.fn H (ds ++ gs) = { results := [.lit (.bool true)], args := ds }) (hW : DataW.Whole enc P f.params.toList s.vars apart W args.toList ds gs before) (hk : Kept W W')
    (hok : ∀ (j : Nat) (t : TypeId) (r : Value), f.resultTypes[j]? = some t → ((Value.bool true).resultList f.resultTypes.size)[j]? = some r → Value.okWide P W' .any 0 t r) :
    s.post enc P f apart fresh handsOn again W args (.bool true) W' := by
  have hlt : ∀ p ∈ before, p.block < W.heap.size := fun p hp => hW.lt p hp;have hW0 := hW;obtain ⟨p, q, hA, hV, hps, hz, hn⟩ := hW;rw [hvars] at hV;obtain ⟨hgs, hq⟩ := trodVars_none hV;subst hq;rw [List.append_nil] at hps;subst hps;have hA' : ∀ sp : Nat → Bool, (∀ x ∈ before, sp x.block = true) → DataW.TrodAll enc P W' 0 sp true f.params.toList args.toList ds before :=
    fun sp hsp => trodAll_stays hl hpar hA (fun x hx => hk.same (hlt x hx)) hsp
  have hR : ∀ (b : Nat) (sp : Nat → Bool) (hd : Bool), DataW.TrodAll enc P W' b sp hd f.resultTypes.toList ((Value.bool true).resultList f.resultTypes.size) [.lit (.bool true)] [] := by
    intro b sp hd;rw [hres];exact trodAll_cons_mk (shut_bool hb _) trodAll_mk0
  have hV' : ∀ sp : Nat → Bool, DataW.TrodVars enc P W' sp s.vars [] [] := fun sp => by rw [hvars];rfl
  refine ⟨ds, gs, before, [], before, [], hW0, ?_, ?_, ?_, ?_, fun _ => ⟨hok, ?_⟩⟩
  · rw [hfn];exact hR _ _ _
  · rw [hfn];exact hA' _ (fun x hx => by simpa using hlt x hx)
  · rw [hfn];exact hV' _
  · refine ⟨hk.os, hk.output, fun i hi => ?_⟩
    rw [hk.block i hi]
    split <;> simp_all
  · refine ⟨[.lit (.bool true)] ++ ds, [], before, ⟨[] ++ before, [], ?_, hV' (fun _ => true), by simp, ?_, ?_⟩, fun x hx _ => hx⟩
    · exact trodAll_append (hA' (fun _ => true) (fun _ _ => rfl)) (hR 0 (fun _ => true) true)
    · intro b off hp
      have : W'.frozen? ⟨b, off, none⟩ = W.frozen? ⟨b, off, none⟩ := World.frozen?_of_block (w := W) (hk.block b (hlt _ hp));rw [this];exact hz b off hp
    · intro ha;exact hn ha
end
end
def sls (r : Option Addr) (n cap : Nat) (T : TypeId) (sz : Nat) (cs : List Value) : HP := fun σ h =>
  (r = none ∧ n = 0 ∧ cap = 0 ∧ cs = [] ∧ h = PH.emp) ∨
  ∃ (b : Nat) (rest : List Value), r = some ⟨b, 0, none⟩ ∧ cs.length = n * sz ∧ cs.length + rest.length = cap * sz ∧ n ≤ cap ∧ blk b (cs ++ rest) T σ h
def blkOf (r : Option Addr) : Nat := (r.map (·.block)).getD 0
section
variable {l l' : List HP} {w : World} {r : Option Addr} {n cap : Nat} {T : TypeId} {sz : Nat} {cs : List Value}
theorem Sep.slsE (h : Sep (sls r n cap T sz cs :: l) w) : (r = none ∧ n = 0 ∧ cap = 0 ∧ cs = [] ∧ Sep l w) ∨
    ∃ (b : Nat) (rest : List Value), r = some ⟨b, 0, none⟩ ∧ cs.length = n * sz ∧ cs.length + rest.length = cap * sz ∧ n ≤ cap ∧ Sep (blk b (cs ++ rest) T :: l) w := by
  obtain ⟨g, hs, x, y, d, rfl, hp, s⟩ := h;rcases hp with ⟨h1, h2, h3, h4, h5⟩ | ⟨b, rest, h1, h2, h3, h4, h5⟩
  · subst h5
    rw [PH.emp_uni] at hs;exact .inl ⟨h1, h2, h3, h4, y, hs, s⟩
  · exact .inr ⟨b, rest, h1, h2, h3, h4, _, hs, x, y, d, rfl, h5, s⟩
theorem Sep.slsI {b : Nat} {rest : List Value} (h : Sep (blk b (cs ++ rest) T :: l) w) (h1 : cs.length = n * sz) (h2 : cs.length + rest.length = cap * sz) (h3 : n ≤ cap) :
    Sep (sls (some ⟨b, 0, none⟩) n cap T sz cs :: l) w := h.conv fun σ g hp => .inr ⟨b, rest, rfl, h1, h2, h3, hp⟩
theorem Sep.slsB {b : Nat} (h : Sep (blk b cs T :: l) w) (h1 : cs.length = n * sz) : Sep (sls (some ⟨b, 0, none⟩) n n T sz cs :: l) w :=
  Sep.slsI (rest := []) (by simpa using h) h1 (by simpa using h1) (Nat.le_refl _)
theorem Sep.slsNil (h : Sep l w) : Sep (sls none 0 0 T sz [] :: l) w := by
  obtain ⟨g, hs, s⟩ := h;exact ⟨g, hs, PH.emp, g, PH.emp_disj _, (PH.emp_uni _).symm, .inl ⟨rfl, rfl, rfl, rfl, rfl⟩, s⟩
theorem Sep.slsLe (h : Sep (sls r n cap T sz cs :: l) w) : n ≤ cap ∧ cs.length = n * sz := by
  rcases h.slsE with ⟨_, h2, h3, h4, _⟩ | ⟨b, rest, _, h2, _, h4, _⟩
  · subst h2 h3 h4;simp
  · exact ⟨h4, h2⟩
end
section
variable {P : Program} {Q : Exit → Act → World → Prop} {n : Nat} {a : Act} {S : Slots} {l l' : List HP} {w : World} {d : Nat} {dd : Option Nat} {t : TypeId} {pos : String} {af : Array Edge} {g : Option (Nat × Bool)} {K : Act → World → Prop}
variable {r : Option Addr} {m cap : Nat} {T : TypeId} {sz : Nat} {cs : List Value}
theorem Rd.sls {i : Nat} {v : Value} (p : Pk (Sx.sls r m cap T sz cs) l l') (h : cs[i]? = some v) : Rd l (blkOf r) i v := by
  intro w hw;rcases (hw.pk p).slsE with ⟨_, _, _, h4, _⟩ | ⟨b, rest, h1, _, _, _, hb⟩
  · subst h4;simp at h
  · subst h1
    show w.cell? ⟨b, i, none⟩ = some v;rw [blk_cell hb, List.getElem?_append_left (List.getElem?_eq_some_iff.1 h).1];exact h
theorem Rds.sls {α : Type} {k : Nat} {xs : List α} {enc : α → List Value} (p : Pk (Sx.sls r m cap T sz (xs.flatMap enc)) l l') (hm : ∀ x, (enc x).length = sz) (hk : k < xs.length) : Rds l (blkOf r) (k * sz) (enc xs[k]) := by
  intro w hw j v hj;rcases (hw.pk p).slsE with ⟨_, _, _, h4, _⟩ | ⟨b, rest, h1, _, _, _, hb⟩
  · have h0 : xs.length * sz = 0 := by rw [← flat_len hm xs, h4];rfl
    have hj' : j < sz := by rw [← hm xs[k]];exact (List.getElem?_eq_some_iff.1 hj).1
    rcases Nat.mul_eq_zero.1 h0 with h | h <;> omega
  · subst h1
    exact Rds.flat (rest := rest) (T := T) (b := b) .here hm hk w hb j v hj
theorem Yld.indexSls {ty e : TypeId} {x y : Operand} {k : IntKind} {i : Int} {z : TypeInfo} (hS : Has n a S) (hx : ev S x = some (.slice r m cap)) (hy : ev S y = some (.int k i))
    (hu : P.underlying ty = some (.slice e)) (hi : P.info? e = some z) (p : Pk (Sx.sls r m cap T sz cs) l l') (h0 : 0 ≤ i) (h1 : i < m) :
    Yld P a l ⟨dd, .indexAddr ty x y, t, pos, af, g⟩ (.pointer (some ⟨blkOf r, i.toNat * z.size, none⟩)) := by
  intro w hw;rcases (hw.pk p).slsE with ⟨_, h2, _⟩ | ⟨b, rest, hr, _, _, _, _⟩
  · subst h2;omega
  · subst hr
    have := Yld.indexSlice (P := P) (l := l) (d := dd) (t := t) (pos := pos) (af := af) (g := g) hS hx hy hu hi h0 h1 w hw;rw [this];simp [blkOf]
def XC (P : Program) (l : List HP) (sz : Nat) (v : Value) (m : Nat) (news : List Value) : Prop := ∀ w, Sep l w → news.length = m * sz ∧ (Builtin.firstCells sz m v).run P w = .ok news.toArray w
theorem XC.rds {b i c : Nat} {news : List Value} (h : Rds l b i news) (hl : news.length = m * sz) : XC P l sz (.slice (some ⟨b, i, none⟩) m c) m news := by
  refine fun w hw => ⟨hl, ?_⟩;have := run_loadCells_list (P := P) w ⟨b, i, none⟩ news (fun j v hj => by rw [Addr.add_lit];exact h w hw j v hj);rw [hl] at this;exact this
theorem XC.blk {b c : Nat} (p : Pk (Sx.blk b cs T) l l') (hl : cs.length = m * sz) : XC P l sz (.slice (some ⟨b, 0, none⟩) m c) m cs := XC.rds (Rds.blk0 p) hl
theorem XC.nil {c : Nat} : XC P l sz (.slice none 0 c) 0 [] := fun w _ => ⟨by simp, rfl⟩
theorem XC.zero {q : Option Addr} {c : Nat} : XC P l sz (.slice q 0 c) 0 [] := by
  refine fun w _ => ⟨by simp, ?_⟩;cases q with
  | none => rfl
  | some q => simp [Builtin.firstCells, loadCells, loadCellsFrom]
theorem XC.sls (p : Pk (Sx.sls r m cap T sz cs) l l') : XC P l sz (.slice r m cap) m cs := by
  intro w hw;rcases (hw.pk p).slsE with ⟨h1, h2, _, h4, _⟩ | ⟨b, rest, h1, h2, _, _, hb⟩
  · subst h1 h2 h4;exact ⟨by simp, rfl⟩
  · subst h1
    exact XC.rds (P := P) (m := m) (sz := sz) (c := cap) (Rds.blk (i := 0) (T := T) (vs := cs) (Pk.here (l := l')) (by simp)) h2 w hb
theorem XC.sub {q : Option Addr} {k c lo : Nat} (p : Pk (Sx.sls r m cap T sz cs) l l') (hq : q = if cap = lo then r else r.map fun x => x.add (lo * sz)) (hk : lo + k ≤ m) :
    XC P l sz (.slice q k c) k ((cs.drop (lo * sz)).take (k * sz)) := by
  intro w hw;rcases (hw.pk p).slsE with ⟨h1, h2, h3, h4, _⟩ | ⟨b, rest, h1, h2, h3, h4, hb⟩
  · obtain ⟨rfl, rfl⟩ : lo = 0 ∧ k = 0 := by omega
    subst h4;simpa using XC.zero (P := P) (l := l) (sz := sz) (q := q) (c := c) w hw
  · subst h1
    by_cases hz : k = 0
    · subst hz
      simpa using XC.zero (P := P) (l := l) (sz := sz) (q := q) (c := c) w hw
    · rw [if_neg (by omega)] at hq
      subst hq;have hle : lo * sz + k * sz ≤ m * sz := by rw [← Nat.add_mul];exact Nat.mul_le_mul_right _ hk
      simp only [Option.map_some, Addr.add_lit, Nat.zero_add];have hlen : ((cs.drop (lo * sz)).take (k * sz)).length = k * sz := by simp;omega
      refine XC.rds (P := P) (Rds.blk (Pk.here (l := l')) ?_) hlen w hb;rw [hlen, List.drop_append_of_le_length (by omega), List.take_append_of_le_length (by simp;omega)]
theorem Yld.sliceHi {ty e : TypeId} {x z : Operand} {k' : IntKind} {hi : Int} {i : TypeInfo} (hS : Has n a S) (hx : ev S x = some (.slice r m cap)) (hz : ev S z = some (.int k' hi))
    (hu : P.underlying ty = some (.slice e)) (hi' : P.info? e = some i) (h0 : 0 ≤ hi) (h2 : hi ≤ cap) :
    Yld P a l ⟨dd, .slice ty x none (some z) none, t, pos, af, g⟩ (.slice r hi.toNat cap) := by
  intro w _;have hs : (sizeOf e).run P w = .ok i.size w := by simp [sizeOf, typeInfo, hi']
  have hr : r.map (fun q => q.add 0) = r := by cases r <;> simp [Addr.add_zero']
  simp [execOp, hS.ev hx, hS.ev hz, Instr.sliceAt, Instr.slice, run_underlying hu, Instr.sliceBounds, Instr.sliceBound, asIntOf, hs, h0, h2, hr]
theorem Yld.sliceLo {ty e : TypeId} {x y : Operand} {k : IntKind} {lo : Int} {i : TypeInfo} (hS : Has n a S) (hx : ev S x = some (.slice r m cap)) (hy : ev S y = some (.int k lo))
    (hu : P.underlying ty = some (.slice e)) (hi' : P.info? e = some i) (h0 : 0 ≤ lo) (h1 : lo ≤ m) :
    Yld P a l ⟨dd, .slice ty x (some y) none none, t, pos, af, g⟩ (.slice (if cap = lo.toNat then r else r.map fun q => q.add (lo.toNat * i.size)) (m - lo.toNat) (cap - lo.toNat)) := by
  intro w _;have hs : (sizeOf e).run P w = .ok i.size w := by simp [sizeOf, typeInfo, hi']
  simp [execOp, hS.ev hx, hS.ev hy, Instr.sliceAt, Instr.slice, run_underlying hu, Instr.sliceBounds, Instr.sliceBound, asIntOf, hs, h0, h1]
theorem lay_append : ∀ (xs ys zs : List Value), zs.length ≤ ys.length → lay (xs ++ ys) xs.length zs = xs ++ zs ++ ys.drop zs.length
  | xs, ys, [], _ => by simp [lay]
  | xs, [], z :: zs, h => by simp at h
  | xs, y :: ys, z :: zs, h => by
    have := lay_append (xs ++ [z]) ys zs (by simpa using h);simp only [lay, List.length_cons, List.drop_succ_cons];rw [List.set_append_right _ _ (Nat.le_refl _), Nat.sub_self, List.set_cons_zero, show xs ++ z :: ys = (xs ++ [z]) ++ ys from by simp, show xs.length + 1 = (xs ++ [z]).length from by simp, this];simp
theorem Bappend {ty e : TypeId} {x y : Operand} {q : Option Addr} {m2 c2 : Nat} {news : List Value} {z : TypeInfo} {zv : Value} (hS : Has n a S) (hR : Sep l w)
    (hx : ev S x = some (.slice r m cap)) (hy : ev S y = some (.slice q m2 c2)) (hu : P.underlying ty = some (.slice e)) (hi : P.info? e = some z) (hz : z.zero = some zv) (hsz : z.size = sz) (hzs : zv.cells.size = sz)
    (p : Pk (Sx.sls r m cap e sz cs) l l') (hn : XC P l sz (.slice q m2 c2) m2 news) (h1 : news.all Value.oneCell' = true) (hb : (m + m2) * z.bytes ≤ 140737488355328) (hm : m + m2 ≤ 9223372036854775807) (hd : d < n)
    (k : ∀ a' w' r' cap', Has n a' ((d, .slice r' (m + m2) cap') :: S) → Sep (Sx.sls r' (m + m2) cap' e sz (cs ++ news) :: l') w' → K a' w') :
    Oper.wp P ⟨some d, .call { callee := .builtin .append, args := [x, y].toArray, argTypes := [ty, ty].toArray }, t, pos, af, g⟩ a w K Q := by
  subst hsz;have hsize : ∀ w, (sizeOf e).run P w = .ok z.size w := fun w => by simp [sizeOf, typeInfo, hi]
  have hti : ∀ w, (typeInfo e).run P w = .ok z w := fun w => by simp [typeInfo, hi]
  have hzero : ∀ w, (zeroValue e).run P w = .ok zv w := fun w => by simp [zeroValue, typeInfo, hi, hz]
  obtain ⟨hnl, hnr⟩ := hn w hR;by_cases hc : m + m2 ≤ cap
  · -- there is room
    have hfin : ∃ w', (Builtin.append_ [ty, ty].toArray t #[.slice r m cap, .slice q m2 c2]).run P w = .ok (.slice r (m + m2) cap) w' ∧ Sep (Sx.sls r (m + m2) cap e z.size (cs ++ news) :: l') w' := by
      rcases (hR.pk p).slsE with ⟨e1, e2, e3, e4, hR'⟩ | ⟨b, rest, e1, e2, e3, e4, hR'⟩
      · subst e1 e2 e3 e4
        obtain rfl : m2 = 0 := by omega
        have : news = [] := List.eq_nil_of_length_eq_zero (by simpa using hnl);subst this;refine ⟨w, ?_, by simpa using hR'.slsNil⟩;simp [Builtin.append_, run_underlying hu, hsize, Builtin.lenOf, hnr]
      · subst e1
        have hroom : cs.length + news.length ≤ cap * z.size := by rw [e2, hnl, ← Nat.add_mul];exact Nat.mul_le_mul_right _ hc
        obtain ⟨w', hr, hs⟩ := run_storeCells (P := P) news (m * z.size) (cs ++ rest) 0 w hR' (by simpa using h1) (by simp;omega);rw [Nat.add_zero, ← e2, lay_append cs rest news (by omega)] at hs;refine ⟨w', ?_, ?_⟩
        · simp [Builtin.append_, run_underlying hu, hsize, Builtin.lenOf, hnr, hc, Addr.add_lit, hr]
        · exact Sep.slsI hs (by simp [e2, hnl, Nat.add_mul]) (by simp;omega) hc
    obtain ⟨w', hr, hs⟩ := hfin;have hr' : (execOp a.eval ⟨some d, .call { callee := .builtin .append, args := [x, y].toArray, argTypes := [ty, ty].toArray }, t, pos, af, g⟩).run P w = .ok (.value (.slice r (m + m2) cap)) w' := by
      simp only [execOp, resolve, List.map_toArray, List.map_cons, List.map_nil, hS.ev hx, hS.ev hy, Sem.run_bind, Sem.run_pure, Result.andThen_ok, invoke, builtin, hr]
    unfold Oper.wp;rw [hr'];exact k _ w' r cap (hS.put d _ hd) hs
  · -- a new array
    have hold : ∀ w, Sep l w → (Builtin.firstCells z.size m (.slice r m cap)).run P w = .ok cs.toArray w := fun w hw => (XC.sls (P := P) p w hw).2;have hfits := growslice_fits (need := m + m2) (old := cap) (bytes := z.bytes) (by omega) hb;have hcs : cs.length = m * z.size := (XC.sls (P := P) p w hR).1;have hR2 : Sep l w.drew := hR.drew;obtain ⟨N, hN, hNge⟩ : ∃ N, (Question.appendCap (m + m2) cap e).cut (w.tape w.drawn (.appendCap (m + m2) cap e)) = N ∧ m + m2 ≤ N := ⟨_, rfl, by simp [Question.cut]⟩;obtain ⟨rest, hrest, hrl⟩ : ∃ rest : List Value, Builtin.zeroCells zv.cells (N - (m + m2)) = rest.toArray ∧ rest.length = (N - (m + m2)) * z.size :=
      ⟨(Builtin.zeroCells zv.cells (N - (m + m2))).toList, by simp, by simp [Builtin.zeroCells, hzs]⟩
    have hr' : (execOp a.eval ⟨some d, .call { callee := .builtin .append, args := [x, y].toArray, argTypes := [ty, ty].toArray }, t, pos, af, g⟩).run P w =
        .ok (.value (.slice (some ⟨w.heap.size, 0, none⟩) (m + m2) N)) (w.drew.alloc (.cells (cs ++ news ++ rest).toArray e)) := by
      have h3 : ¬ (281474976710656 < Builtin.nextslicecap (m + m2) cap * z.bytes) := by omega
      have h4 : ¬ (9223372036854775807 < (m : Int) + (m2 : Int)) := by omega
      have e1 := hold _ hR2;have e2 := (hn _ hR2).2;simp only [execOp, resolve, List.map_toArray, List.map_cons, List.map_nil, hS.ev hx, hS.ev hy, Sem.run_bind, Sem.run_pure, Result.andThen_ok, invoke, builtin];simp [Builtin.append_, run_underlying hu, hsize, hti, hzero, Builtin.lenOf, hc, h3, h4, Question.forced, hN, e1, e2, hrest, newRow]
    unfold Oper.wp;rw [hr'];refine k _ _ _ N (hS.put d _ hd) (Sep.slsI (rest := rest) ?_ (by simp [hcs, hnl, Nat.add_mul]) ?_ hNge)
    · have := ((hR2.pk p).drop).new (.cells (cs ++ news ++ rest).toArray e)
      exact this
    · simp only [List.length_append, hcs, hnl, hrl, ← Nat.add_mul]
      congr 1;omega
def zeros (z : List Value) (m : Nat) : List Value := (List.replicate m z).flatten
theorem range_zeros {z : List Value} (m : Nat) (hz : 0 < z.length) : (List.range (m * z.length)).map (fun i => z.toArray[i % z.length]!) = zeros z m := by
  induction m with
  | zero => simp [zeros]
  | succ m ih =>
    rw [Nat.succ_mul, Nat.add_comm, List.range_add, List.map_append];have e1 : (List.range z.length).map (fun i => z.toArray[i % z.length]!) = z := by
      apply List.ext_getElem
      · simp
      · intro i h1 h2
        simp at h1;simp [Nat.mod_eq_of_lt h1, h1]
    rw [e1];have e2 : ((List.range (m * z.length)).map (z.length + ·)).map (fun i => z.toArray[i % z.length]!) = zeros z m := by
      rw [← ih, List.map_map];apply List.map_congr_left;intro i _;simp [Nat.add_mod_left]
    rw [e2];simp [zeros, List.replicate_succ]
theorem Bmake {ty e : TypeId} {x y : Operand} {i : Int} {k1 k2 : IntKind} {z : TypeInfo} {zv : Value} {zc : List Value} (hS : Has n a S) (hR : Sep l w) (hx : ev S x = some (.int k1 i)) (hy : ev S y = some (.int k2 i)) (hu : P.underlying ty = some (.slice e)) (hi : P.info? e = some z) (hz : z.zero = some zv)
    (hzc : zv.cells = zc.toArray) (hsz : z.size = zc.length) (hpos : 0 < zc.length) (h0 : 0 ≤ i) (h2 : (z.bytes : Int) * i ≤ 281474976710656) (h3 : i ≤ 4611686018427387904) (hd : d < n)
    (k : ∀ a' w' b, Has n a' ((d, .slice (some ⟨b, 0, none⟩) i.toNat i.toNat) :: S) → Sep (Sx.blk b (zeros zc i.toNat) e :: l) w' → K a' w') :
    Oper.wp P ⟨some d, .makeSlice ty x y, t, pos, af, g⟩ a w K Q := by
  have hti : ∀ w, (typeInfo e).run P w = .ok z w := fun w => by simp [typeInfo, hi]
  have hsize : ∀ w, (sizeOf e).run P w = .ok z.size w := fun w => by simp [sizeOf, typeInfo, hi]
  have hzero : ∀ w, (zeroValue e).run P w = .ok zv w := fun w => by simp [zeroValue, typeInfo, hi, hz]
  have hw : IntKind.i64.wrap i = i := IntWalk.i64_in _ (by omega);have hcells : (Array.range (i.toNat * zc.length)).map (fun j => zc[j % zc.length]?.getD default) = (zeros zc i.toNat).toArray := by
    rw [← range_zeros _ hpos];apply Array.ext';simp
  have hr : (execOp a.eval ⟨some d, .makeSlice ty x y, t, pos, af, g⟩).run P w = .ok (.value (.slice (some ⟨w.heap.size, 0, none⟩) i.toNat i.toNat)) (w.alloc (.cells (zeros zc i.toNat).toArray e)) := by
    have h4 : ¬ (i < 0) := by omega
    have h5 : ¬ (281474976710656 < (z.bytes : Int) * i) := by omega
    by_cases hz0 : i.toNat = 0
    · have hzz : i = 0 := by omega
      subst hzz;simp [execOp, hS.ev hx, hS.ev hy, Instr.makeSlice, run_underlying hu, asInt, asIntOf, hti, hsize, hw, newRow, zeros, Array.range_zero']
    · have hz1 : ¬ (i.toNat * zc.length = 0) := fun h => by rcases Nat.mul_eq_zero.1 h with h | h <;> omega
      simp only [execOp, hS.ev hx, hS.ev hy, Instr.makeSlice, Sem.run_bind, run_underlying hu, Result.andThen_ok, asInt, asIntOf, Sem.run_pure, hti, hw];simp [h4, h5, hsize, hsz, hz1, hzero, hzc, newRow, hcells]
  unfold Oper.wp;rw [hr];exact k _ _ _ (hS.put d _ hd) (hR.new _)
end
theorem lk_without_not {M : List Nat} {S : Slots} {k : Nat} (h : ¬ M.any (Nat.beq k) = true) : lk k (without M S) = lk k S := by
  induction S with
  | nil => rfl
  | cons p S ih =>
    obtain ⟨t, v⟩ := p;rw [without_cons]
    split
    · rename_i hc
      rw [lk_cons, if_neg (fun e => by subst e;exact h hc)];exact ih
    · rw [lk_cons, lk_cons, ih]
theorem Le_inner {M M' : List Nat} {B S : Slots} (h : (M'.all fun x => M.any (Nat.beq x)) = true) (l : Le (without M B) S) : Le (without M B) (without M' S) := by
  intro t v e;by_cases hm : M.any (Nat.beq t) = true
  · rw [lk_without hm] at e;cases e
  · rw [lk_without_not]
    · exact l t v e
    · intro h'
      obtain ⟨x, hx, hxt⟩ := List.any_eq_true.1 h';have := List.all_eq_true.1 h x hx;have e' : t = x := Nat.eq_of_beq_eq_true hxt;subst e';exact hm this
section
open Go Go.ChangeShapes Go.WideShapes Go.ChangeAt Go.RowKit Go.Deep
def ints : List IntKind → List Int → List Value
  | k :: ks, n :: ns => .int k n :: ints ks ns
  | _, _ => []
def wfs : List IntKind → List Int → Prop
  | k :: ks, n :: ns => (k.min ≤ n ∧ n ≤ k.max) ∧ wfs ks ns
  | _, _ => True
def ikf (P : Program) (f : TypeId → Option (List IntKind)) : List Field → Nat → Option (List IntKind)
  | [], _ => some []
  | x :: xs, off => if x.offset = off then
      match f x.type with
      | some ks => if P.cellsOf x.type = ks.length then (match ikf P f xs (off + ks.length) with | some r => some (ks ++ r) | none => none) else none
      | none => none
    else none
def ik (P : Program) : Nat → TypeId → Option (List IntKind)
  | 0, _ => none
  | d + 1, t =>
    match P.underlying t with
    | some (.int k) => some [k]
    | some (.struct fs) => match ikf P (ik P d) fs.toList 0 with | some ks => if P.cellsOf t = ks.length then some ks else none | none => none
    | _ => none
section
variable {H : Type} {enc : TypeId × Value → H} {P : Program} {W : World} {base : Nat} {spare : Nat → Bool} {held : Bool}
structure ArgS (W : World) (ks : List IntKind) (q : Option Addr) (n c : Nat) (xs : List (List Int)) : Prop where
  len : n = xs.length
  cap : n ≤ c ∧ c ≤ 9223372036854775807
  rows : ∀ x ∈ xs, x.length = ks.length ∧ wfs ks x
  cells : 0 < n → ∃ b i, q = some ⟨b, i, none⟩ ∧ ∀ k (h : k < xs.length) j v, (ints ks xs[k])[j]? = some v → W.cell? ⟨b, i + k * ks.length + j, none⟩ = some v
end
theorem ArgS.at {ks : List IntKind} {q : Option Addr} {n c k : Nat} {xs : List (List Int)} {W : World} (A : ArgS W ks q n c xs) (h : k < n) :
    ∃ b i ns, q = some ⟨b, i, none⟩ ∧ xs[k]? = some ns ∧ ns.length = ks.length ∧ wfs ks ns ∧ ∀ j v, (ints ks ns)[j]? = some v → W.cell? ⟨b, i + k * ks.length + j, none⟩ = some v := by
  obtain ⟨b, i, e, hc⟩ := A.cells (by omega);have hk : k < xs.length := by have := A.len;omega
  exact ⟨b, i, xs[k], e, by simp [hk], (A.rows _ (List.getElem_mem hk)).1, (A.rows _ (List.getElem_mem hk)).2, hc k hk⟩
theorem Ex.of_pk2 {r s : HP} {l l1 l2 : List HP} (p : Pk r l l1) (q : Pk s l1 l2) : Ex l l2 := by
  intro σ h hs;obtain ⟨g, hg, s1⟩ := Ex.of_pk p σ h hs;obtain ⟨g2, hg2, s2⟩ := Ex.of_pk q σ g s1;exact ⟨g2, fun b o e => hg b o (hg2 b o e), s2⟩
end
section
variable {P : Program} {Q : Exit → Act → World → Prop} {n : Nat} {a : Act} {S : Slots} {l l' : List HP} {w : World} {d : Nat} {dd : Option Nat} {t : TypeId} {pos : String} {af : Array Edge} {g : Option (Nat × Bool)} {K : Act → World → Prop}
variable {r : Option Addr} {m cap : Nat} {T : TypeId} {sz : Nat} {cs : List Value} {α : Type} {enc : α → List Value} {xs : List α}
theorem Yld.indexL {ty e : TypeId} {x y : Operand} {ik : IntKind} {i : Int} {z : TypeInfo} (k : Nat) (hS : Has n a S) (hx : ev S x = some (.slice r m cap)) (hy : ev S y = some (.int ik i))
    (hu : P.underlying ty = some (.slice e)) (hi : P.info? e = some z) (p : Pk (Sx.sls r m cap T sz cs) l l') (hz : z.size = sz) (hk : i = (k : Int)) (h1 : k < m) :
    Yld P a l ⟨dd, .indexAddr ty x y, t, pos, af, g⟩ (.pointer (some ⟨blkOf r, k * sz, none⟩)) := by
  subst hk hz;exact Yld.indexSls hS hx hy hu hi p (by omega) (by omega)
theorem Yld.indexB {ty e : TypeId} {x y : Operand} {ik : IntKind} {i : Int} {z : TypeInfo} {b : Nat} (k : Nat) (hS : Has n a S) (hx : ev S x = some (.slice (some ⟨b, 0, none⟩) m cap)) (hy : ev S y = some (.int ik i))
    (hu : P.underlying ty = some (.slice e)) (hi : P.info? e = some z) (hz : z.size = sz) (hk : i = (k : Int)) (h1 : k < m) :
    Yld P a l ⟨dd, .indexAddr ty x y, t, pos, af, g⟩ (.pointer (some ⟨b, k * sz, none⟩)) := by
  subst hk hz;have h := Yld.indexSlice (P := P) (l := l) (d := dd) (t := t) (pos := pos) (af := af) (g := g) hS hx hy hu hi (by omega) (by omega);simp only [Int.toNat_natCast, Nat.zero_add] at h;exact h
theorem Rds.rec {k : Nat} (p : Pk (Sx.sls r m cap T sz (xs.flatMap enc)) l l') (hm : ∀ x, (enc x).length = sz) (hk : k < xs.length) : Rds l (blkOf r) (k * sz) (enc xs[k]) := Rds.sls p hm hk
theorem Rd.rec {k j : Nat} {v : Value} (p : Pk (Sx.sls r m cap T sz (xs.flatMap enc)) l l') (hm : ∀ x, (enc x).length = sz) (hk : k < xs.length) (hj : (enc xs[k])[j]? = some v) : Rd l (blkOf r) (k * sz + j) v := by
  intro w hw;exact Rds.sls p hm hk w hw j v hj
theorem Rd.rec0 {k : Nat} {v : Value} (p : Pk (Sx.sls r m cap T sz (xs.flatMap enc)) l l') (hm : ∀ x, (enc x).length = sz) (hk : k < xs.length) (hj : (enc xs[k])[0]? = some v) : Rd l (blkOf r) (k * sz) v := Rd.rec p hm hk hj
theorem Rds.recPart {k j : Nat} {us : List Value} (p : Pk (Sx.sls r m cap T sz (xs.flatMap enc)) l l') (hm : ∀ x, (enc x).length = sz) (hk : k < xs.length) (e : ((enc xs[k]).drop j).take us.length = us) : Rds l (blkOf r) (k * sz + j) us := by
  intro w hw i v hi;have hil : i < us.length := (List.getElem?_eq_some_iff.1 hi).1;have := Rds.sls p hm hk w hw (j + i) v (by
    rw [← e] at hi;rw [List.getElem?_take_of_lt hil, List.getElem?_drop] at hi;exact hi)
  rw [Nat.add_assoc];exact this
theorem Rds.flat1 {b k : Nat} (p : Pk (Sx.blk b (xs.flatMap enc) T) l l') (hm : ∀ x, (enc x).length = sz) (hk : k < xs.length) : Rds l b (k * sz) (enc xs[k]) :=
  Rds.flat (rest := []) (T := T) (by rw [List.append_nil];exact p) hm hk
theorem Rd.flatJ {b k j : Nat} {v : Value} (p : Pk (Sx.blk b (xs.flatMap enc) T) l l') (hm : ∀ x, (enc x).length = sz) (hk : k < xs.length) (hj : (enc xs[k])[j]? = some v) : Rd l b (k * sz + j) v :=
  fun w hw => Rds.flat1 p hm hk w hw j v hj
theorem Rd.flat0 {b k : Nat} {v : Value} (p : Pk (Sx.blk b (xs.flatMap enc) T) l l') (hm : ∀ x, (enc x).length = sz) (hk : k < xs.length) (hj : (enc xs[k])[0]? = some v) : Rd l b (k * sz) v   := Rd.flatJ p hm hk hj
theorem laid_left : ∀ (vs xs ys : List Value) (i : Nat), i + vs.length ≤ xs.length → lay (xs ++ ys) i vs = lay xs i vs ++ ys
  | [], _, _, _, _ => rfl
  | v :: vs, xs, ys, i, h => by
    simp only [List.length_cons] at h;simp only [lay];rw [List.set_append_left _ _ (by omega), laid_left vs _ ys (i + 1) (by simp;omega)]
theorem laid_len : ∀ (vs xs : List Value) (i : Nat), (lay xs i vs).length = xs.length
  | [], _, _ => rfl
  | v :: vs, xs, i => by simp only [lay];rw [laid_len vs _ (i + 1), List.length_set]
theorem laid_right : ∀ (vs xs ys : List Value) (i : Nat), lay (xs ++ ys) (xs.length + i) vs = xs ++ lay ys i vs
  | [], _, _, _ => rfl
  | v :: vs, xs, ys, i => by
    simp only [lay];rw [List.set_append_right _ _ (by omega), show xs.length + i - xs.length = i from by omega, show xs.length + i + 1 = xs.length + (i + 1) from by omega, laid_right vs xs _ (i + 1)]
theorem laid_flat {m : Nat} (hm : ∀ x, (enc x).length = m) {vs : List Value} {j : Nat} {r' : α} : ∀ {rs : List α} {k : Nat} (hk : k < rs.length), j + vs.length ≤ m → lay (enc rs[k]) j vs = enc r' →
    lay (rs.flatMap enc) (k * m + j) vs = (rs.set k r').flatMap enc
  | [], k, hk, _, _ => by simp at hk
  | r :: rs, 0, _, hj, e => by
    simp only [List.getElem_cons_zero] at e;simp only [List.flatMap_cons, List.set_cons_zero, Nat.zero_mul, Nat.zero_add];rw [laid_left _ _ _ _ (by rw [hm];exact hj), e]
  | r :: rs, k + 1, hk, hj, e => by
    simp only [List.getElem_cons_succ] at e;have ih := laid_flat hm (rs := rs) (k := k) (by simpa using hk) hj e;simp only [List.flatMap_cons, List.set_cons_succ];rw [← ih, Nat.succ_mul, show k * m + m + j = (enc r).length + (k * m + j) from by rw [hm];omega, laid_right]
theorem BstoreS {ty : TypeId} {x y : Operand} {i : Nat} {v : Value} {vs : List Value} {z : TypeInfo} (hS : Has n a S) (hR : Sep l w) (hx : ev S x = some (.pointer (some ⟨blkOf r, i, none⟩))) (hy : ev S y = some v)
    (hv : v.cells = vs.toArray) (hi : P.info? ty = some z) (hz : z.size = vs.length) (p : Pk (Sx.sls r m cap T sz cs) l l') (h1 : vs.all Value.oneCell' = true) (hl : i + vs.length ≤ cs.length) (hpos : 0 < vs.length)
    (k : ∀ w', Sep (Sx.sls r m cap T sz (lay cs i vs) :: l') w' → K a w') : Oper.wp P ⟨none, .store ty x y, t, pos, af, g⟩ a w K Q := by
  rcases (hR.pk p).slsE with ⟨_, _, _, h4, _⟩ | ⟨b, rest, e1, e2, e3, e4, hR'⟩
  · subst h4;simp only [List.length_nil] at hl;omega
  · subst e1
    refine Bstore (b := b) (i := i) (T := T) (cs := cs ++ rest) hS hR' hx hy hv hi hz .here h1 (by simp;omega) fun w' h => k w' ?_;rw [laid_left _ _ _ _ hl] at h;exact Sep.slsI h (by rw [laid_len, e2]) (by rw [laid_len, e3]) e4
theorem BstoreR {ty : TypeId} {x y : Operand} {k j : Nat} {v : Value} {vs : List Value} {z : TypeInfo} (x' : α) (hS : Has n a S) (hR : Sep l w) (hx : ev S x = some (.pointer (some ⟨blkOf r, k * sz + j, none⟩))) (hy : ev S y = some v)
    (hv : v.cells = vs.toArray) (hi : P.info? ty = some z) (hz : z.size = vs.length) (p : Pk (Sx.sls r m cap T sz (xs.flatMap enc)) l l') (h1 : vs.all Value.oneCell' = true) (hm : ∀ x, (enc x).length = sz) (hk : k < xs.length) (hj : j + vs.length ≤ sz) (hpos : 0 < vs.length) (e : lay (enc xs[k]) j vs = enc x')
    (kk : ∀ w', Sep (Sx.sls r m cap T sz ((xs.set k x').flatMap enc) :: l') w' → K a w') : Oper.wp P ⟨none, .store ty x y, t, pos, af, g⟩ a w K Q := by
  have hlen : (xs.flatMap enc).length = xs.length * sz := flat_len hm xs;have hle : k * sz + sz ≤ xs.length * sz := by rw [← Nat.succ_mul];exact Nat.mul_le_mul_right _ hk
  refine BstoreS hS hR hx hy hv hi hz p h1 (by omega) hpos fun w' h => kk w' ?_;rw [laid_flat hm hk hj e] at h;exact h
theorem BstoreR0 {ty : TypeId} {x y : Operand} {k : Nat} {v : Value} {vs : List Value} {z : TypeInfo} (x' : α) (hS : Has n a S) (hR : Sep l w) (hx : ev S x = some (.pointer (some ⟨blkOf r, k * sz, none⟩))) (hy : ev S y = some v)
    (hv : v.cells = vs.toArray) (hi : P.info? ty = some z) (hz : z.size = vs.length) (p : Pk (Sx.sls r m cap T sz (xs.flatMap enc)) l l') (h1 : vs.all Value.oneCell' = true) (hm : ∀ x, (enc x).length = sz) (hk : k < xs.length) (hj : vs.length ≤ sz) (hpos : 0 < vs.length) (e : lay (enc xs[k]) 0 vs = enc x')
    (kk : ∀ w', Sep (Sx.sls r m cap T sz ((xs.set k x').flatMap enc) :: l') w' → K a w') : Oper.wp P ⟨none, .store ty x y, t, pos, af, g⟩ a w K Q :=
  BstoreR (j := 0) x' hS hR hx hy hv hi hz p h1 hm hk (by omega) hpos e kk
theorem XC.one {b c : Nat} (x : α) (p : Pk (Sx.blk b cs T) l l') (e : cs = enc x) (hl : (enc x).length = sz) : XC P l sz (.slice (some ⟨b, 0, none⟩) 1 c) 1 ([x].flatMap enc) := by
  subst e;have := XC.blk (P := P) (m := 1) (sz := sz) (c := c) p (by rw [hl, Nat.one_mul]);simpa using this
theorem flat_sub (hm : ∀ x, (enc x).length = sz) : ∀ (xs : List α) (lo k : Nat), ((xs.flatMap enc).drop (lo * sz)).take (k * sz) = ((xs.drop lo).take k).flatMap enc
  | xs, 0, 0 => by simp
  | [], lo, k => by simp
  | x :: xs, 0, k + 1 => by
    have ih := flat_sub hm xs 0 k;simp only [Nat.zero_mul, List.drop_zero, List.flatMap_cons, List.take_succ_cons] at *;rw [Nat.succ_mul, Nat.add_comm, ← hm x, List.take_append, List.take_of_length_le (by omega), show (enc x).length + k * (enc x).length - (enc x).length = k * (enc x).length from by omega, hm x, ih]
  | x :: xs, lo + 1, k => by
    have ih := flat_sub hm xs lo k;rw [List.flatMap_cons, List.drop_succ_cons, ← ih, Nat.succ_mul, Nat.add_comm, ← hm x, List.drop_append, List.drop_of_length_le (by omega), List.nil_append, show (enc x).length + lo * (enc x).length - (enc x).length = lo * (enc x).length from by omega]
theorem XC.part {q : Option Addr} {k c lo : Nat} (p : Pk (Sx.sls r m cap T sz (xs.flatMap enc)) l l') (hm : ∀ x, (enc x).length = sz) (hq : q = if cap = lo then r else r.map fun x => x.add (lo * sz)) (hk : lo + k ≤ m) :
    XC P l sz (.slice q k c) k (((xs.drop lo).take k).flatMap enc) := by
  rw [← flat_sub hm];exact XC.sub p hq hk
theorem XC.upto {k c : Nat} (p : Pk (Sx.sls r m cap T sz (xs.flatMap enc)) l l') (hm : ∀ x, (enc x).length = sz) (hk : k ≤ m) :
    XC P l sz (.slice r k c) k ((xs.take k).flatMap enc) := by
  intro w hw;have hle := (hw.pk p).slsLe.1;by_cases hc : cap = 0
  · obtain rfl : k = 0 := by omega
    simpa using XC.zero (P := P) (l := l) (sz := sz) (q := r) (c := c) w hw
  · have := XC.part (P := P) (lo := 0) (c := c) (q := r) p hm (by rw [if_neg hc];cases r <;> simp [Addr.add_zero']) (by omega : 0 + k ≤ m)
    simpa using this w hw
theorem XC.all (p : Pk (Sx.sls r m cap T sz (xs.flatMap enc)) l l') : XC P l sz (.slice r m cap) m (xs.flatMap enc) := XC.sls p
theorem BappendR {ty e : TypeId} {x y : Operand} {q : Option Addr} {m2 c2 : Nat} {ys : List α} {z : TypeInfo} {zv : Value} (hS : Has n a S) (hR : Sep l w)
    (hx : ev S x = some (.slice r m cap)) (hy : ev S y = some (.slice q m2 c2)) (hu : P.underlying ty = some (.slice e)) (hi : P.info? e = some z) (hz : z.zero = some zv) (hsz : z.size = sz) (hzs : zv.cells.size = sz)
    (p : Pk (Sx.sls r m cap e sz (xs.flatMap enc)) l l') (hn : XC P l sz (.slice q m2 c2) m2 (ys.flatMap enc)) (h1 : ∀ x, (enc x).all Value.oneCell' = true) (hb : (m + m2) * z.bytes ≤ 140737488355328) (hm : m + m2 ≤ 9223372036854775807) (hl : (xs ++ ys).length = m + m2) (hd : d < n)
    (k : ∀ a' w' r' cap', Has n a' ((d, .slice r' (xs ++ ys).length cap') :: S) → Sep (Sx.sls r' (xs ++ ys).length cap' e sz ((xs ++ ys).flatMap enc) :: l') w' → K a' w') :
    Oper.wp P ⟨some d, .call { callee := .builtin .append, args := [x, y].toArray, argTypes := [ty, ty].toArray }, t, pos, af, g⟩ a w K Q := by
  refine Bappend hS hR hx hy hu hi hz hsz hzs p hn ?_ hb hm hd fun a' w' r' cap' h2 h3 => k a' w' r' cap' (by rw [hl];exact h2) (by rw [hl, List.flatMap_append];exact h3);rw [List.all_flatMap];simp [h1]
theorem Sep.toRecs {b m : Nat} (xs : List α) (h : Sep (Sx.blk b cs T :: l) w) (e : cs = xs.flatMap enc) (hm : ∀ x, (enc x).length = sz) (hl : m = xs.length) : Sep (Sx.sls (some ⟨b, 0, none⟩) m m T sz (xs.flatMap enc) :: l) w := by
  subst e hl;exact h.slsB (flat_len hm xs)
end
theorem thenX {Q : Exit → Act → World → Prop} {a : Act} {w : World} {K : Act → World → Prop} {id : Nat} (h : Q (.exit id) a w) : Exit.then K Q (.exit id) a w := h
theorem blockX {Q : Exit → Act → World → Prop} {a : Act} {w : World} {id : Nat} (h : Q .normal a w) : Exit.inBlock id Q (.exit id) a w := by
  simp only [Exit.inBlock];simpa using h
theorem blockY {Q : Exit → Act → World → Prop} {a : Act} {w : World} {id id' : Nat} (hn : Nat.beq id' id = false) (h : Q (.exit id') a w) : Exit.inBlock id Q (.exit id') a w := by
  have hne : ¬ id' = id := fun e => by subst e;simp at hn
  simp only [Exit.inBlock, if_neg hne];exact h
theorem Yld.to {P : Program} {a : Act} {l : List HP} {o : Oper} {v u : Value} (h : Yld P a l o v) (e : v = u) : Yld P a l o u := e ▸ h
theorem stars_app : ∀ (L l : List HP) (σ : Sig) (h : PH), stars (L ++ l) σ h ↔ star (stars L) (stars l) σ h
  | [], l, σ, h => by
    constructor
    · intro s;exact ⟨PH.emp, h, PH.emp_disj _, (PH.emp_uni _).symm, rfl, s⟩
    · rintro ⟨g, k, d, rfl, e, s⟩
      have e' : g = PH.emp := e;subst e';rw [PH.emp_uni];exact s
  | P :: L, l, σ, h => by
    constructor
    · intro s
      have s1 : star P (stars (L ++ l)) σ h := s;exact star_assoc' (star_mono (fun _ x => x) (fun g x => (stars_app L l σ g).1 x) s1)
    · intro s
      have s1 : star P (star (stars L) (stars l)) σ h := star_assoc s;exact star_mono (fun _ x => x) (fun g x => (stars_app L l σ g).2 x) s1
theorem Sep.unpack {l L : List HP} {w : World} (h : Sep (stars L :: l) w) : Sep (L ++ l) w :=
  let ⟨g, hs, s⟩ := h;⟨g, hs, (stars_app L l _ g).2 s⟩
theorem Sep.packL {l : List HP} {w : World} (L : List HP) (h : Sep (L ++ l) w) : Sep (stars L :: l) w :=
  let ⟨g, hs, s⟩ := h;⟨g, hs, (stars_app L l _ g).1 s⟩
def box {X : Type} (C : X → Prop) (L : X → List HP) : HP := ex fun x => star (pure' (C x)) (stars (L x))
theorem Sep.boxE {X : Type} {C : X → Prop} {L : X → List HP} {l : List HP} {w : World} (h : Sep (box C L :: l) w) : ∃ x, C x ∧ Sep (L x ++ l) w := by
  obtain ⟨x, h⟩ := h.exE;obtain ⟨h1, h2⟩ := h.split.pureE;exact ⟨x, h1, h2.unpack⟩
theorem Sep.boxI {X : Type} {C : X → Prop} {L : X → List HP} {l : List HP} {w : World} (x : X) (hC : C x) (h : Sep (L x ++ l) w) : Sep (box C L :: l) w :=
  Sep.exI x (Sep.join (Sep.pureI hC (Sep.packL _ h)))
section
variable {P : Program} {md : Region.Mode} {ops : Array Oper} {Q : Exit → Act → World → Prop} {T : World → Prop} {m : Nat}
def wpAnyL (P : Program) (md : Region.Mode) (ops : Array Oper) (Q : Exit → Act → World → Prop) (T : World → Prop) (m : Nat) : Nat → Array Bool → Act → World → Prop
  | 0, listed, a, w => Region.ready md ops listed = [] ∧ Q .normal a w
  | fuel + 1, listed, a, w =>
    (Region.ready md ops listed = [] → Q .normal a w) ∧
    ∀ i ∈ Region.ready md ops listed, wpOp P ops Q i (fun a' w' => (i ≠ m → T w') ∧ wpAnyL P md ops Q T m fuel (listed.setIfInBounds i true) a' w') a w
theorem wpAny_of_L : ∀ (fuel : Nat) (listed : Array Bool) (a : Act) (w : World), wpAnyL P md ops Q T m fuel listed a w → wpAny P md ops Q fuel listed a w
  | 0, _, _, _, h => h
  | fuel + 1, _, _, _, h => ⟨h.1, fun i hi => wpOp_mono (fun a' w' h' => wpAny_of_L fuel _ a' w' h'.2) (h.2 i hi)⟩
def waitsB (md : Region.Mode) (ops : Array Oper) (m i : Nat) : Bool := match ops[m]? with
  | some o => o.after.any fun e => Region.binds md e && e.on == i
  | none => false
theorem wpAnyL_first {i : Nat} {oi : Oper} {v : Value} (hi : ops[i]? = some oi) (hsel : ∀ (j : Nat) (o : Oper) cs b, ops[j]? = some o → o.op ≠ .select cs b) (him : waitsB md ops m i = true)
    (hQ : ∀ c a w, Q (.panic c) (a.put oi.dst v) w → Q (.panic c) a w) :
    ∀ (fuel : Nat) (listed : Array Bool) (a : Act) (w : World),
      (∀ j oj, ops[j]? = some oj → j ≠ i → listed.getD j true = false → (∀ e ∈ oj.after, Region.binds md e = true → e.on ≠ i) → oi.apart ops oj = true) →
      i ∈ Region.ready md ops listed → YieldsIf P ops T oi v a → T w →
      wpAnyL P md ops Q T m fuel (listed.setIfInBounds i true) (a.put oi.dst v) w → wpAnyL P md ops Q T m (fuel + 1) listed a w := by
  intro fuel
  induction fuel with
  | zero =>
    intro listed a w _ hr hy hS H;refine ⟨fun h => (by rw [h] at hr;cases hr), fun j hj => ?_⟩;by_cases hji : j = i
    · subst hji;exact hy.wpOp hi hS ⟨fun _ => hS, H⟩
    · have := ready_mono hj hji
      rw [H.1] at this;cases this
  | succ fuel ih =>
    intro listed a w hfree hr hy hS H;refine ⟨fun h => (by rw [h] at hr;cases hr), fun j hj => ?_⟩;by_cases hji : j = i
    · subst hji;exact hy.wpOp hi hS ⟨fun _ => hS, H⟩
    · have h1 := H.2 j (ready_mono hj hji)
      obtain ⟨hjun, oj, hoj, hall⟩ := mem_ready.1 hj;have hnot : ∀ e ∈ oj.after, Region.binds md e = true → e.on ≠ i := fun e he hb heq => by
        have h1 := hall e he hb;have h0 := (mem_ready.1 hr).1;rw [heq] at h1;rcases Nat.lt_or_ge i listed.size with h' | h'
        · simp [h'] at h0 h1;rw [h0] at h1;cases h1
        · simp [Array.getElem?_eq_none h'] at h1
      have hjm : j ≠ m := fun e => by
        subst e;unfold waitsB at him;rw [hoj] at him;obtain ⟨x, hx, hb⟩ := Array.any_eq_true.1 him;simp only [Bool.and_eq_true, beq_iff_eq] at hb;exact hnot _ (Array.getElem_mem hx) hb.1 hb.2
      have h2 := wpOp_putIf hoj (hfree j oj hoj hji hjun hnot) (fun cs b => hsel i oi cs b hi) (fun cs b => hsel j oj cs b hoj) hQ hy h1;have hfree' : ∀ k ok, ops[k]? = some ok → k ≠ i → (listed.setIfInBounds j true).getD k true = false →
          (∀ e ∈ ok.after, Region.binds md e = true → e.on ≠ i) → oi.apart ops ok = true := fun k ok hk hki hun hno => by
        refine hfree k ok hk hki ?_ hno;by_cases hjk : j = k
        · subst hjk;exact hjun
        · rw [getD_set_ne true hjk] at hun;exact hun
      refine wpOp_mono (fun a' w' h3 => ⟨h3.2.1, ih (listed.setIfInBounds j true) a' w' hfree' (ready_mono hr (Ne.symm hji)) h3.1 (h3.2.1 hjm) ?_⟩) h2;rw [Array.setIfInBounds_comm _ _ hji];exact h3.2.2
theorem wpAnyL_done {listed : Array Bool} {a : Act} {w : World} (hr : Region.ready md ops listed = []) (h : Q .normal a w) :
    ∀ fuel, wpAnyL P md ops Q T m fuel listed a w
  | 0 => ⟨hr, h⟩
  | _ + 1 => ⟨fun _ => h, by rw [hr];simp⟩
end
section
variable {P : Program} {ops : Array Oper} {Q : Exit → Act → World → Prop} {n : Nat} {a : Act} {S : Slots} {l l0 : List HP} {w : World} {fuel : Nat} {listed : Array Bool} {op : Op} {t : TypeId} {pos : String} {af : Array Edge} {d : Nat} {K : Act → World → Prop} {m : Nat}
theorem drawnL {id : Nat} (m : Nat) (hm : P.follows .mixedOrders = true) (hR : Sep l w)
    (h : ∀ w, Sep l w → wpAnyL P .any ops Q (Sep l) m ops.size (Array.replicate ops.size false) a w) : (Code.region id ops true).wp P Q a w :=
  wp_region_any hm (wpAny_of_L _ _ _ _ (h _ hR.drewN))
theorem lA {v : Value} (i : Nat) (hi : ops[i]? = some ⟨some d, op, t, pos, af, none⟩) (hs : Region.noSelect ops = true) (hf : Region.free .any ops listed i = true) (hr : (Region.ready .any ops listed).contains i = true) (hw : waitsB .any ops m i = true)
    (hQ : ∀ c (a : Act) w, Q (.panic c) (a.put (some d) v) w → Q (.panic c) a w) (hS : Has n a S) (hR0 : Sep l0 w) (hy : Yld P a l0 ⟨some d, op, t, pos, af, none⟩ v) (hd : d < n)
    (k : ∀ a', Has n a' ((d, v) :: S) → wpAnyL P .any ops Q (Sep l0) m fuel (listed.setIfInBounds i true) a' w) : wpAnyL P .any ops Q (Sep l0) m (fuel + 1) listed a w :=
  wpAnyL_first hi (Region.noSelect_spec hs) hw hQ fuel listed a w (Region.free_spec hi hf) (by simpa using hr) (.inl ⟨by simp [Region.wanted], fun w hw => hy w hw⟩) hR0 (k _ (hS.put d v hd))
theorem lnext {G : Prop} {i : Nat} (h : Sep l0 w) (k : Sep l0 w → G) : (i ≠ m → Sep l0 w) ∧ G := ⟨fun _ => h, k h⟩
theorem lend {G : Prop} (k : G) : (m ≠ m → Sep l0 w) ∧ G := ⟨fun h => absurd rfl h, k⟩
theorem lOne {i : Nat} (hr : Region.ready .any ops listed = [i]) (h : wpOp P ops Q i (fun a' w' => (i ≠ m → Sep l0 w') ∧ wpAnyL P .any ops Q (Sep l0) m fuel (listed.setIfInBounds i true) a' w') a w) : wpAnyL P .any ops Q (Sep l0) m (fuel + 1) listed a w :=
by
  refine ⟨fun e => (by rw [hr] at e;cases e), fun x hx => ?_⟩;rw [hr] at hx;simp only [List.mem_cons, List.not_mem_nil, or_false] at hx;subst hx;exact h
theorem lTwo {i j : Nat} (hr : Region.ready .any ops listed = [i, j]) (h : wpOp P ops Q i (fun a' w' => (i ≠ m → Sep l0 w') ∧ wpAnyL P .any ops Q (Sep l0) m fuel (listed.setIfInBounds i true) a' w') a w)
    (h2 : wpOp P ops Q j (fun a' w' => (j ≠ m → Sep l0 w') ∧ wpAnyL P .any ops Q (Sep l0) m fuel (listed.setIfInBounds j true) a' w') a w) : wpAnyL P .any ops Q (Sep l0) m (fuel + 1) listed a w :=
by
  refine ⟨fun e => (by rw [hr] at e;cases e), fun x hx => ?_⟩;rw [hr] at hx;simp only [List.mem_cons, List.not_mem_nil, or_false] at hx;rcases hx with rfl | rfl
  · exact h
  · exact h2
end
section
variable {P : Program} {ops : Array Oper} {Q : Exit → Act → World → Prop} {n : Nat} {S : Slots} {l : List HP} {w : World} {rest : List Oper}
  {d : Nat} {op : Op} {t : TypeId} {pos : String} {af : Array Edge} {x : Operand} {v : Value}
theorem qA (hR : Sep l w) (hd : Nat.ble (d + 1) n = true) (hy : ∀ a, Has n a S → Yld P a l ⟨some d, op, t, pos, af, none⟩ v)
    (k : ∀ a, Has n a ((d, v) :: S) → wpList P ops Q rest a w) : ∀ a, Has n a S → wpList P ops Q (⟨some d, op, t, pos, af, none⟩ :: rest) a w := fun a hS => sA hS hR (hy a hS) (Nat.le_of_ble_eq_true hd) k
theorem qM (hR : Sep l w) (k : ∀ a, Has n a ((d, v) :: S) → wpList P ops Q rest a w) (hx : ev S x = some v := by exact rfl) (hd : d < n := by decide) :
    ∀ a, Has n a S → wpList P ops Q (⟨some d, .move x, t, pos, af, none⟩ :: rest) a w := fun a hS => sA hS hR (Yld.move hS hx) hd k
theorem qN (hR : Sep l w) (k : ∀ a, Has n a ((d, v) :: S) → wpList P ops Q rest a w) (hx : ev S x = some v := by exact rfl) (hd : d < n := by decide) :
    ∀ a, Has n a S → wpList P ops Q (⟨some d, .assign x, t, pos, af, none⟩ :: rest) a w := fun a hS => sA hS hR (Yld.assign hS hx) hd k
theorem qX {vs : List Value} {i : Nat} (hR : Sep l w) (k : ∀ a, Has n a ((d, v) :: S) → wpList P ops Q rest a w) (hx : ev S x = some (.tuple vs.toArray) := by exact rfl) (hi : vs[i]? = some v := by exact rfl) (hd : d < n := by decide) :
    ∀ a, Has n a S → wpList P ops Q (⟨some d, .extract x i, t, pos, af, none⟩ :: rest) a w := fun a hS => sA hS hR (Yld.extract hS hx hi) hd k
theorem qAg {j tj : Nat} {b : Bool} (hR : Sep l w) (hd : Nat.ble (d + 1) n = true) (hj : (ops[j]?).bind (·.dst) = some tj) (hg : lk tj S = some (.bool b)) (hy : ∀ a, Has n a S → Yld P a l ⟨some d, op, t, pos, af, some (j, b)⟩ v)
    (k : ∀ a, Has n a ((d, v) :: S) → wpList P ops Q rest a w) : ∀ a, Has n a S → wpList P ops Q (⟨some d, op, t, pos, af, some (j, b)⟩ :: rest) a w := fun a hS => sAg hS hR hj hg (hy a hS) (Nat.le_of_ble_eq_true hd) k
theorem qMg {j tj : Nat} {b : Bool} (hR : Sep l w) (k : ∀ a, Has n a ((d, v) :: S) → wpList P ops Q rest a w) (hj : (ops[j]?).bind (·.dst) = some tj := by exact rfl) (hg : lk tj S = some (.bool b) := by exact rfl) (hx : ev S x = some v := by exact rfl) (hd : d < n := by decide) :
    ∀ a, Has n a S → wpList P ops Q (⟨some d, .move x, t, pos, af, some (j, b)⟩ :: rest) a w := fun a hS => sAg hS hR hj hg (Yld.move hS hx) hd k
theorem qZ {j tj : Nat} {b c : Bool} (k : ∀ a, Has n a ((d, undef) :: S) → wpList P ops Q rest a w) (hj : (ops[j]?).bind (·.dst) = some tj := by exact rfl) (hg : lk tj S = some (.bool c) := by exact rfl) (hbc : (c == b) = false := by exact rfl) (hd : d < n := by decide) :
    ∀ a, Has n a S → wpList P ops Q (⟨some d, op, t, pos, af, some (j, b)⟩ :: rest) a w := fun a hS => sSkip hS hj hg hbc hd k
theorem qB {G : Act → Prop} {t : Nat} {e : Bool} (u : Bool) (hl : lk t S = some (.bool e)) (h : e = u) (k : ∀ a, Has n a ((t, .bool u) :: S) → G a) : ∀ a, Has n a S → G a := fun a hS => k a (hS.sayB u hl h)
end
section
variable {P : Program} {ops : Array Oper} {Q : Exit → Act → World → Prop} {n : Nat} {S : Slots} {l0 : List HP} {w : World} {fuel : Nat} {listed : Array Bool}
  {d : Nat} {op : Op} {t : TypeId} {pos : String} {af : Array Edge} {v : Value}
def firstB (ops : Array Oper) (listed : Array Bool) (i : Nat) : Bool := Region.noSelect ops && (Region.free .any ops listed i && (Region.ready .any ops listed).contains i)
theorem firstB_spec {ops : Array Oper} {listed : Array Bool} {i : Nat} (h : firstB ops listed i = true) : Region.noSelect ops = true ∧ Region.free .any ops listed i = true ∧ (Region.ready .any ops listed).contains i = true := by
  simpa [firstB] using h
theorem eA (i : Nat) (hi : ops[i]? = some ⟨some d, op, t, pos, af, none⟩) (hb : firstB ops listed i = true) (hQ : ∀ c (a : Act) w, Q (.panic c) (a.put (some d) v) w → Q (.panic c) a w) (hR0 : Sep l0 w) (hd : Nat.ble (d + 1) n = true)
    (hy : ∀ a, Has n a S → Yld P a l0 ⟨some d, op, t, pos, af, none⟩ v)
    (k : ∀ a, Has n a ((d, v) :: S) → wpAnyH P .any ops Q (Sep l0) fuel (listed.setIfInBounds i true) a w) : ∀ a, Has n a S → wpAnyH P .any ops Q (Sep l0) (fuel + 1) listed a w :=
  fun a hS => dA i hi (firstB_spec hb).1 (firstB_spec hb).2.1 (firstB_spec hb).2.2 hQ hS hR0 (hy a hS) (Nat.le_of_ble_eq_true hd) k
theorem eAg {j tj : Nat} {b : Bool} (i : Nat) (hi : ops[i]? = some ⟨some d, op, t, pos, af, some (j, b)⟩) (hb : firstB ops listed i = true) (hQ : ∀ c (a : Act) w, Q (.panic c) (a.put (some d) v) w → Q (.panic c) a w) (hR0 : Sep l0 w) (hd : Nat.ble (d + 1) n = true)
    (hj : (ops[j]?).bind (·.dst) = some tj) (hg : lk tj S = some (.bool b)) (hy : ∀ a, Has n a S → Yld P a l0 ⟨some d, op, t, pos, af, some (j, b)⟩ v)
    (k : ∀ a, Has n a ((d, v) :: S) → wpAnyH P .any ops Q (Sep l0) fuel (listed.setIfInBounds i true) a w) : ∀ a, Has n a S → wpAnyH P .any ops Q (Sep l0) (fuel + 1) listed a w :=
  fun a hS => dAg i hi (firstB_spec hb).1 (firstB_spec hb).2.1 (firstB_spec hb).2.2 hQ hS hj hg hR0 (hy a hS) (Nat.le_of_ble_eq_true hd) k
theorem eZ {j tj : Nat} {b c : Bool} (i : Nat) (hi : ops[i]? = some ⟨some d, op, t, pos, af, some (j, b)⟩) (hR0 : Sep l0 w)
    (k : ∀ a, Has n a ((d, undef) :: S) → wpAnyH P .any ops Q (Sep l0) fuel (listed.setIfInBounds i true) a w)
    (hj : (ops[j]?).bind (·.dst) = some tj := by exact rfl) (hg : lk tj S = some (.bool c) := by exact rfl) (hbc : (c == b) = false := by exact rfl)
    (hs : Region.noSelect ops = true := by kernel_rfl) (hf : Region.free .any ops listed i = true := by kernel_rfl) (hr : (Region.ready .any ops listed).contains i = true := by kernel_rfl)
    (hQ : ∀ c (a : Act) w, Q (.panic c) (a.put (some d) undef) w → Q (.panic c) a w := by exact fun _ _ _ h => h) (hd : d < n := by decide) : ∀ a, Has n a S → wpAnyH P .any ops Q (Sep l0) (fuel + 1) listed a w :=
  fun a hS => dSkip i hi hs hf hr hQ hS hj hg hbc hR0 hd k
theorem eU {j tj : Nat} {b : Bool} (i : Nat) (hi : ops[i]? = some ⟨some d, op, t, pos, af, some (j, b)⟩) (hR0 : Sep l0 w)
    (k : ∀ a, Has n a ((d, undef) :: S) → wpAnyH P .any ops Q (Sep l0) fuel (listed.setIfInBounds i true) a w)
    (hj : (ops[j]?).bind (·.dst) = some tj := by exact rfl) (hg : lk tj S = some undef := by exact rfl)
    (hs : Region.noSelect ops = true := by kernel_rfl) (hf : Region.free .any ops listed i = true := by kernel_rfl) (hr : (Region.ready .any ops listed).contains i = true := by kernel_rfl)
    (hQ : ∀ c (a : Act) w, Q (.panic c) (a.put (some d) undef) w → Q (.panic c) a w := by exact fun _ _ _ h => h) (hd : d < n := by decide) : ∀ a, Has n a S → wpAnyH P .any ops Q (Sep l0) (fuel + 1) listed a w :=
  fun a hS => dSkipU i hi hs hf hr hQ hS hj hg hR0 hd k
end
section
variable {P : Program} {n : Nat} {a : Act} {S : Slots} {l l' : List HP} {b i : Nat} {v : Value} {d : Option Nat} {t : TypeId} {pos : String} {af : Array Edge} {g : Option (Nat × Bool)}
theorem rdQ (h : Rd l b i v := by first | exact Rd.blk pkQ (by rfl) | exact Rd.rec pkQ (by intro _;rfl) (by first | omega | (rw [tab_len];omega) | (rw [nods_len];omega) | (rw [tabN_len];omega)) rfl | exact Rd.rec0 pkQ (by intro _;rfl) (by first | omega | (rw [tab_len];omega) | (rw [nods_len];omega) | (rw [tabN_len];omega)) rfl | exact Rd.flatJ pkQ (by intro _;rfl) (by first | omega | (rw [tab_len];omega) | (rw [nods_len];omega) | (rw [tabN_len];omega)) rfl | exact Rd.flat0 pkQ (by intro _;rfl) (by first | omega | (rw [tab_len];omega) | (rw [nods_len];omega) | (rw [tabN_len];omega)) rfl) : Rd l b i v := h
theorem rdsQ2 {vs : List Value} (h : Rds l b i vs := by first | exact Rds.cons (Rd.blk pkQ (by rfl)) (Rds.cons (Rd.blk pkQ (by rfl)) (Rds.nil)) | exact Rds.rec pkQ (by intro _;rfl) (by first | omega | (rw [tab_len];omega) | (rw [nods_len];omega) | (rw [tabN_len];omega)) | exact Rds.flat1 pkQ (by intro _;rfl) (by first | omega | (rw [tab_len];omega) | (rw [nods_len];omega) | (rw [tabN_len];omega))) : Rds l b i vs := h
theorem rdsQ3 {vs : List Value} (h : Rds l b i vs := by first | exact Rds.cons (Rd.blk pkQ (by rfl)) (Rds.cons (Rd.blk pkQ (by rfl)) (Rds.cons (Rd.blk pkQ (by rfl)) (Rds.nil))) | exact Rds.rec pkQ (by intro _;rfl) (by first | omega | (rw [tab_len];omega) | (rw [nods_len];omega) | (rw [tabN_len];omega)) | exact Rds.flat1 pkQ (by intro _;rfl) (by first | omega | (rw [tab_len];omega) | (rw [nods_len];omega) | (rw [tabN_len];omega))) : Rds l b i vs := h
theorem rdsQ4 {vs : List Value} (h : Rds l b i vs := by first | exact Rds.cons (Rd.blk pkQ (by rfl)) (Rds.cons (Rd.blk pkQ (by rfl)) (Rds.cons (Rd.blk pkQ (by rfl)) (Rds.cons (Rd.blk pkQ (by rfl)) (Rds.nil)))) | exact Rds.rec pkQ (by intro _;rfl) (by first | omega | (rw [tab_len];omega) | (rw [nods_len];omega) | (rw [tabN_len];omega)) | exact Rds.flat1 pkQ (by intro _;rfl) (by first | omega | (rw [tab_len];omega) | (rw [nods_len];omega) | (rw [tabN_len];omega))) : Rds l b i vs := h
theorem rdsQ5 {vs : List Value} (h : Rds l b i vs := by first | exact Rds.cons (Rd.blk pkQ (by rfl)) (Rds.cons (Rd.blk pkQ (by rfl)) (Rds.cons (Rd.blk pkQ (by rfl)) (Rds.cons (Rd.blk pkQ (by rfl)) (Rds.cons (Rd.blk pkQ (by rfl)) (Rds.nil))))) | exact Rds.rec pkQ (by intro _;rfl) (by first | omega | (rw [tab_len];omega) | (rw [nods_len];omega) | (rw [tabN_len];omega)) | exact Rds.flat1 pkQ (by intro _;rfl) (by first | omega | (rw [tab_len];omega) | (rw [nods_len];omega) | (rw [tabN_len];omega))) : Rds l b i vs := h
theorem rdsQ6 {vs : List Value} (h : Rds l b i vs := by first | exact Rds.cons (Rd.blk pkQ (by rfl)) (Rds.cons (Rd.blk pkQ (by rfl)) (Rds.cons (Rd.blk pkQ (by rfl)) (Rds.cons (Rd.blk pkQ (by rfl)) (Rds.cons (Rd.blk pkQ (by rfl)) (Rds.cons (Rd.blk pkQ (by rfl)) (Rds.nil)))))) | exact Rds.rec pkQ (by intro _;rfl) (by first | omega | (rw [tab_len];omega) | (rw [nods_len];omega) | (rw [tabN_len];omega)) | exact Rds.flat1 pkQ (by intro _;rfl) (by first | omega | (rw [tab_len];omega) | (rw [nods_len];omega) | (rw [tabN_len];omega))) : Rds l b i vs := h
theorem adQ {ty ty' : TypeId} {x y : Operand} (h : Yld P a l ⟨d, .binOp .add ty x y ty', t, pos, af, g⟩ v := by first | exact Yld.add64 hS rfl rfl (by omega) | exact Yld.add hS rfl rfl) : Yld P a l ⟨d, .binOp .add ty x y ty', t, pos, af, g⟩ v := h
theorem suQ {ty ty' : TypeId} {x y : Operand} (h : Yld P a l ⟨d, .binOp .sub ty x y ty', t, pos, af, g⟩ v := by first | exact Yld.sub64 hS rfl rfl (by omega) | exact Yld.sub hS rfl rfl) : Yld P a l ⟨d, .binOp .sub ty x y ty', t, pos, af, g⟩ v := h
theorem ilQ {ty e : TypeId} {x y : Operand} {z : TypeInfo} {b : Nat} (sz k : Nat) (hu : P.underlying ty = some (.slice e)) (hi : P.info? e = some z)
    (h : P.underlying ty = some (.slice e) → P.info? e = some z → Yld P a l ⟨d, .indexAddr ty x y, t, pos, af, g⟩ (.pointer (some ⟨b, k * sz, none⟩)) := by
      intro hu hi;first | exact Yld.indexL _ hS rfl rfl hu hi pkQ rfl (by first | rfl | omega) (by omega) | exact Yld.indexB _ hS rfl rfl hu hi rfl (by first | rfl | omega) (by omega)) :
    Yld P a l ⟨d, .indexAddr ty x y, t, pos, af, g⟩ (.pointer (some ⟨b, k * sz, none⟩)) := h hu hi
theorem ihQ {ty e : TypeId} {x y : Operand} {z : TypeInfo} {b : Nat} (sz k : Nat) (hu : P.underlying ty = some (.slice e)) (hi : P.info? e = some z)
    (h : P.underlying ty = some (.slice e) → P.info? e = some z → Yld P a l ⟨d, .indexAddr ty x y, t, pos, af, g⟩ (.pointer (some ⟨b, k * sz, none⟩)) := by
      intro hu hi;first | exact Yld.indexH _ hS rfl rfl hu hi (by assumption) rfl (by first | rfl | omega) (by omega) | exact Yld.indexL _ hS rfl rfl hu hi pkQ rfl (by first | rfl | omega) (by omega) | exact Yld.indexB _ hS rfl rfl hu hi rfl (by first | rfl | omega) (by omega)) :
    Yld P a l ⟨d, .indexAddr ty x y, t, pos, af, g⟩ (.pointer (some ⟨b, k * sz, none⟩)) := h hu hi
end
theorem krQ {α : Sort _} {a b : α} (h : a = b := by kernel_rfl) : a = b := h
theorem lenQ {p : Prop} (h : p := by first | omega | (simp only [List.length_take, List.length_append, List.length_drop, List.length_cons, List.length_nil, List.length_map]; omega)) : p := h
theorem rfQ {α : Sort _} {a b : α} (h : a = b := by rfl) : a = b := h
theorem dcQ {p : Prop} (h : p := by decide) : p := h
theorem omQ {p : Prop} (h : p := by omega) : p := h
theorem nlQ {a b : Nat} (h : Nat.ble a b = true := by exact rfl) : a ≤ b := Nat.le_of_ble_eq_true h
theorem zR {A B : Prop} (k : B) (h : B → A := by intro k; repeat first | with_reducible refine thenR ?_ | with_reducible refine blockR ?_ | with_reducible refine scopeR ?_
                                                 exact k) : A := h k
section
variable {P : Program} {ops : Array Oper} {Q : Exit → Act → World → Prop} {n : Nat} {a : Act} {S : Slots} {l l' : List HP} {w : World} {rest : List Oper} {K : Act → World → Prop} {g : Option (Nat × Bool)}
  {d : Nat} {op : Op} {t : TypeId} {pos : String} {af : Array Edge} {x y : Operand} {v : Value}
theorem zq {c e : Code} (h : ∀ K : Act → World → Prop, (∀ a w, e.wp P Q a w → K a w) → c.wp P (Exit.then K Q) a w) : (Code.seq c e).wp P Q a w := wp_seq_k h
theorem zr {id : Nat} {l : List Oper} (h : wpList P l.toArray Q l a w) : (Code.region id l.toArray false).wp P Q a w := wp_region_lit h
theorem zT {G : Act → World → Prop} {H : Act → Prop} (J : ∀ a w, G a w → K a w) (k : ∀ a, H a → G a w) (hQ : ∀ a w, K a w → Q .normal a w := by exact fun _ _ h => h) : ∀ a, H a → wpList P ops Q [] a w := fun a h => hQ _ _ (J a w (k a h))
theorem zQ {c e : Code} {H : Act → Prop} (h : ∀ K : Act → World → Prop, (∀ a w, e.wp P Q a w → K a w) → ∀ a, H a → c.wp P (Exit.then K Q) a w) : ∀ a, H a → (Code.seq c e).wp P Q a w := fun a hS => wp_seq_k fun K hK => h K hK a hS
theorem zW {id : Nat} {l : List Oper} {H : Act → Prop} (h : ∀ a, H a → wpList P l.toArray Q l a w) : ∀ a, H a → (Code.region id l.toArray false).wp P Q a w := fun a hS => wp_region_lit (h a hS)
theorem zl (h : Q .normal a w) : wpList P ops Q [] a w := h
theorem sD (hS : Has n a S) (hR : Sep l w) (hy : Yld P a l ⟨some d, op, t, pos, af, none⟩ v) (k : ∀ a', Has n a' ((d, v) :: S) → wpList P ops Q rest a' w) (hd : Nat.ble (d + 1) n = true := by exact rfl) : wpList P ops Q (⟨some d, op, t, pos, af, none⟩ :: rest) a w := sA hS hR hy (Nat.le_of_ble_eq_true hd) k
theorem zK {j tj : Nat} {b c : Bool} (hS : Has n a S) (k : ∀ a', Has n a' ((d, undef) :: S) → wpList P ops Q rest a' w) (hj : (ops[j]?).bind (·.dst) = some tj := by exact rfl) (hg : lk tj S = some (.bool c) := by exact rfl) (hbc : (c == b) = false := by exact rfl) (hd : d < n := by decide) : wpList P ops Q (⟨some d, op, t, pos, af, some (j, b)⟩ :: rest) a w := sSkip hS hj hg hbc hd k
theorem yA (hR : Sep l w) (hy : ∀ a, Has n a S → Yld P a l ⟨some d, op, t, pos, af, none⟩ v) (k : ∀ a, Has n a ((d, v) :: S) → wpList P ops Q rest a w) (hd : Nat.ble (d + 1) n = true := by exact rfl) : ∀ a, Has n a S → wpList P ops Q (⟨some d, op, t, pos, af, none⟩ :: rest) a w := qA hR hd hy k
theorem yF {s : TypeId} {f b i : Nat} {fs : Array Field} {fd : Field} {z : TypeInfo} {T : TypeId} (hR : Sep l w) (o : Nat) (hu : P.underlying s = some (.struct fs)) (hi : P.info? T = some z) (k : ∀ a, Has n a ((d, .pointer (some ⟨b, i + o, none⟩)) :: S) → wpList P ops Q rest a w)
    (hx : ev S x = some (.pointer (some ⟨b, i, none⟩)) := by exact rfl) (hf : fs[f]? = some fd := by exact rfl) (hT : fd.type = T := by exact rfl) (ho : fd.offset = o := by exact rfl) (hz : z.size ≠ 0 := by decide) (hd : Nat.ble (d + 1) n = true := by exact rfl) : ∀ a, Has n a S → wpList P ops Q (⟨some d, .fieldAddr s x f, t, pos, af, none⟩ :: rest) a w := by
  subst hT; exact qA hR hd (fun _ hS => Yld.fieldAddr hS hx o hu hf ho hi hz) k
theorem yL {ty : TypeId} {b i : Nat} {dd : TypeDesc} (hR : Sep l w) (hu : P.underlying ty = some dd) (k : ∀ a, Has n a ((d, v) :: S) → wpList P ops Q rest a w)
    (hx : ev S x = some (.pointer (some ⟨b, i, none⟩)) := by exact rfl) (hna : (match dd with | .struct _ | .array _ _ => true | _ => false) = false := by exact rfl) (hr : Rd l b i v := by exact rdQ) (hd : Nat.ble (d + 1) n = true := by exact rfl) : ∀ a, Has n a S → wpList P ops Q (⟨some d, .load ty x, t, pos, af, none⟩ :: rest) a w :=
  qA hR hd (fun _ hS => Yld.load1 hS hx hu hna hr) k
theorem yC {p : Addr} (hR : Sep l w) (k : ∀ a, Has n a ((d, .pointer (some p)) :: S) → wpList P ops Q rest a w) (hx : ev S x = some (.pointer (some p)) := by exact rfl) (hd : Nat.ble (d + 1) n = true := by exact rfl) : ∀ a, Has n a S → wpList P ops Q (⟨some d, .nilCheck x, t, pos, af, none⟩ :: rest) a w :=
  qA hR hd (fun _ hS => Yld.nilCheck hS hx) k
theorem zf {s : TypeId} {f b i : Nat} {fs : Array Field} {fd : Field} {z : TypeInfo} {T : TypeId} {dd : Option Nat} (hS : Has n a S) (o : Nat) (hu : P.underlying s = some (.struct fs)) (hi : P.info? T = some z)
    (hx : ev S x = some (.pointer (some ⟨b, i, none⟩)) := by exact rfl) (hf : fs[f]? = some fd := by exact rfl) (hT : fd.type = T := by exact rfl) (ho : fd.offset = o := by exact rfl) (hz : z.size ≠ 0 := by decide) : Yld P a l ⟨dd, .fieldAddr s x f, t, pos, af, g⟩ (.pointer (some ⟨b, i + o, none⟩)) := by
  subst hT; exact Yld.fieldAddr hS hx o hu hf ho hi hz
theorem zG {ty : TypeId} {b i : Nat} {vs : List Value} {D : TypeDesc} {z : TypeInfo} {dd : Option Nat} (hS : Has n a S) (hx : ev S x = some (.pointer (some ⟨b, i, none⟩))) (hu : P.underlying ty = some D) (hi : P.info? ty = some z) (hr : Rds l b i vs)
    (hna : (match D with | .struct _ | .array _ _ => true | _ => false) = true := by exact rfl) (hz : z.size = vs.length := by rfl) : Yld P a l ⟨dd, .load ty x, t, pos, af, g⟩ (.agg vs.toArray) := Yld.loadAgg hS hx hu hna hi hr hz
theorem zS {ty : TypeId} {b i : Nat} {vs cs : List Value} {T : TypeId} {z : TypeInfo} (hS : Has n a S) (hR : Sep l w) (hi : P.info? ty = some z) (k : ∀ w', Sep (blk b (lay cs i vs) T :: l') w' → K a w')
    (hx : ev S x = some (.pointer (some ⟨b, i, none⟩)) := by exact rfl) (hy : ev S y = some v := by exact rfl) (hv : v.cells = vs.toArray := by rfl) (hz : z.size = vs.length := by rfl) (p : Pk (blk b cs T) l l' := by exact pkQ) (h1 : vs.all Value.oneCell' = true := by rfl) (hl : Nat.ble (i + vs.length) cs.length = true := by exact rfl) :
    Oper.wp P ⟨none, .store ty x y, t, pos, af, g⟩ a w K Q := Bstore hS hR hx hy hv hi hz p h1 (Nat.le_of_ble_eq_true hl) k
theorem zB {T : TypeId} {z : Value} {cs : List Value} {i : TypeInfo} (hS : Has n a S) (hR : Sep l w) (hi : P.info? T = some i) (k : ∀ a' w' b, Has n a' ((d, .pointer (some ⟨b, 0, none⟩)) :: S) → Sep (blk b cs T :: l) w' → K a' w')
    (hz : i.zero = some z := by rfl) (hc : z.cells = cs.toArray := by rfl) (hd : d < n := by decide) : Oper.wp P ⟨some d, .alloc T, t, pos, af, g⟩ a w K Q := Balloc hS hR hi hz hc hd k
theorem zO {T : TypeId} {cs : List Value} (hS : Has n a S) (hR : Sep l w) (k : ∀ a' w' b, Has n a' ((d, .pointer (some ⟨b, 0, none⟩)) :: S) → Sep (blk b cs T :: l) w' → K a' w')
    (hx : ev S x = some v := by exact rfl) (hc : v.cells = cs.toArray := by rfl) (hd : d < n := by decide) : Oper.wp P ⟨some d, .box T x, t, pos, af, g⟩ a w K Q := Bbox hS hR hx hc hd k
theorem zE {f : FuncId} {fn : Func} {c : Code} {vs : List Value} {m : Nat} {Φ : Value → World → Prop} (hf : P.funcs[f]? = some fn) (hn : fn.ntmps = m) (h : ∀ a, Has m a (entry 0 vs) → c.wp P (Post P fn Φ) a w) (hb : fn.body = some c := by exact rfl) (hl : Nat.ble vs.length m = true := by exact rfl) : CallR P f vs w Φ := enter hf hb hn (Nat.le_of_ble_eq_true hl) h
theorem zr1 {fn : Func} {r : ResultVar} {Φ : Value → World → Prop} (hf : fn.results = [r].toArray) (hS : Has n a S) (hR : Sep l w) (h : ∃ v, Res1 P S l r v ∧ Φ v w) : Post P fn Φ .ret a w := ret1 (.inl rfl) hf hS hR h
theorem zrN {fn : Func} {rs : List ResultVar} {Φ : Value → World → Prop} (hf : fn.results = rs.toArray) (hS : Has n a S) (hR : Sep l w) (h : ∃ vs, ResN P S l rs vs ∧ Nat.beq vs.length 1 = false ∧ Φ (.tuple vs.toArray) w) : Post P fn Φ .ret a w := retN (.inl rfl) hf hS hR h
theorem zg {ty : TypeId} {t b i : Nat} {vs : List Value} {dd : TypeDesc} {z : TypeInfo} (hl : lk t S = some (.pointer (some ⟨b, i, none⟩))) (hu : P.underlying ty = some dd) (hi : P.info? ty = some z) (hr : Rds l b i vs) (hna : (match dd with | .struct _ | .array _ _ => true | _ => false) = true := by exact rfl) (hz : z.size = vs.length := by rfl) : Res1 P S l (.cell t ty) (.agg vs.toArray) := Res1.agg hl hu hna hi hr hz
end
section
variable {P : Program} {ops : Array Oper} {Q : Exit → Act → World → Prop} {n : Nat} {S : Slots} {l0 l : List HP} {w : World} {fuel : Nat} {listed : Array Bool}
  {d : Nat} {op : Op} {t : TypeId} {pos : String} {af : Array Edge} {x : Operand} {v : Value}
theorem zD {G : Prop} (hR : Sep l w) (k : Sep l0 w → G) (e : Ex l l0 := by exact exQ) : Sep l0 w ∧ G := ⟨hR.sub e, k (hR.sub e)⟩
theorem zM (i : Nat) (hR0 : Sep l0 w) (k : ∀ a, Has n a ((d, v) :: S) → wpAnyH P .any ops Q (Sep l0) fuel (listed.setIfInBounds i true) a w) (hi : ops[i]? = some ⟨some d, .move x, t, pos, af, none⟩ := by exact rfl) (hb : firstB ops listed i = true := by kernel_rfl) (hx : ev S x = some v := by exact rfl) (hQ : ∀ c (a : Act) w, Q (.panic c) (a.put (some d) v) w → Q (.panic c) a w := by exact fun _ _ _ h => h) (hd : Nat.ble (d + 1) n = true := by exact rfl) :
    ∀ a, Has n a S → wpAnyH P .any ops Q (Sep l0) (fuel + 1) listed a w := eA i hi hb hQ hR0 hd (fun _ hS => Yld.move hS hx) k
theorem zN (i : Nat) (hR0 : Sep l0 w) (k : ∀ a, Has n a ((d, v) :: S) → wpAnyH P .any ops Q (Sep l0) fuel (listed.setIfInBounds i true) a w) (hi : ops[i]? = some ⟨some d, .assign x, t, pos, af, none⟩ := by exact rfl) (hb : firstB ops listed i = true := by kernel_rfl) (hx : ev S x = some v := by exact rfl) (hQ : ∀ c (a : Act) w, Q (.panic c) (a.put (some d) v) w → Q (.panic c) a w := by exact fun _ _ _ h => h) (hd : Nat.ble (d + 1) n = true := by exact rfl) :
    ∀ a, Has n a S → wpAnyH P .any ops Q (Sep l0) (fuel + 1) listed a w := eA i hi hb hQ hR0 hd (fun _ hS => Yld.assign hS hx) k
theorem zX {vs : List Value} {j : Nat} (i : Nat) (hR0 : Sep l0 w) (k : ∀ a, Has n a ((d, v) :: S) → wpAnyH P .any ops Q (Sep l0) fuel (listed.setIfInBounds i true) a w) (hi : ops[i]? = some ⟨some d, .extract x j, t, pos, af, none⟩ := by exact rfl) (hb : firstB ops listed i = true := by kernel_rfl) (hx : ev S x = some (.tuple vs.toArray) := by exact rfl) (hj : vs[j]? = some v := by exact rfl) (hQ : ∀ c (a : Act) w, Q (.panic c) (a.put (some d) v) w → Q (.panic c) a w := by exact fun _ _ _ h => h) (hd : Nat.ble (d + 1) n = true := by exact rfl) :
    ∀ a, Has n a S → wpAnyH P .any ops Q (Sep l0) (fuel + 1) listed a w := eA i hi hb hQ hR0 hd (fun _ hS => Yld.extract hS hx hj) k
theorem zC {p : Addr} (i : Nat) (hR0 : Sep l0 w) (k : ∀ a, Has n a ((d, .pointer (some p)) :: S) → wpAnyH P .any ops Q (Sep l0) fuel (listed.setIfInBounds i true) a w) (hi : ops[i]? = some ⟨some d, .nilCheck x, t, pos, af, none⟩ := by exact rfl) (hb : firstB ops listed i = true := by kernel_rfl) (hx : ev S x = some (.pointer (some p)) := by exact rfl) (hQ : ∀ c (a : Act) w, Q (.panic c) (a.put (some d) (.pointer (some p))) w → Q (.panic c) a w := by exact fun _ _ _ h => h) (hd : Nat.ble (d + 1) n = true := by exact rfl) :
    ∀ a, Has n a S → wpAnyH P .any ops Q (Sep l0) (fuel + 1) listed a w := eA i hi hb hQ hR0 hd (fun _ hS => Yld.nilCheck hS hx) k
theorem zF {s : TypeId} {f b i' : Nat} {fs : Array Field} {fd : Field} {z : TypeInfo} {T : TypeId} (i : Nat) (hR0 : Sep l0 w) (o : Nat) (hu : P.underlying s = some (.struct fs)) (hI : P.info? T = some z) (k : ∀ a, Has n a ((d, .pointer (some ⟨b, i' + o, none⟩)) :: S) → wpAnyH P .any ops Q (Sep l0) fuel (listed.setIfInBounds i true) a w)
    (hi : ops[i]? = some ⟨some d, .fieldAddr s x f, t, pos, af, none⟩ := by exact rfl) (hb : firstB ops listed i = true := by kernel_rfl) (hx : ev S x = some (.pointer (some ⟨b, i', none⟩)) := by exact rfl) (hf : fs[f]? = some fd := by exact rfl) (hT : fd.type = T := by exact rfl) (ho : fd.offset = o := by exact rfl) (hz : z.size ≠ 0 := by decide)
    (hQ : ∀ c (a : Act) w, Q (.panic c) (a.put (some d) (.pointer (some ⟨b, i' + o, none⟩))) w → Q (.panic c) a w := by exact fun _ _ _ h => h) (hd : Nat.ble (d + 1) n = true := by exact rfl) : ∀ a, Has n a S → wpAnyH P .any ops Q (Sep l0) (fuel + 1) listed a w := by
  subst hT; exact eA i hi hb hQ hR0 hd (fun _ hS => Yld.fieldAddr hS hx o hu hf ho hI hz) k
theorem zL {ty : TypeId} {b i' : Nat} {dd : TypeDesc} (i : Nat) (hR0 : Sep l0 w) (hu : P.underlying ty = some dd) (k : ∀ a, Has n a ((d, v) :: S) → wpAnyH P .any ops Q (Sep l0) fuel (listed.setIfInBounds i true) a w)
    (hi : ops[i]? = some ⟨some d, .load ty x, t, pos, af, none⟩ := by exact rfl) (hb : firstB ops listed i = true := by kernel_rfl) (hx : ev S x = some (.pointer (some ⟨b, i', none⟩)) := by exact rfl) (hna : (match dd with | .struct _ | .array _ _ => true | _ => false) = false := by exact rfl) (hr : Rd l0 b i' v := by exact rdQ)
    (hQ : ∀ c (a : Act) w, Q (.panic c) (a.put (some d) v) w → Q (.panic c) a w := by exact fun _ _ _ h => h) (hd : Nat.ble (d + 1) n = true := by exact rfl) : ∀ a, Has n a S → wpAnyH P .any ops Q (Sep l0) (fuel + 1) listed a w := eA i hi hb hQ hR0 hd (fun _ hS => Yld.load1 hS hx hu hna hr) k
end
section
variable {P : Program} {ops : Array Oper} {Q : Exit → Act → World → Prop} {n m : Nat} {a : Act} {S : Slots} {l l0 : List HP} {w : World} {rest : List Oper} {K : Act → World → Prop} {g : Option (Nat × Bool)} {fuel : Nat} {listed : Array Bool}
  {d : Nat} {op : Op} {t : TypeId} {pos : String} {af : Array Edge} {x y : Operand} {v : Value} {j tj : Nat} {b : Bool}
theorem yG (hR : Sep l w) (hy : ∀ a, Has n a S → Yld P a l ⟨some d, op, t, pos, af, some (j, b)⟩ v) (k : ∀ a, Has n a ((d, v) :: S) → wpList P ops Q rest a w) (hj : (ops[j]?).bind (·.dst) = some tj := by exact rfl) (hg : lk tj S = some (.bool b) := by exact rfl) (hd : Nat.ble (d + 1) n = true := by exact rfl) :
    ∀ a, Has n a S → wpList P ops Q (⟨some d, op, t, pos, af, some (j, b)⟩ :: rest) a w := qAg hR hd hj hg hy k
theorem gF {s : TypeId} {f c i : Nat} {fs : Array Field} {fd : Field} {z : TypeInfo} {T : TypeId} (hR : Sep l w) (o : Nat) (hu : P.underlying s = some (.struct fs)) (hi : P.info? T = some z) (k : ∀ a, Has n a ((d, .pointer (some ⟨c, i + o, none⟩)) :: S) → wpList P ops Q rest a w)
    (hj : (ops[j]?).bind (·.dst) = some tj := by exact rfl) (hg : lk tj S = some (.bool b) := by exact rfl) (hx : ev S x = some (.pointer (some ⟨c, i, none⟩)) := by exact rfl) (hf : fs[f]? = some fd := by exact rfl) (hT : fd.type = T := by exact rfl) (ho : fd.offset = o := by exact rfl) (hz : z.size ≠ 0 := by decide) (hd : Nat.ble (d + 1) n = true := by exact rfl) :
    ∀ a, Has n a S → wpList P ops Q (⟨some d, .fieldAddr s x f, t, pos, af, some (j, b)⟩ :: rest) a w := by
  subst hT; exact qAg hR hd hj hg (fun _ hS => Yld.fieldAddr hS hx o hu hf ho hi hz) k
theorem gL {ty : TypeId} {c i : Nat} {dd : TypeDesc} (hR : Sep l w) (hu : P.underlying ty = some dd) (k : ∀ a, Has n a ((d, v) :: S) → wpList P ops Q rest a w) (hj : (ops[j]?).bind (·.dst) = some tj := by exact rfl) (hg : lk tj S = some (.bool b) := by exact rfl)
    (hx : ev S x = some (.pointer (some ⟨c, i, none⟩)) := by exact rfl) (hna : (match dd with | .struct _ | .array _ _ => true | _ => false) = false := by exact rfl) (hr : Rd l c i v := by exact rdQ) (hd : Nat.ble (d + 1) n = true := by exact rfl) :
    ∀ a, Has n a S → wpList P ops Q (⟨some d, .load ty x, t, pos, af, some (j, b)⟩ :: rest) a w := qAg hR hd hj hg (fun _ hS => Yld.load1 hS hx hu hna hr) k
theorem gC {p : Addr} (hR : Sep l w) (k : ∀ a, Has n a ((d, .pointer (some p)) :: S) → wpList P ops Q rest a w) (hj : (ops[j]?).bind (·.dst) = some tj := by exact rfl) (hg : lk tj S = some (.bool b) := by exact rfl) (hx : ev S x = some (.pointer (some p)) := by exact rfl) (hd : Nat.ble (d + 1) n = true := by exact rfl) :
    ∀ a, Has n a S → wpList P ops Q (⟨some d, .nilCheck x, t, pos, af, some (j, b)⟩ :: rest) a w := qAg hR hd hj hg (fun _ hS => Yld.nilCheck hS hx) k
theorem sG (hS : Has n a S) (hR : Sep l w) (hy : Yld P a l ⟨some d, op, t, pos, af, some (j, b)⟩ v) (k : ∀ a', Has n a' ((d, v) :: S) → wpList P ops Q rest a' w) (hj : (ops[j]?).bind (·.dst) = some tj := by exact rfl) (hg : lk tj S = some (.bool b) := by exact rfl) (hd : d < n := by decide) :
    wpList P ops Q (⟨some d, op, t, pos, af, some (j, b)⟩ :: rest) a w := sAg hS hR hj hg hy hd k
theorem zc {f : FuncId} {xs : List Operand} {vs : List Value} {ts : Array TypeId} {Φ : Value → World → Prop} (hS : Has n a S) (hx : evs S xs = some vs) (hf : ∀ as w, (callFunc f as).run P w = .ok (.enter f as) w) (hc : CallR P f vs w Φ)
    (k : ∀ a' w' v, Has n a' ((d, v) :: S) → Φ v w' → K a' w') (hd : d < n := by decide) : Oper.wp P ⟨some d, .call { callee := .value (.func f), args := xs.toArray, argTypes := ts }, t, pos, af, g⟩ a w K Q := Bcall hS hx hf hc hd k
theorem zk {f : FuncId} {xs : List Operand} {vs : List Value} {ts : Array TypeId} {Φ : Value → World → Prop} (hS : Has n a S) (hx : evs S xs = some vs) (hf : ∀ as w, (callFunc f as).run P w = .ok (.enter f as) w) (hc : CallR P f vs w Φ)
    (k : ∀ a' w' v, Has n a' ((d, v) :: S) → Φ v w' → wpList P ops Q rest a' w') (hd : d < n := by decide) : wpList P ops Q (⟨some d, .call { callee := .value (.func f), args := xs.toArray, argTypes := ts }, t, pos, af, none⟩ :: rest) a w := sB (Bcall hS hx hf hc hd k)
theorem zw {ty : TypeId} {c i : Nat} {dd : TypeDesc} {o : Option Nat} (hS : Has n a S) (hu : P.underlying ty = some dd) (hx : ev S x = some (.pointer (some ⟨c, i, none⟩)) := by exact rfl) (hna : (match dd with | .struct _ | .array _ _ => true | _ => false) = false := by exact rfl) (hr : Rd l c i v := by exact rdQ) :
    Yld P a l ⟨o, .load ty x, t, pos, af, g⟩ v := Yld.load1 hS hx hu hna hr
theorem zr0 {fn : Func} {t : Nat} {Φ : Value → World → Prop} (hf : fn.results = [.tmp t].toArray) (hS : Has n a S) (hR : Sep l w) (h : Φ v w) (h1 : lk t S = some v := by exact rfl) : Post P fn Φ .ret a w := zr1 hf hS hR ⟨_, .tmp h1, h⟩
theorem zr2 {fn : Func} {t1 t2 : Nat} {v1 v2 : Value} {Φ : Value → World → Prop} (hf : fn.results = [.tmp t1, .tmp t2].toArray) (hS : Has n a S) (hR : Sep l w) (h : Φ (.tuple [v1, v2].toArray) w) (h1 : lk t1 S = some v1 := by exact rfl) (h2 : lk t2 S = some v2 := by exact rfl) : Post P fn Φ .ret a w := zrN hf hS hR ⟨_, .cons (.tmp h1) (.cons (.tmp h2) .nil), rfl, h⟩
theorem zo (i : Nat) {dd : Option Nat} (hi : ops[i]? = some ⟨dd, op, t, pos, af, none⟩) (h : Oper.wp P ⟨dd, op, t, pos, af, none⟩ a w (fun a' w' => Sep l0 w' ∧ wpAnyH P .any ops Q (Sep l0) fuel (listed.setIfInBounds i true) a' w') Q) (hr : Region.ready .any ops listed = [i] := by kernel_rfl) :
    wpAnyH P .any ops Q (Sep l0) (fuel + 1) listed a w := dOne hr (dop hi h)
theorem eQ (i : Nat) (hi : ops[i]? = some ⟨some d, op, t, pos, af, none⟩) (hR0 : Sep l0 w) (hy : ∀ a, Has n a S → Yld P a l0 ⟨some d, op, t, pos, af, none⟩ v) (k : ∀ a, Has n a ((d, v) :: S) → wpAnyH P .any ops Q (Sep l0) fuel (listed.setIfInBounds i true) a w)
    (hb : firstB ops listed i = true := by kernel_rfl) (hQ : ∀ c (a : Act) w, Q (.panic c) (a.put (some d) v) w → Q (.panic c) a w := by exact fun _ _ _ h => h) (hd : Nat.ble (d + 1) n = true := by exact rfl) : ∀ a, Has n a S → wpAnyH P .any ops Q (Sep l0) (fuel + 1) listed a w := eA i hi hb hQ hR0 hd hy k
theorem eG (i : Nat) (hi : ops[i]? = some ⟨some d, op, t, pos, af, some (j, b)⟩) (hR0 : Sep l0 w) (hy : ∀ a, Has n a S → Yld P a l0 ⟨some d, op, t, pos, af, some (j, b)⟩ v) (k : ∀ a, Has n a ((d, v) :: S) → wpAnyH P .any ops Q (Sep l0) fuel (listed.setIfInBounds i true) a w)
    (hb : firstB ops listed i = true := by kernel_rfl) (hQ : ∀ c (a : Act) w, Q (.panic c) (a.put (some d) v) w → Q (.panic c) a w := by exact fun _ _ _ h => h) (hd : Nat.ble (d + 1) n = true := by exact rfl) (hj : (ops[j]?).bind (·.dst) = some tj := by exact rfl) (hg : lk tj S = some (.bool b) := by exact rfl) :
    ∀ a, Has n a S → wpAnyH P .any ops Q (Sep l0) (fuel + 1) listed a w := eAg i hi hb hQ hR0 hd hj hg hy k
theorem dQ (i : Nat) (hi : ops[i]? = some ⟨some d, op, t, pos, af, none⟩) (hS : Has n a S) (hR0 : Sep l0 w) (hy : Yld P a l0 ⟨some d, op, t, pos, af, none⟩ v) (k : ∀ a', Has n a' ((d, v) :: S) → wpAnyH P .any ops Q (Sep l0) fuel (listed.setIfInBounds i true) a' w)
    (hs : Region.noSelect ops = true := by kernel_rfl) (hf : Region.free .any ops listed i = true := by kernel_rfl) (hr : (Region.ready .any ops listed).contains i = true := by kernel_rfl) (hQ : ∀ c (a : Act) w, Q (.panic c) (a.put (some d) v) w → Q (.panic c) a w := by exact fun _ _ _ h => h) (hd : d < n := by decide) :
    wpAnyH P .any ops Q (Sep l0) (fuel + 1) listed a w := dA i hi hs hf hr hQ hS hR0 hy hd k
theorem lQ (i : Nat) (hi : ops[i]? = some ⟨some d, op, t, pos, af, none⟩) (hS : Has n a S) (hR0 : Sep l0 w) (hy : Yld P a l0 ⟨some d, op, t, pos, af, none⟩ v) (k : ∀ a', Has n a' ((d, v) :: S) → wpAnyL P .any ops Q (Sep l0) m fuel (listed.setIfInBounds i true) a' w)
    (hs : Region.noSelect ops = true := by kernel_rfl) (hf : Region.free .any ops listed i = true := by kernel_rfl) (hr : (Region.ready .any ops listed).contains i = true := by kernel_rfl) (hw : waitsB .any ops m i = true := by kernel_rfl) (hQ : ∀ c (a : Act) w, Q (.panic c) (a.put (some d) v) w → Q (.panic c) a w := by exact fun _ _ _ h => h) (hd : d < n := by decide) :
    wpAnyL P .any ops Q (Sep l0) m (fuel + 1) listed a w := lA i hi hs hf hr hw hQ hS hR0 hy hd k
theorem xR {X : Prop} {Y : Prop} (k : Y) (h : Y → X := by intro k; repeat (first | with_reducible refine thenX ?_ | with_reducible refine blockX ?_ | with_reducible refine blockY (by rfl) ?_)
                                                          exact k) : X := h k
end
section
variable {l : List HP} {b i : Nat}
theorem drQ {l l' : List HP} (h : Ex l l' := by repeat (first | with_reducible exact Ex.refl | with_reducible apply Ex.drop)) : Ex l l' := h
theorem leQ {S T : Slots} (h : Le T S := by repeat (first | exact Le.nil _ | refine Le.cons rfl ?_)) : Le T S := h
theorem rk2 {vs : List Value} (h : Rds l b i vs := by exact Rds.cons (Rd.blk pkQ (by rfl)) (Rds.cons (Rd.blk pkQ (by rfl)) (Rds.nil))) : Rds l b i vs := h
theorem rk3 {vs : List Value} (h : Rds l b i vs := by exact Rds.cons (Rd.blk pkQ (by rfl)) (Rds.cons (Rd.blk pkQ (by rfl)) (Rds.cons (Rd.blk pkQ (by rfl)) (Rds.nil)))) : Rds l b i vs := h
theorem rk4 {vs : List Value} (h : Rds l b i vs := by exact Rds.cons (Rd.blk pkQ (by rfl)) (Rds.cons (Rd.blk pkQ (by rfl)) (Rds.cons (Rd.blk pkQ (by rfl)) (Rds.cons (Rd.blk pkQ (by rfl)) (Rds.nil))))) : Rds l b i vs := h
theorem rk5 {vs : List Value} (h : Rds l b i vs := by exact Rds.cons (Rd.blk pkQ (by rfl)) (Rds.cons (Rd.blk pkQ (by rfl)) (Rds.cons (Rd.blk pkQ (by rfl)) (Rds.cons (Rd.blk pkQ (by rfl)) (Rds.cons (Rd.blk pkQ (by rfl)) (Rds.nil)))))) : Rds l b i vs := h
theorem rk10 {vs : List Value} (h : Rds l b i vs := by exact Rds.cons (Rd.blk pkQ (by rfl)) (Rds.cons (Rd.blk pkQ (by rfl)) (Rds.cons (Rd.blk pkQ (by rfl)) (Rds.cons (Rd.blk pkQ (by rfl)) (Rds.cons (Rd.blk pkQ (by rfl)) (Rds.cons (Rd.blk pkQ (by rfl)) (Rds.cons (Rd.blk pkQ (by rfl)) (Rds.cons (Rd.blk pkQ (by rfl)) (Rds.cons (Rd.blk pkQ (by rfl)) (Rds.cons (Rd.blk pkQ (by rfl)) (Rds.nil))))))))))) : Rds l b i vs := h
end
end Go.Proofs.YtkhdejjompbklaaGreat.Sx
