/-
  A separation logic over the model's worlds: assertions on parts of a heap, lists of them that lie apart in a world, and how an allocation, a store and a draw turn such a list. Nothing of a program stands here.
-/
import Derived.WalkKit
namespace Go.Proofs.Ytmcfmhiadlkglaa.Sx
open Go
set_option linter.unusedVariables false

/-- A part of a heap: block numbers to objects. -/
abbrev PH := Nat → Option Obj
/-- What no operation of ours turns: the outside world and what was printed. -/
abbrev Sig := Os × Array (Nat × ByteArray)
/-- An assertion on a part of a heap. -/
abbrev HP := Sig → PH → Prop

def PH.disj (g h : PH) : Prop := ∀ b, g b = none ∨ h b = none
def PH.uni (g h : PH) : PH := fun b => (g b).or (h b)
def PH.emp : PH := fun _ => none
def PH.sub (g : PH) (w : World) : Prop := ∀ b o, g b = some o → w.heap[b]? = some o

/-- Exactly the block b, with the object o. -/
def pt (b : Nat) (o : Obj) : HP := fun _ h => h = fun c => if c = b then some o else none
/-- A block of cells that may be written. -/
def blk (b : Nat) (cs : List Value) (T : TypeId) : HP := pt b (.cells cs.toArray T)
/-- All blocks that a world had lie there still. -/
def old (W : World) : HP := fun σ h => σ = (W.os, W.output) ∧ h = fun b => W.heap[b]?
def pure' (p : Prop) : HP := fun _ h => p ∧ h = PH.emp
def star (P Q : HP) : HP := fun σ h => ∃ g k, PH.disj g k ∧ h = PH.uni g k ∧ P σ g ∧ Q σ k
def ex {α : Type} (P : α → HP) : HP := fun σ h => ∃ x, P x σ h
def stars : List HP → HP
  | [] => fun _ h => h = PH.emp
  | P :: l => star P (stars l)

/-- The assertions of a list hold of parts of the world's heap that lie apart. -/
def Sep (l : List HP) (w : World) : Prop := ∃ h : PH, PH.sub h w ∧ stars l (w.os, w.output) h

theorem PH.uni_comm {g h : PH} (d : PH.disj g h) : PH.uni g h = PH.uni h g := by
  funext b
  rcases d b with e | e <;> simp [PH.uni, e]
theorem PH.disj.symm {g h : PH} (d : PH.disj g h) : PH.disj h g := fun b => (d b).symm
theorem PH.uni_assoc (f g h : PH) : PH.uni (PH.uni f g) h = PH.uni f (PH.uni g h) := by
  funext b; simp [PH.uni, Option.or_assoc]
theorem PH.disj_uni {f g h : PH} : PH.disj f (PH.uni g h) ↔ PH.disj f g ∧ PH.disj f h := by
  constructor
  · intro d
    refine ⟨fun b => ?_, fun b => ?_⟩ <;> rcases d b with e | e <;> first | exact .inl e | (simp [PH.uni] at e; exact .inr (by first | exact e.1 | exact e.2))
  · rintro ⟨d1, d2⟩ b
    rcases d1 b with e | e
    · exact .inl e
    · rcases d2 b with e' | e'
      · exact .inl e'
      · exact .inr (by simp [PH.uni, e, e'])
theorem PH.uni_disj {f g h : PH} : PH.disj (PH.uni g h) f ↔ PH.disj g f ∧ PH.disj h f :=
  ⟨fun d => ⟨(PH.disj_uni.1 d.symm).1.symm, (PH.disj_uni.1 d.symm).2.symm⟩, fun ⟨a, b⟩ => (PH.disj_uni.2 ⟨a.symm, b.symm⟩).symm⟩
theorem PH.uni_emp (g : PH) : PH.uni g PH.emp = g := by funext b; simp [PH.uni, PH.emp]
theorem PH.emp_uni (g : PH) : PH.uni PH.emp g = g := by funext b; simp [PH.uni, PH.emp]
theorem PH.disj_emp (g : PH) : PH.disj g PH.emp := fun _ => .inr rfl
theorem PH.emp_disj (g : PH) : PH.disj PH.emp g := fun _ => .inl rfl

theorem star_comm {P Q : HP} {σ : Sig} {h : PH} (s : star P Q σ h) : star Q P σ h := by
  obtain ⟨g, k, d, rfl, p, q⟩ := s
  exact ⟨k, g, d.symm, PH.uni_comm d, q, p⟩
theorem star_assoc {P Q R : HP} {σ : Sig} {h : PH} (s : star (star P Q) R σ h) : star P (star Q R) σ h := by
  obtain ⟨gk, r, d, rfl, ⟨g, k, d', rfl, p, q⟩, hr⟩ := s
  obtain ⟨d1, d2⟩ := PH.uni_disj.1 d
  exact ⟨g, PH.uni k r, PH.disj_uni.2 ⟨d', d1⟩, PH.uni_assoc _ _ _, p, k, r, d2, rfl, q, hr⟩
theorem star_assoc' {P Q R : HP} {σ : Sig} {h : PH} (s : star P (star Q R) σ h) : star (star P Q) R σ h := by
  obtain ⟨g, kr, d, rfl, p, k, r, d', rfl, q, hr⟩ := s
  obtain ⟨d1, d2⟩ := PH.disj_uni.1 d
  exact ⟨PH.uni g k, r, PH.uni_disj.2 ⟨d2, d'⟩, (PH.uni_assoc _ _ _).symm, ⟨g, k, d1, rfl, p, q⟩, hr⟩
theorem star_mono {P P' Q Q' : HP} {σ : Sig} (hp : ∀ h, P σ h → P' σ h) (hq : ∀ h, Q σ h → Q' σ h) {h : PH} (s : star P Q σ h) : star P' Q' σ h := by
  obtain ⟨g, k, d, rfl, p, q⟩ := s
  exact ⟨g, k, d, rfl, hp _ p, hq _ q⟩

/-- 'r' is one of the list, 'l'' are the others. -/
def Pk (r : HP) (l l' : List HP) : Prop := ∀ (σ : Sig) (h : PH), stars l σ h ↔ stars (r :: l') σ h
theorem Pk.here {r : HP} {l : List HP} : Pk r (r :: l) l := fun _ _ => Iff.rfl
theorem Pk.there {r x : HP} {l l' : List HP} (p : Pk r l l') : Pk r (x :: l) (x :: l') := by
  intro σ h
  constructor
  · intro s
    have s2 : star x (Sx.stars (r :: l')) σ h := star_mono (fun _ x => x) (fun g => (p σ g).1) s
    exact star_mono (fun _ x => x) (fun _ x => x) (star_assoc (star_mono (fun _ => star_comm) (fun _ x => x) (star_assoc' s2)))
  · intro s
    exact star_mono (fun _ x => x) (fun g => (p σ g).2) (star_assoc (star_mono (fun _ => star_comm) (fun _ x => x) (star_assoc' s)))

section
variable {l l' : List HP} {w : World} {P Q : HP}

theorem Sep.pk {r : HP} (h : Sep l w) (p : Pk r l l') : Sep (r :: l') w :=
  let ⟨g, hs, s⟩ := h; ⟨g, hs, (p _ g).1 s⟩
theorem Sep.back {r : HP} (h : Sep (r :: l') w) (p : Pk r l l') : Sep l w :=
  let ⟨g, hs, s⟩ := h; ⟨g, hs, (p _ g).2 s⟩
theorem Sep.nil (w : World) : Sep [] w := ⟨PH.emp, fun b o e => by simp [PH.emp] at e, rfl⟩
theorem Sep.drop (h : Sep (P :: l) w) : Sep l w := by
  obtain ⟨g, hs, x, y, d, rfl, _, s⟩ := h
  exact ⟨y, fun b o e => hs b o (by rcases d b with e' | e' <;> simp_all [PH.uni]), s⟩
theorem Sep.swap (h : Sep (P :: Q :: l) w) : Sep (Q :: P :: l) w := h.pk (.there .here)
theorem Sep.start (W : World) : Sep [old W] W := by
  refine ⟨fun b => W.heap[b]?, fun b o e => e, _, PH.emp, PH.disj_emp _, (PH.uni_emp _).symm, ⟨rfl, rfl⟩, rfl⟩
theorem Sep.conv {P' : HP} (h : Sep (P :: l) w) (c : ∀ σ g, P σ g → P' σ g) : Sep (P' :: l) w :=
  let ⟨g, hs, s⟩ := h; ⟨g, hs, star_mono (c _) (fun _ x => x) s⟩
theorem Sep.split (h : Sep (star P Q :: l) w) : Sep (P :: Q :: l) w :=
  let ⟨g, hs, s⟩ := h; ⟨g, hs, star_assoc s⟩
theorem Sep.join (h : Sep (P :: Q :: l) w) : Sep (star P Q :: l) w :=
  let ⟨g, hs, s⟩ := h; ⟨g, hs, star_assoc' s⟩
theorem Sep.exE {α : Type} {R : α → HP} (h : Sep (ex R :: l) w) : ∃ x, Sep (R x :: l) w := by
  obtain ⟨g, hs, x, y, d, rfl, ⟨v, p⟩, s⟩ := h
  exact ⟨v, _, hs, x, y, d, rfl, p, s⟩
theorem Sep.exI {α : Type} {R : α → HP} (x : α) (h : Sep (R x :: l) w) : Sep (ex R :: l) w := h.conv fun _ _ p => ⟨x, p⟩
theorem Sep.pureE {p : Prop} (h : Sep (pure' p :: l) w) : p ∧ Sep l w := by
  obtain ⟨g, hs, x, y, d, rfl, ⟨hp, e⟩, s⟩ := h
  subst e
  rw [PH.emp_uni] at hs
  exact ⟨hp, y, hs, s⟩
theorem Sep.pureI {p : Prop} (hp : p) (h : Sep l w) : Sep (pure' p :: l) w := by
  obtain ⟨g, hs, s⟩ := h
  exact ⟨g, hs, PH.emp, g, PH.emp_disj _, (PH.emp_uni _).symm, ⟨hp, rfl⟩, s⟩

theorem Sep.read {b : Nat} {o : Obj} (h : Sep (pt b o :: l) w) : w.heap[b]? = some o := by
  obtain ⟨g, hs, x, y, d, rfl, e, s⟩ := h
  refine hs b o ?_
  simp only [pt] at e
  subst e
  simp [PH.uni]
theorem Sep.readOld {W : World} (h : Sep (old W :: l) w) {b : Nat} (hb : b < W.heap.size) : w.heap[b]? = W.heap[b]? := by
  obtain ⟨g, hs, x, y, d, rfl, ⟨_, e⟩, s⟩ := h
  subst e
  have : W.heap[b]? = some W.heap[b] := by simp [hb]
  rw [this]
  exact hs b _ (by simp [PH.uni, hb])
theorem Sep.readSig {W : World} (h : Sep (old W :: l) w) : w.os = W.os ∧ w.output = W.output := by
  obtain ⟨g, hs, x, y, d, rfl, ⟨e, _⟩, s⟩ := h
  exact ⟨congrArg Prod.fst e, congrArg Prod.snd e⟩
theorem Sep.of_heap {w' : World} (h : Sep l w) (e : w'.heap = w.heap) (e1 : w'.os = w.os) (e2 : w'.output = w.output) : Sep l w' := by
  obtain ⟨g, hs, s⟩ := h
  exact ⟨g, fun b o hb => e ▸ hs b o hb, by rw [e1, e2]; exact s⟩
theorem Sep.drew (h : Sep l w) : Sep l w.drew := h.of_heap rfl rfl rfl
theorem Sep.drewN {n : Nat} (h : Sep l w) : Sep l { w with drawn := n } := h.of_heap rfl rfl rfl
theorem Sep.new (h : Sep l w) (o : Obj) : Sep (pt w.heap.size o :: l) (w.alloc o) := by
  obtain ⟨g, hs, s⟩ := h
  have d : PH.disj (fun c => if c = w.heap.size then some o else none) g := by
    intro b
    by_cases hb : b = w.heap.size
    · right
      cases hg : g b with
      | none => rfl
      | some o' => have := hs b o' hg; subst hb; simp at this
    · left; simp [hb]
  refine ⟨_, ?_, _, g, d, rfl, rfl, s⟩
  intro b o' e
  simp only [PH.uni] at e
  by_cases hb : b = w.heap.size
  · subst hb; simp at e; subst e
    show (w.heap.push o)[w.heap.size]? = some o
    simp
  · simp [hb] at e
    have := hs b o' e
    show (w.heap.push o)[b]? = some o'
    rw [Array.getElem?_push, if_neg hb]; exact this
theorem Sep.upd {b : Nat} {o o' : Obj} {w' : World} (h : Sep (pt b o :: l) w) (hb : w'.heap[b]? = some o')
    (hk : ∀ c, c ≠ b → w'.heap[c]? = w.heap[c]?) (e1 : w'.os = w.os) (e2 : w'.output = w.output) : Sep (pt b o' :: l) w' := by
  obtain ⟨g, hs, x, y, d, rfl, e, s⟩ := h
  simp only [pt] at e
  subst e
  have hy : y b = none := by rcases d b with e | e <;> simp_all
  refine ⟨_, ?_, (fun c => if c = b then some o' else none), y, ?_, rfl, rfl, by rw [e1, e2]; exact s⟩
  · intro c oc e
    simp only [PH.uni] at e
    by_cases hc : c = b
    · subst hc; simp at e; subst e; exact hb
    · rw [hk c hc]
      refine hs c oc ?_
      simp [PH.uni, hc] at e ⊢
      exact e
  · intro c
    by_cases hc : c = b
    · right; rw [hc]; exact hy
    · left; simp [hc]
theorem Sep.below {W : World} (h : Sep (old W :: l) w) : ∀ k, k < W.heap.size → w.heap[k]? = W.heap[k]? := fun k hk => h.readOld hk

theorem Sep.lt {b : Nat} {o : Obj} (h : Sep (pt b o :: l) w) : b < w.heap.size := by
  have := h.read
  rcases Nat.lt_or_ge b w.heap.size with h' | h'
  · exact h'
  · simp [Array.getElem?_eq_none h'] at this
theorem Sep.ne {b c : Nat} {o u : Obj} (h : Sep (pt b o :: pt c u :: l) w) : b ≠ c := by
  intro e
  subst e
  obtain ⟨g, hs, x, y, d, rfl, e, ⟨x', y', d', rfl, e', s⟩⟩ := h
  simp only [pt] at e e'
  subst e e'
  rcases d b with e | e <;> simp [PH.uni] at e

theorem blk_cell {b : Nat} {cs : List Value} {T : TypeId} (h : Sep (blk b cs T :: l) w) (i : Nat) : w.cell? ⟨b, i, none⟩ = cs[i]? := by
  have := h.read
  simp [World.cell?, this]
theorem blk_frozen {b : Nat} {cs : List Value} {T : TypeId} (h : Sep (blk b cs T :: l) w) (i : Nat) : w.frozen? ⟨b, i, none⟩ = false := by
  have := h.read
  simp [World.frozen?, this]
theorem blk_set {b : Nat} {cs : List Value} {T : TypeId} (h : Sep (blk b cs T :: l) w) (i : Nat) (v : Value) :
    Sep (blk b (cs.set i v) T :: l) (w.setCell ⟨b, i, none⟩ v) := by
  have hr := h.read
  refine Sep.upd (o := .cells cs.toArray T) (o' := .cells (cs.set i v).toArray T) h ?_ ?_ rfl rfl
  · simp [World.setCell, Array.getElem?_modify, hr]
  · intro c hc
    simp only [World.setCell, Array.getElem?_modify]
    rw [if_neg (fun e => hc e.symm)]
end

/-- The second list's assertions are among the first's, each once. -/
def Ex (l l' : List HP) : Prop := ∀ (σ : Sig) (h : PH), stars l σ h → ∃ g : PH, (∀ b o, g b = some o → h b = some o) ∧ stars l' σ g
theorem Ex.refl {l : List HP} : Ex l l := fun _ h s => ⟨h, fun _ _ e => e, s⟩
theorem Ex.drop {x : HP} {l l' : List HP} (e : Ex l l') : Ex (x :: l) l' := by
  rintro σ h ⟨x, y, d, rfl, _, s⟩
  obtain ⟨g, hg, s'⟩ := e σ y s
  refine ⟨g, fun b o e => ?_, s'⟩
  have := hg b o e
  rcases d b with e' | e' <;> simp_all [PH.uni]
theorem Ex.take {r : HP} {l l1 l2 : List HP} (p : Pk r l l1) (e : Ex l1 l2) : Ex l (r :: l2) := by
  intro σ h s
  obtain ⟨x, y, d, rfl, px, s⟩ := (p σ h).1 s
  obtain ⟨g, hg, s'⟩ := e σ y s
  have dg : PH.disj x g := fun b => by
    rcases d b with e' | e'
    · exact .inl e'
    · right
      cases hgb : g b with
      | none => rfl
      | some o => have := hg b o hgb; simp_all
  refine ⟨PH.uni x g, fun b o e => ?_, x, g, dg, rfl, px, s'⟩
  simp only [PH.uni] at e ⊢
  cases hx : x b with
  | some u => simpa [hx] using e
  | none => simp [hx] at e ⊢; exact hg b o e
theorem Sep.sub {l l' : List HP} {w : World} (h : Sep l w) (e : Ex l l') : Sep l' w := by
  obtain ⟨h, hs, s⟩ := h
  obtain ⟨g, hg, s'⟩ := e _ h s
  exact ⟨g, fun b o x => hs b o (hg b o x), s'⟩
theorem Ex.nilapp {l l' : List HP} (h : Ex l l') : Ex l ([] ++ l') := h
theorem Ex.keep {r : HP} {l l' : List HP} (h : Ex l l') : Ex (r :: l) (r :: l') := .take .here h
theorem Ex.of_pk {r : HP} {l l' : List HP} (p : Pk r l l') : Ex l l' := fun σ h s => Ex.drop Ex.refl σ h ((p σ h).1 s)
/-- One of a list, and some of a list, found by trying. -/
theorem pkQ {r : HP} {l l' : List HP} (h : Pk r l l' := by repeat (first | with_reducible exact Pk.here | with_reducible apply Pk.there)) : Pk r l l' := h
theorem exQ {l l' : List HP} (h : Ex l l' := by repeat (first | with_reducible exact Ex.refl | (with_reducible apply Ex.take; · repeat (first | with_reducible exact Pk.here | with_reducible apply Pk.there)) | with_reducible apply Ex.drop)) : Ex l l' := h
end Go.Proofs.Ytmcfmhiadlkglaa.Sx
