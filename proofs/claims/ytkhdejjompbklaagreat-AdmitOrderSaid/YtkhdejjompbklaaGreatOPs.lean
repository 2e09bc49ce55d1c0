/-
  My plain texts put together into one module.
-/
import Derived.Test.YtkhdejjompbklaaGreatOPt
namespace Go.Proofs.YtkhdejjompbklaaGreat.Sx
open Go
set_option linter.unusedVariables false
set_option linter.unusedSimpArgs false
structure So where
  O : List (Int × Nat)
  R : List (Int × Nat)
  A : Ar
abbrev kA (a : Int) : Ky := (0, a, 0, 0, 0)
abbrev ixK (R : List (Int × Nat)) : List (Ky × Int) := R.map fun p => (kA p.1, (p.2 : Int))
def slO (O : List (Int × Nat)) (a : Int) : List Nat := (O.filter fun p => decide (p.1 = a)).map Prod.snd
def ofO (O : List (Int × Nat)) (x : Int) : Option Int := (O.find? fun p => decide ((p.2 : Int) = x)).map Prod.fst
def rcR (R : List (Int × Nat)) (a : Int) : Option Nat := (R.find? fun p => decide (p.1 = a)).map Prod.snd
structure SF (S lim : Nat) (T : So) : Prop where
  ok : AOk T.A
  size : T.A.turn.length = S
  tk : ∀ r, T.A.tk[r]? = some true ↔ ∃ p ∈ T.R, p.2 = r
  nda : (T.R.map Prod.fst).Nodup
  ndr : (T.R.map Prod.snd).Nodup
  nds : (T.O.map Prod.snd).Nodup
  lt : ∀ p ∈ T.O, p.2 < S
  wf : ∀ p ∈ T.R, 0 ≤ p.1 ∧ p.1 ≤ 4294967295
  src : ∀ a, (∃ p ∈ T.R, p.1 = a) ↔ ∃ p ∈ T.O, p.1 = a
  lim : ∀ a, (slO T.O a).length ≤ lim
section
variable {S lim : Nat} {T : So} {a : Int} {O R : List (Int × Nat)}
theorem kA_wf (h : 0 ≤ a ∧ a ≤ 4294967295) : WfK (kA a) := by constructor <;> dsimp only [kA] <;> omega
theorem kA_inj {a b : Int} (h : kA a = kA b) : a = b := by simpa [kA] using h
theorem rcR_none : rcR R a = none ↔ ∀ p ∈ R, p.1 ≠ a := by
  unfold rcR
  rw [Option.map_eq_none_iff, List.find?_eq_none]
  constructor
  · intro h p hp e; exact h p hp (decide_eq_true e)
  · intro h p hp e; exact h p hp (of_decide_eq_true e)
theorem rcR_in {r : Nat} (h : rcR R a = some r) : (a, r) ∈ R := by
  unfold rcR at h
  obtain ⟨p, hp, e⟩ := Option.map_eq_some_iff.1 h
  have h1 := List.mem_of_find?_eq_some hp
  have h2 : p.1 = a := of_decide_eq_true (List.find?_some (p := fun p : Int × Nat => decide (p.1 = a)) hp)
  have : p = (a, r) := Prod.ext h2 e
  exact this ▸ h1
theorem rcR_of (hn : (R.map Prod.fst).Nodup) {r : Nat} (h : (a, r) ∈ R) : rcR R a = some r := by
  cases hv : rcR R a with
  | none => exact absurd rfl (rcR_none.1 hv _ h)
  | some q =>
    have := nodup_map_inj hn (rcR_in hv) h rfl
    rw [Prod.mk.injEq] at this
    rw [this.2]
theorem ofO_none {x : Int} : ofO O x = none ↔ ∀ p ∈ O, (p.2 : Int) ≠ x := by
  unfold ofO
  rw [Option.map_eq_none_iff, List.find?_eq_none]
  constructor
  · intro h p hp e; exact h p hp (decide_eq_true e)
  · intro h p hp e; exact h p hp (of_decide_eq_true e)
theorem ofO_in {x : Int} (h : ofO O x = some a) : ∃ s : Nat, x = s ∧ (a, s) ∈ O := by
  unfold ofO at h
  obtain ⟨p, hp, e⟩ := Option.map_eq_some_iff.1 h
  have h1 := List.mem_of_find?_eq_some hp
  have h2 : (p.2 : Int) = x := of_decide_eq_true (List.find?_some (p := fun p : Int × Nat => decide ((p.2 : Int) = x)) hp)
  exact ⟨p.2, h2.symm, e ▸ h1⟩
theorem ofO_of (hn : (O.map Prod.snd).Nodup) {s : Nat} (h : (a, s) ∈ O) : ofO O (s : Int) = some a := by
  cases hv : ofO O (s : Int) with
  | none => exact absurd rfl (ofO_none.1 hv _ h)
  | some q =>
    obtain ⟨t, e, h1⟩ := ofO_in hv
    have e2 : t = s := by omega
    have := nodup_map_inj hn h1 h e2
    rw [Prod.mk.injEq] at this
    rw [this.1]
theorem slO_mem {s : Nat} : s ∈ slO O a ↔ (a, s) ∈ O := by
  unfold slO
  rw [List.mem_map]
  constructor
  · rintro ⟨p, hp, e⟩
    obtain ⟨h1, h2⟩ := List.mem_filter.1 hp
    have h3 : p.1 = a := of_decide_eq_true h2
    have : p = (a, s) := Prod.ext h3 e
    exact this ▸ h1
  · intro h
    exact ⟨_, List.mem_filter.2 ⟨h, decide_eq_true rfl⟩, rfl⟩
theorem slO_snoc {b : Int} {s : Nat} : slO (O ++ [(b, s)]) a = if b = a then slO O a ++ [s] else slO O a := by
  unfold slO
  rw [List.filter_append, List.map_append, List.filter_cons, List.filter_nil]
  by_cases e : b = a
  · rw [if_pos e, if_pos (decide_eq_true e)]; rfl
  · rw [if_neg e, if_neg (by simpa using e)]; simp
theorem slO_out {s : Nat} : slO (O.filter fun p => decide (p.2 ≠ s)) a = (slO O a).filter fun t => decide (t ≠ s) := by
  unfold slO
  rw [List.filter_map, List.filter_filter, List.filter_filter]
  congr 1
  refine List.filter_congr fun p _ => ?_
  rw [Bool.and_comm]; rfl
theorem slO_nodup (h : (O.map Prod.snd).Nodup) : (slO O a).Nodup := h.sublist (List.filter_sublist.map _)
theorem SF.srcO (h : SF S lim T) {p : Int × Nat} (hp : p ∈ T.O) : ∃ r, (p.1, r) ∈ T.R := by
  obtain ⟨q, hq, e⟩ := (h.src p.1).2 ⟨p, hp, rfl⟩
  exact ⟨q.2, by rw [← e]; exact hq⟩
theorem SF.slNil (h : SF S lim T) (hn : rcR T.R a = none) : slO T.O a = [] := by
  rw [List.eq_nil_iff_forall_not_mem]
  intro s hs
  obtain ⟨r, hr⟩ := h.srcO (slO_mem.1 hs)
  exact rcR_none.1 hn _ hr rfl
theorem SF.slNil2 (h : SF S lim T) : slO T.O a = [] ↔ rcR T.R a = none := by
  constructor
  · intro e
    rw [rcR_none]
    intro p hp e2
    obtain ⟨q, hq, e3⟩ := (h.src a).1 ⟨p, hp, e2⟩
    have : q.2 ∈ slO T.O a := slO_mem.2 (by rw [← e3]; exact hq)
    rw [e] at this; simp at this
  · exact h.slNil
theorem ix_get : findV (ixK R) (kA a) = (rcR R a).map fun r : Nat => (r : Int) := by
  unfold findV rcR ixK
  rw [List.find?_map, Option.map_map, Option.map_map]
  have : ((fun e : Ky × Int => e.1 == kA a) ∘ fun p : Int × Nat => (kA p.1, (p.2 : Int))) = fun p : Int × Nat => decide (p.1 = a) := by
    funext p
    simp only [Function.comp_apply]
    by_cases e : p.1 = a
    · rw [e]; simp
    · have : ¬ kA p.1 = kA a := fun h => e (kA_inj h)
      simp [e, this]
  rw [this]; rfl
theorem ix_has : has (ixK R) (kA a) ↔ ∃ p ∈ R, p.1 = a := by
  constructor
  · rintro ⟨e, he, h⟩
    obtain ⟨p, hp, rfl⟩ := List.mem_map.1 he
    exact ⟨p, hp, kA_inj h⟩
  · rintro ⟨p, hp, h⟩
    exact ⟨_, List.mem_map.2 ⟨p, hp, rfl⟩, by rw [← h]⟩
theorem SF.rlt (h : SF S lim T) {p : Int × Nat} (hp : p ∈ T.R) : p.2 < S := by
  have h1 := (List.getElem?_eq_some_iff.1 ((h.tk p.2).2 ⟨p, hp, rfl⟩)).1
  have h2 := h.ok.len
  have h3 := h.size
  omega
theorem SF.olen (h : SF S lim T) : T.O.length ≤ S := by
  have h1 := nodup_len (n := S) h.nds fun x hx => by
    obtain ⟨f, hf, rfl⟩ := List.mem_map.1 hx
    exact h.lt f hf
  rwa [List.length_map] at h1
theorem SF.rleo (h : SF S lim T) : T.R.length ≤ T.O.length := by
  have h1 := nodup_le2 (l2 := T.O.map Prod.fst) h.nda fun a ha => by
    obtain ⟨p, hp, e⟩ := List.mem_map.1 ha
    obtain ⟨q, hq, e2⟩ := (h.src a).1 ⟨p, hp, e⟩
    exact List.mem_map.2 ⟨q, hq, e2⟩
  rwa [List.length_map, List.length_map] at h1
theorem SF.oroom (h : SF S lim T) {s : Nat} (hs : s < S) (hn : ofO T.O (s : Int) = none) : T.O.length < S := by
  have h3 := nodup_len (n := S) (l := s :: T.O.map Prod.snd) (by
    rw [List.nodup_cons]
    refine ⟨fun hm => ?_, h.nds⟩
    obtain ⟨p, hp, e⟩ := List.mem_map.1 hm
    exact ofO_none.1 hn p hp (by omega)) fun x hx => by
      rcases List.mem_cons.1 hx with rfl | hx
      · exact hs
      · obtain ⟨f, hf, rfl⟩ := List.mem_map.1 hx
        exact h.lt f hf
  rwa [List.length_cons, List.length_map] at h3
theorem SF.free (h : SF S lim T) {r : Nat} (hr : r ∈ T.A.free) : r < S ∧ ∀ p ∈ T.R, p.2 ≠ r := by
  have h1 := (h.ok.free r).1 hr
  have h2 := (List.getElem?_eq_some_iff.1 h1).1
  have h3 := h.ok.len
  have h4 := h.size
  refine ⟨by omega, fun p hp e => ?_⟩
  have := (h.tk p.2).2 ⟨p, hp, rfl⟩
  rw [e, h1] at this; cases this
theorem SF.hasFree (h : SF S lim T) (hl : T.R.length < S) : ∃ r fs, T.A.free = r :: fs := by
  cases hf : T.A.free with
  | cons r fs => exact ⟨r, fs, rfl⟩
  | nil =>
    exfalso
    have h3 := h.ok.len
    have h4 := h.size
    have h1 := nodup_le2 (l1 := List.range S) (l2 := T.R.map Prod.snd) List.nodup_range fun x hx => by
      have hxs := List.mem_range.1 hx
      have h5 : x < T.A.tk.length := by omega
      have h6 : ¬ T.A.tk[x]? = some false := fun e => by have := (h.ok.free x).2 e; rw [hf] at this; simp at this
      rw [List.getElem?_eq_getElem h5] at h6
      have h7 : T.A.tk[x]? = some true := by
        rw [List.getElem?_eq_getElem h5]
        cases hv : T.A.tk[x] with
        | true => rfl
        | false => rw [hv] at h6; exact absurd rfl h6
      obtain ⟨p, hp, e⟩ := (h.tk x).1 h7
      exact List.mem_map.2 ⟨p, hp, e⟩
    rw [List.length_range, List.length_map] at h1
    omega
def addO (T : So) (a : Int) (s : Nat) : So := match rcR T.R a with
  | some _ => { O := T.O ++ [(a, s)], R := T.R, A := T.A }
  | none => match T.A.free with
    | r :: _ => { O := T.O ++ [(a, s)], R := T.R ++ [(a, r)], A := T.A.take }
    | [] => T
def opnE (S lim : Nat) (T : So) (a x : Int) : Int := if ¬ (0 ≤ x ∧ x < S) then 2 else if (ofO T.O x).isSome = true then 310 else if lim ≤ (slO T.O a).length then 4 else 0
def opnN (S lim : Nat) (T : So) (a x : Int) : So := if opnE S lim T a x = 0 then addO T a x.toNat else T
def remO (T : So) (a : Int) (s : Nat) : So :=
  if (slO (T.O.filter fun p => decide (p.2 ≠ s)) a).length = 0 then { O := T.O.filter fun p => decide (p.2 ≠ s), R := T.R.filter fun p => decide (p.1 ≠ a), A := T.A.give ((rcR T.R a).getD 0) }
  else { O := T.O.filter fun p => decide (p.2 ≠ s), R := T.R, A := T.A }
def clsE (S : Nat) (T : So) (x : Int) : Int := if ¬ (0 ≤ x ∧ x < S) then 2 else if (ofO T.O x).isSome = true then 0 else 6
def clsN (T : So) (x : Int) : So := match ofO T.O x with
  | some a => remO T a x.toNat
  | none => T
theorem addO_old {r s : Nat} (h : rcR T.R a = some r) : addO T a s = { O := T.O ++ [(a, s)], R := T.R, A := T.A } := by unfold addO; rw [h]
theorem addO_new {r s : Nat} {fs : List Nat} (h : rcR T.R a = none) (e : T.A.free = r :: fs) : addO T a s = { O := T.O ++ [(a, s)], R := T.R ++ [(a, r)], A := T.A.take } := by unfold addO; rw [h, e]
theorem remO_last {r s : Nat} (h : rcR T.R a = some r) (e : slO (T.O.filter fun p => decide (p.2 ≠ s)) a = []) : remO T a s = { O := T.O.filter fun p => decide (p.2 ≠ s), R := T.R.filter fun p => decide (p.1 ≠ a), A := T.A.give r } := by
  unfold remO; rw [if_pos (by rw [e]; rfl), h]; rfl
theorem remO_more {s : Nat} (e : slO (T.O.filter fun p => decide (p.2 ≠ s)) a ≠ []) : remO T a s = { O := T.O.filter fun p => decide (p.2 ≠ s), R := T.R, A := T.A } := by
  unfold remO; rw [if_neg (fun h => e (List.eq_nil_of_length_eq_zero h))]
theorem snd_snoc {x : Int × Nat} (hn : (O.map Prod.snd).Nodup) (h : ∀ p ∈ O, p.2 ≠ x.2) : ((O ++ [x]).map Prod.snd).Nodup := by
  rw [List.map_append, List.nodup_append]
  refine ⟨hn, by simp, fun u hu v hv e => ?_⟩
  obtain ⟨p, hp, e2⟩ := List.mem_map.1 hu
  simp only [List.map_cons, List.map_nil, List.mem_singleton] at hv
  exact h p hp (by rw [e2, e, hv])
theorem fst_snoc {x : Int × Nat} (hn : (O.map Prod.fst).Nodup) (h : ∀ p ∈ O, p.1 ≠ x.1) : ((O ++ [x]).map Prod.fst).Nodup := by
  rw [List.map_append, List.nodup_append]
  refine ⟨hn, by simp, fun u hu v hv e => ?_⟩
  obtain ⟨p, hp, e2⟩ := List.mem_map.1 hu
  simp only [List.map_cons, List.map_nil, List.mem_singleton] at hv
  exact h p hp (by rw [e2, e, hv])
theorem SF.addO (h : SF S lim T) {s : Nat} (ha : 0 ≤ a ∧ a ≤ 4294967295) (hs : s < S) (hn : ofO T.O (s : Int) = none) (hl : (slO T.O a).length < lim) : SF S lim (Sx.addO T a s) := by
  have hns : ∀ p ∈ T.O, p.2 ≠ s := fun p hp e => ofO_none.1 hn p hp (by omega)
  have hlim : ∀ b, (slO (T.O ++ [(a, s)]) b).length ≤ lim := fun b => by
    rw [slO_snoc]
    split
    · rename_i e; subst e; rw [List.length_append, List.length_singleton]; omega
    · exact h.lim b
  have hlt : ∀ p ∈ T.O ++ [(a, s)], p.2 < S := fun p hp => by
    rcases List.mem_append.1 hp with hp | hp
    · exact h.lt p hp
    · simp only [List.mem_singleton] at hp; rw [hp]; exact hs
  cases hr : rcR T.R a with
  | some r =>
    rw [addO_old hr]
    refine ⟨h.ok, h.size, h.tk, h.nda, h.ndr, snd_snoc h.nds hns, hlt, h.wf, fun b => ?_, hlim⟩
    rw [h.src b]
    constructor
    · rintro ⟨p, hp, e⟩; exact ⟨p, List.mem_append.2 (.inl hp), e⟩
    · rintro ⟨p, hp, e⟩
      rcases List.mem_append.1 hp with hp | hp
      · exact ⟨p, hp, e⟩
      · simp only [List.mem_singleton] at hp; subst hp
        exact (h.src b).1 ⟨_, rcR_in hr, e⟩
  | none =>
    have hro := h.oroom hs hn
    have hrl := h.rleo
    obtain ⟨r, fs, e⟩ := h.hasFree (by omega)
    obtain ⟨hrS, hrn⟩ := h.free (r := r) (by rw [e]; exact List.mem_cons_self)
    have ht : T.A.take.tk = T.A.tk.set r true := by simp [Ar.take, e]
    have hu : T.A.take.turn = T.A.turn := by simp [Ar.take, e]
    have h3 := h.ok.len
    have h4 := h.size
    rw [addO_new hr e]
    refine ⟨h.ok.take e, by rw [hu]; exact h.size, fun q => ?_, fst_snoc h.nda (rcR_none.1 hr), snd_snoc h.ndr hrn, snd_snoc h.nds hns, hlt, fun p hp => ?_, fun b => ?_, hlim⟩
    · rw [ht]
      by_cases hq : r = q
      · subst hq
        rw [List.getElem?_set_self (by omega)]
        exact ⟨fun _ => ⟨_, List.mem_append.2 (.inr List.mem_cons_self), rfl⟩, fun _ => rfl⟩
      · rw [List.getElem?_set_ne hq, h.tk q]
        constructor
        · rintro ⟨p, hp, e2⟩; exact ⟨p, List.mem_append.2 (.inl hp), e2⟩
        · rintro ⟨p, hp, e2⟩
          rcases List.mem_append.1 hp with hp | hp
          · exact ⟨p, hp, e2⟩
          · simp only [List.mem_singleton] at hp; subst hp; exact absurd e2 hq
    · rcases List.mem_append.1 hp with hp | hp
      · exact h.wf p hp
      · simp only [List.mem_singleton] at hp; subst hp; exact ha
    · constructor
      · rintro ⟨p, hp, e2⟩
        rcases List.mem_append.1 hp with hp | hp
        · obtain ⟨q, hq, e3⟩ := (h.src b).1 ⟨p, hp, e2⟩
          exact ⟨q, List.mem_append.2 (.inl hq), e3⟩
        · simp only [List.mem_singleton] at hp; subst hp
          exact ⟨_, List.mem_append.2 (.inr List.mem_cons_self), e2⟩
      · rintro ⟨p, hp, e2⟩
        rcases List.mem_append.1 hp with hp | hp
        · obtain ⟨q, hq, e3⟩ := (h.src b).2 ⟨p, hp, e2⟩
          exact ⟨q, List.mem_append.2 (.inl hq), e3⟩
        · simp only [List.mem_singleton] at hp; subst hp
          exact ⟨_, List.mem_append.2 (.inr List.mem_cons_self), e2⟩
theorem SF.remO (h : SF S lim T) {s : Nat} (hm : (a, s) ∈ T.O) : SF S lim (Sx.remO T a s) := by
  obtain ⟨r, hr⟩ := h.srcO hm
  have hrc := rcR_of h.nda hr
  have hnds : ((T.O.filter fun p => decide (p.2 ≠ s)).map Prod.snd).Nodup := h.nds.sublist (List.filter_sublist.map _)
  have hlt : ∀ p ∈ T.O.filter fun p => decide (p.2 ≠ s), p.2 < S := fun p hp => h.lt p (List.mem_filter.1 hp).1
  have hlim : ∀ b, (slO (T.O.filter fun p => decide (p.2 ≠ s)) b).length ≤ lim := fun b => by rw [slO_out]; exact Nat.le_trans (List.length_filter_le _ _) (h.lim b)
  by_cases he : slO (T.O.filter fun p => decide (p.2 ≠ s)) a = []
  · rw [remO_last hrc he]
    have htk : T.A.tk[r]? = some true := (h.tk r).2 ⟨_, hr, rfl⟩
    have hrS := h.rlt hr
    have h3 := h.ok.len
    have h4 := h.size
    dsimp only at hrS
    refine ⟨h.ok.give htk, by simp [Ar.give, h.size], fun q => ?_, h.nda.sublist (List.filter_sublist.map _), h.ndr.sublist (List.filter_sublist.map _), hnds, hlt, fun p hp => h.wf p (List.mem_filter.1 hp).1, fun b => ?_, hlim⟩
    · simp only [Ar.give]
      by_cases hq : r = q
      · subst hq
        rw [List.getElem?_set_self (by omega)]
        constructor
        · intro e; cases e
        · rintro ⟨p, hp, e⟩
          obtain ⟨h5, h6⟩ := List.mem_filter.1 hp
          have := nodup_map_inj h.ndr h5 hr e
          rw [this] at h6
          exact absurd rfl (of_decide_eq_true h6)
      · rw [List.getElem?_set_ne hq, h.tk q]
        constructor
        · rintro ⟨p, hp, e⟩
          refine ⟨p, List.mem_filter.2 ⟨hp, decide_eq_true fun e2 => hq ?_⟩, e⟩
          have := nodup_map_inj h.nda hp hr e2
          rw [this] at e; exact e
        · rintro ⟨p, hp, e⟩; exact ⟨p, (List.mem_filter.1 hp).1, e⟩
    · constructor
      · rintro ⟨p, hp, e⟩
        obtain ⟨h5, h6⟩ := List.mem_filter.1 hp
        have h7 : p.1 ≠ a := of_decide_eq_true h6
        obtain ⟨q, hq, e2⟩ := (h.src b).1 ⟨p, h5, e⟩
        refine ⟨q, List.mem_filter.2 ⟨hq, decide_eq_true fun e3 => h7 ?_⟩, e2⟩
        have := nodup_map_inj h.nds hq hm e3
        rw [this] at e2; rw [e, ← e2]
      · rintro ⟨p, hp, e⟩
        obtain ⟨h5, h6⟩ := List.mem_filter.1 hp
        obtain ⟨q, hq, e2⟩ := (h.src b).2 ⟨p, h5, e⟩
        refine ⟨q, List.mem_filter.2 ⟨hq, decide_eq_true fun e3 => ?_⟩, e2⟩
        have h8 : p.2 ∈ slO (T.O.filter fun p => decide (p.2 ≠ s)) a := slO_mem.2 (by have hpa : p.1 = a := e.trans (e2.symm.trans e3); rw [← hpa]; exact hp)
        rw [he] at h8; simp at h8
  · rw [remO_more he]
    refine ⟨h.ok, h.size, h.tk, h.nda, h.ndr, hnds, hlt, h.wf, fun b => ?_, hlim⟩
    rw [h.src b]
    constructor
    · rintro ⟨p, hp, e⟩
      by_cases hp2 : p.2 = s
      · have := nodup_map_inj h.nds hp hm hp2
        rw [this] at e
        dsimp only at e
        subst e
        obtain ⟨t, ht⟩ := List.exists_mem_of_ne_nil _ he
        exact ⟨_, slO_mem.1 ht, rfl⟩
      · exact ⟨p, List.mem_filter.2 ⟨hp, decide_eq_true hp2⟩, e⟩
    · rintro ⟨p, hp, e⟩; exact ⟨p, (List.mem_filter.1 hp).1, e⟩
theorem opn_bad {x : Int} (hx : ¬ (0 ≤ x ∧ x < S)) : opnE S lim T a x = 2 ∧ opnN S lim T a x = T := by
  have h1 : opnE S lim T a x = 2 := if_pos hx
  refine ⟨h1, ?_⟩
  unfold opnN; rw [h1, if_neg (by decide)]
theorem opn_there {x b : Int} (hx : 0 ≤ x ∧ x < S) (hb : ofO T.O x = some b) : opnE S lim T a x = 310 ∧ opnN S lim T a x = T := by
  have h1 : opnE S lim T a x = 310 := by unfold opnE; rw [if_neg (fun c => c hx), if_pos (by rw [hb]; rfl)]
  refine ⟨h1, ?_⟩
  unfold opnN; rw [h1, if_neg (by decide)]
theorem opn_full {x : Int} (hx : 0 ≤ x ∧ x < S) (hb : ofO T.O x = none) (hl : lim ≤ (slO T.O a).length) : opnE S lim T a x = 4 ∧ opnN S lim T a x = T := by
  have h1 : opnE S lim T a x = 4 := by unfold opnE; rw [if_neg (fun c => c hx), if_neg (by rw [hb]; decide), if_pos hl]
  refine ⟨h1, ?_⟩
  unfold opnN; rw [h1, if_neg (by decide)]
theorem opn_ok {s : Nat} (hx : s < S) (hb : ofO T.O (s : Int) = none) (hl : (slO T.O a).length < lim) : opnE S lim T a (s : Int) = 0 ∧ opnN S lim T a (s : Int) = addO T a s := by
  have h1 : opnE S lim T a (s : Int) = 0 := by unfold opnE; rw [if_neg (fun c => c (by omega)), if_neg (by rw [hb]; decide), if_neg (by omega)]
  refine ⟨h1, ?_⟩
  unfold opnN; rw [h1, if_pos rfl, Int.toNat_natCast]
theorem SF.off (h : SF S lim T) {x : Int} (hx : ¬ (0 ≤ x ∧ x < S)) : ofO T.O x = none := ofO_none.2 fun p hp e => by have := h.lt p hp; omega
theorem SF.cls_bad (h : SF S lim T) {x : Int} (hx : ¬ (0 ≤ x ∧ x < S)) : clsE S T x = 2 ∧ clsN T x = T := by
  refine ⟨if_pos hx, ?_⟩
  unfold clsN; rw [h.off hx]
theorem cls_none {x : Int} (hx : 0 ≤ x ∧ x < S) (hn : ofO T.O x = none) : clsE S T x = 6 ∧ clsN T x = T := by
  refine ⟨?_, ?_⟩
  · unfold clsE; rw [if_neg (fun c => c hx), if_neg (by rw [hn]; decide)]
  · unfold clsN; rw [hn]
theorem cls_ok {s : Nat} (hx : s < S) (hn : ofO T.O (s : Int) = some a) : clsE S T (s : Int) = 0 ∧ clsN T (s : Int) = remO T a s := by
  refine ⟨?_, ?_⟩
  · unfold clsE; rw [if_neg (fun c => c (by omega)), if_pos (by rw [hn]; rfl)]
  · unfold clsN; rw [hn]; simp
theorem SF.opnN (h : SF S lim T) (ha : 0 ≤ a ∧ a ≤ 4294967295) {x : Int} : SF S lim (Sx.opnN S lim T a x) := by
  by_cases hx : 0 ≤ x ∧ x < S
  · obtain ⟨s, rfl⟩ : ∃ s : Nat, x = s := ⟨x.toNat, by omega⟩
    cases hb : ofO T.O (s : Int) with
    | some b => rw [(opn_there hx hb).2]; exact h
    | none =>
      by_cases hl : lim ≤ (slO T.O a).length
      · rw [(opn_full hx hb hl).2]; exact h
      · rw [(opn_ok (by omega) hb (by omega)).2]
        exact h.addO ha (by omega) hb (by omega)
  · rw [(opn_bad hx).2]; exact h
theorem SF.clsN (h : SF S lim T) {x : Int} : SF S lim (Sx.clsN T x) := by
  unfold Sx.clsN
  cases hb : ofO T.O x with
  | none => exact h
  | some b =>
    obtain ⟨s, rfl, hm⟩ := ofO_in hb
    dsimp only
    rw [Int.toNat_natCast]
    exact h.remO hm
theorem SF.new (h1 : 1 ≤ S) (h2 : S ≤ 4096) : SF S lim { O := [], R := [], A := Ar.new S } := by
  refine ⟨⟨by simp [Ar.new], by simp [Ar.new]; omega, by simp [Ar.new, List.nodup_range], fun i => ?_⟩, by simp [Ar.new], fun r => ?_, by simp, by simp, by simp, by simp, by simp, by simp, by simp [slO]⟩
  · simp only [Ar.new, List.mem_range, List.getElem?_replicate]
    by_cases h : i < S <;> simp [h]
  · simp only [Ar.new, List.getElem?_replicate]
    constructor
    · intro e
      by_cases h9 : r < S
      · rw [if_pos h9] at e; cases e
      · rw [if_neg h9] at e; cases e
    · rintro ⟨p, hp, _⟩; simp at hp
end
end Go.Proofs.YtkhdejjompbklaaGreat.Sx
namespace Go.Proofs.YtkhdejjompbklaaGreat.Sx
open Go
set_option linter.unusedVariables false
set_option linter.unusedSimpArgs false
structure SI (S lim : Nat) (T : So) (L : Nat → List Nat) (us : List Int) : Prop where
  sf : SF S lim T
  len : us.length = S
  of : ∀ p ∈ T.O, us[p.2]? = some p.1
  l1 : ∀ p ∈ T.R, L p.2 = slO T.O p.1
  l0 : ∀ r, r < S → (∀ p ∈ T.R, p.2 ≠ r) → L r = []
section
variable {S lim : Nat} {T : So} {L : Nat → List Nat} {us : List Int} {a : Int}
theorem SI.inL (h : SI S lim T L us) {r s : Nat} (hr : r < S) (hs : s ∈ L r) : ∃ b, (b, r) ∈ T.R ∧ (b, s) ∈ T.O := by
  by_cases hh : ∃ p ∈ T.R, p.2 = r
  · obtain ⟨p, hp, e⟩ := hh
    subst e
    rw [h.l1 p hp] at hs
    exact ⟨p.1, hp, slO_mem.1 hs⟩
  · rw [h.l0 r hr fun p hp e => hh ⟨p, hp, e⟩] at hs
    simp at hs
theorem SI.ofNone (h : SI S lim T L us) {x : Int} (hn : ofO T.O x = none) : ofS S S L x = none := by
  unfold ofS
  split
  · rename_i hx
    rw [ofL_none]
    intro r hr hs
    obtain ⟨b, _, hb⟩ := h.inL hr hs
    exact ofO_none.1 hn _ hb (by dsimp only; omega)
  · rfl
theorem SI.ofSome (h : SI S lim T L us) (hw : WL S S L) {x : Int} (ha : ofO T.O x = some a) :
    ∃ s r : Nat, x = s ∧ s < S ∧ (a, s) ∈ T.O ∧ (a, r) ∈ T.R ∧ r < S ∧ rcR T.R a = some r ∧ ofS S S L (s : Int) = some r ∧ ofL S L s = some r ∧ s ∈ L r ∧ us[s]? = some a := by
  obtain ⟨s, rfl, hm⟩ := ofO_in ha
  have hs := h.sf.lt _ hm
  obtain ⟨r, hr⟩ := h.sf.srcO hm
  have hrS := h.sf.rlt hr
  have hsL : s ∈ L r := by rw [h.l1 _ hr]; exact slO_mem.2 hm
  have hof := hw.ofL hrS hsL
  exact ⟨s, r, rfl, hs, hm, hr, hrS, rcR_of h.sf.nda hr, by rw [ofS_nat hs]; exact hof, hof, hsL, h.of _ hm⟩
theorem SI.opt (h : SI S lim T L us) (hw : WL S S L) {x : Int} : (ofS S S L x).isSome = (ofO T.O x).isSome := by
  cases hv : ofO T.O x with
  | none => rw [h.ofNone hv]; rfl
  | some a =>
    obtain ⟨s, r, rfl, _, _, _, _, _, e, _⟩ := h.ofSome hw hv
    rw [e]; rfl
theorem SI.all (h : SI S lim T L us) {r : Nat} (hr : rcR T.R a = some r) : allS S L (r : Int) = slO T.O a := by
  have h1 := rcR_in hr
  rw [allS_nat (h.sf.rlt h1), h.l1 _ h1]
theorem SF.atr (h : SF S lim T) {r : Nat} (hr : (a, r) ∈ T.R) : ∃ u, T.A.at (r : Int) = some u :=
  ⟨_, at_tk.2 ⟨by omega, by rw [Int.toNat_natCast]; exact (h.tk r).2 ⟨_, hr, rfl⟩, rfl⟩⟩
theorem SI.ofNat (h : SI S lim T L us) {s : Nat} (hs : s < S) (hn : ofO T.O (s : Int) = none) : ofL S L s = none := by rw [← ofS_nat hs]; exact h.ofNone hn
theorem SI.usAdd (h : SI S lim T L us) {s : Nat} (hs : s < S) (hn : ofO T.O (s : Int) = none) : ∀ p ∈ T.O ++ [(a, s)], (us.set s a)[p.2]? = some p.1 := fun p hp => by
  have hl := h.len
  rcases List.mem_append.1 hp with hp | hp
  · rw [List.getElem?_set_ne (fun e => ofO_none.1 hn p hp (by omega))]; exact h.of p hp
  · simp only [List.mem_singleton] at hp; subst hp
    exact List.getElem?_set_self (by omega)
theorem SI.addOld (h : SI S lim T L us) {s r : Nat} (ha : 0 ≤ a ∧ a ≤ 4294967295) (hs : s < S) (hn : ofO T.O (s : Int) = none) (hl : (slO T.O a).length < lim) (hr : rcR T.R a = some r) :
    SI S lim (addO T a s) (addS S S L 1 (r : Int) (s : Int)) (us.set s a) := by
  have hm := rcR_in hr
  have hrS := h.sf.rlt hm
  have hsf := h.sf.addO ha hs hn hl
  rw [addO_old hr] at hsf ⊢
  rw [addS_new hrS hs (h.ofNat hs hn)]
  refine ⟨hsf, by rw [List.length_set]; exact h.len, h.usAdd hs hn, fun p hp => ?_, fun q hq hqn => ?_⟩
  · rw [slO_snoc]
    by_cases e : p.2 = r
    · have hpe := nodup_map_inj h.sf.ndr hp hm e
      subst hpe
      rw [upd_eq, if_pos rfl, h.l1 _ hm]; rfl
    · rw [upd_ne e, if_neg (fun e2 => e (congrArg Prod.snd (nodup_map_inj h.sf.nda hp hm e2.symm))), h.l1 p hp]
  · rw [upd_ne (fun e => hqn _ hm e.symm)]
    exact h.l0 q hq hqn
theorem SI.addNew (h : SI S lim T L us) {s r : Nat} {fs : List Nat} (ha : 0 ≤ a ∧ a ≤ 4294967295) (hs : s < S) (hn : ofO T.O (s : Int) = none) (hl : (slO T.O a).length < lim) (hr : rcR T.R a = none) (e : T.A.free = r :: fs) :
    SI S lim (addO T a s) (addS S S L 1 (r : Int) (s : Int)) (us.set s a) := by
  obtain ⟨hrS, hrn⟩ := h.sf.free (r := r) (by rw [e]; exact List.mem_cons_self)
  have hsf := h.sf.addO ha hs hn hl
  rw [addO_new hr e] at hsf ⊢
  rw [addS_new hrS hs (h.ofNat hs hn)]
  refine ⟨hsf, by rw [List.length_set]; exact h.len, h.usAdd hs hn, fun p hp => ?_, fun q hq hqn => ?_⟩
  · rw [slO_snoc]
    rcases List.mem_append.1 hp with hp | hp
    · rw [upd_ne (hrn p hp), if_neg (fun e2 => rcR_none.1 hr p hp e2.symm), h.l1 p hp]
    · simp only [List.mem_singleton] at hp; subst hp
      rw [upd_eq, if_pos rfl, h.l0 r hrS hrn, h.sf.slNil hr]; rfl
  · rw [upd_ne (fun e2 => hqn _ (List.mem_append.2 (.inr List.mem_cons_self)) e2.symm)]
    exact h.l0 q hq fun p hp => hqn p (List.mem_append.2 (.inl hp))
theorem SI.outL (h : SI S lim T L us) {s r : Nat} (hm : (a, s) ∈ T.O) (hr : (a, r) ∈ T.R) : (L r).erase s = slO (T.O.filter fun p => decide (p.2 ≠ s)) a := by
  rw [h.l1 _ hr, slO_out, (slO_nodup h.sf.nds).erase_eq_filter]
  refine List.filter_congr fun t _ => ?_
  by_cases e : t = s <;> simp [e]
theorem SI.outS (h : SI S lim T L us) (hw : WL S S L) {s r : Nat} (hm : (a, s) ∈ T.O) (hr : (a, r) ∈ T.R) : Sx.outS S S L (s : Int) = upd L r (slO (T.O.filter fun p => decide (p.2 ≠ s)) a) := by
  have hs := h.sf.lt _ hm
  have hof := hw.ofL (h.sf.rlt hr) (x := s) (by rw [h.l1 _ hr]; exact slO_mem.2 hm)
  rw [outS_has hs hof, h.outL hm hr]
theorem SI.outLen (h : SI S lim T L us) (hw : WL S S L) {s r : Nat} (hm : (a, s) ∈ T.O) (hr : (a, r) ∈ T.R) : (allS S (Sx.outS S S L (s : Int)) (r : Int)).length = (slO (T.O.filter fun p => decide (p.2 ≠ s)) a).length := by
  rw [h.outS hw hm hr, allS_nat (h.sf.rlt hr), upd_eq]
theorem SI.rem (h : SI S lim T L us) (hw : WL S S L) {s r : Nat} (hm : (a, s) ∈ T.O) (hr : (a, r) ∈ T.R) : SI S lim (remO T a s) (Sx.outS S S L (s : Int)) us := by
  have hrc := rcR_of h.sf.nda hr
  have hsf := h.sf.remO hm
  rw [h.outS hw hm hr]
  have hoth : ∀ p ∈ T.R, p.2 ≠ r → L p.2 = slO (T.O.filter fun p => decide (p.2 ≠ s)) p.1 := fun p hp e => by
    rw [h.l1 p hp, slO_out]
    refine (List.filter_eq_self.2 fun t ht => ?_).symm
    have hne : t ≠ s := fun e2 => by
      subst e2
      have h1 := nodup_map_inj h.sf.nds (slO_mem.1 ht) hm rfl
      have h2 : p.1 = a := congrArg Prod.fst h1
      exact e (congrArg Prod.snd (nodup_map_inj h.sf.nda hp hr h2))
    simp [hne]
  by_cases he : slO (T.O.filter fun p => decide (p.2 ≠ s)) a = []
  · rw [remO_last hrc he] at hsf ⊢
    refine ⟨hsf, h.len, fun p hp => h.of p (List.mem_filter.1 hp).1, fun p hp => ?_, fun q hq hqn => ?_⟩
    · obtain ⟨h1, h2⟩ := List.mem_filter.1 hp
      have h3 : p.1 ≠ a := of_decide_eq_true h2
      have h4 : p.2 ≠ r := fun e => h3 (congrArg Prod.fst (nodup_map_inj h.sf.ndr h1 hr e))
      rw [upd_ne h4]; exact hoth p h1 h4
    · by_cases e : q = r
      · subst e; rw [upd_eq, he]
      · rw [upd_ne e]
        refine h.l0 q hq fun p hp e2 => ?_
        by_cases e3 : p.1 = a
        · exact e (e2.symm.trans (congrArg Prod.snd (nodup_map_inj h.sf.nda hp hr e3)))
        · exact hqn p (List.mem_filter.2 ⟨hp, decide_eq_true e3⟩) e2
  · rw [remO_more he] at hsf ⊢
    refine ⟨hsf, h.len, fun p hp => h.of p (List.mem_filter.1 hp).1, fun p hp => ?_, fun q hq hqn => ?_⟩
    · by_cases e : p.2 = r
      · have := nodup_map_inj h.sf.ndr hp hr e
        subst this
        rw [upd_eq]
      · rw [upd_ne e]; exact hoth p hp e
    · rw [upd_ne (fun e => hqn _ hr e.symm)]
      exact h.l0 q hq hqn
theorem rem_ix (h : SF S lim T) {r : Nat} (hr : (a, r) ∈ T.R) : outK (ixK T.R) (kA a) = ixK (T.R.filter fun p => decide (p.1 ≠ a)) := by
  unfold outK ixK
  rw [List.filter_map]
  congr 1
  refine List.filter_congr fun p _ => ?_
  by_cases e : p.1 = a
  · simp [e]
  · have : ¬ kA p.1 = kA a := fun e2 => e (kA_inj e2)
    simp [e, this]
theorem ix_optV {R : List (Int × Nat)} : Value.tuple [.int .i64 ((findV (ixK R) (kA a)).getD 0), .bool (findV (ixK R) (kA a)).isSome].toArray = optV (rcR R a) := by
  rw [ix_get]; cases rcR R a <;> rfl
theorem ix_put {R : List (Int × Nat)} {q : Nat} (hr : rcR R a = none) (hl : R.length < S) : putK (ixK R) (kA a) (q : Int) (S : Int) = ixK (R ++ [(a, q)]) := by
  rw [putK_new (fun hh => by obtain ⟨p, hp, e⟩ := ix_has.1 hh; exact rcR_none.1 hr p hp e) (by rw [List.length_map]; omega)]
  unfold ixK; rw [List.map_append]; rfl
theorem SI.new (h1 : 1 ≤ S) (h2 : S ≤ 4096) : SI S lim { O := [], R := [], A := Ar.new S } (fun _ => []) (List.replicate S 0) :=
  ⟨SF.new h1 h2, by simp, by simp, by simp, fun _ _ _ => rfl⟩
end
abbrev eUi (x : Int) : List Value := [.int .u32 x]
structure SX where
  bo : Nat
  ba : Nat
  bl : Nat
  r : Option Addr
  c : Nat
  L : Nat → List Nat
  us : List Int
structure ST where
  T : TypeId
  A : TypeId
  N : TypeId
  I : TypeId
  R : TypeId
  S : TypeId
  L : TypeId
  M : TypeId
  U : TypeId
abbrev soL (t : ST) (b S lim : Nat) (T : So) (x : SX) : List HP :=
  [blk b [.int .i64 (lim : Int), .slice x.r S x.c, .pointer (some ⟨x.bo, 0, none⟩), .pointer (some ⟨x.ba, 0, none⟩), .pointer (some ⟨x.bl, 0, none⟩)] t.T,
   trieA t.A t.N t.I x.bo (ixK T.R) (S : Int), arena t.R t.S x.ba T.A, linksA t.L t.M t.I x.bl S S x.L, sls x.r S x.c t.U 1 (x.us.flatMap eUi)]
def sourceA (t : ST) (b S lim : Nat) (T : So) : HP := box (fun x : SX => SI S lim T x.L x.us ∧ S ≤ 4096 ∧ lim ≤ 64) (soL t b S lim T)
theorem Sep.sourceE {t : ST} {b S lim : Nat} {T : So} {l : List HP} {w : World} (h : Sep (sourceA t b S lim T :: l) w) :
    ∃ bo ba bl r c L us, SI S lim T L us ∧ S ≤ 4096 ∧ lim ≤ 64 ∧ Sep (blk b [.int .i64 (lim : Int), .slice r S c, .pointer (some ⟨bo, 0, none⟩), .pointer (some ⟨ba, 0, none⟩), .pointer (some ⟨bl, 0, none⟩)] t.T ::
      trieA t.A t.N t.I bo (ixK T.R) (S : Int) :: arena t.R t.S ba T.A :: linksA t.L t.M t.I bl S S L :: sls r S c t.U 1 (us.flatMap eUi) :: l) w := by
  obtain ⟨x, h1, h2⟩ := h.boxE
  exact ⟨x.bo, x.ba, x.bl, x.r, x.c, x.L, x.us, h1.1, h1.2.1, h1.2.2, h2⟩
theorem Sep.sourceI {t : ST} {b S lim bo ba bl c : Nat} {T : So} {r : Option Addr} {L : Nat → List Nat} {us : List Int} {l : List HP} {w : World} (hT : SI S lim T L us) (hS : S ≤ 4096) (hm : lim ≤ 64)
    (h : Sep (blk b [.int .i64 (lim : Int), .slice r S c, .pointer (some ⟨bo, 0, none⟩), .pointer (some ⟨ba, 0, none⟩), .pointer (some ⟨bl, 0, none⟩)] t.T ::
      trieA t.A t.N t.I bo (ixK T.R) (S : Int) :: arena t.R t.S ba T.A :: linksA t.L t.M t.I bl S S L :: sls r S c t.U 1 (us.flatMap eUi) :: l) w) : Sep (sourceA t b S lim T :: l) w :=
  Sep.boxI (⟨bo, ba, bl, r, c, L, us⟩ : SX) ⟨hT, hS, hm⟩ h
end Go.Proofs.YtkhdejjompbklaaGreat.Sx
