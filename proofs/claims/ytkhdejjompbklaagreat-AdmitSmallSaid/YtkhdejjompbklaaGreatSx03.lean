/-
  Plain texts and walks, put together.
-/
import Derived.Test.YtkhdejjompbklaaGreatSx02
namespace Go.Proofs.YtkhdejjompbklaaGreat.Sx
open Go
set_option linter.unusedVariables false
set_option linter.unusedSimpArgs false
structure So where
  O : List (Int × Nat)
  R : List (Int × Nat)
  A : Ar
abbrev kA (a : Int) : Ky := (0, a, 0, 0, 0)
abbrev ixK (R : List (Int × Nat)) : List (Ky × Int) := R.map fun p => (kA p.1, (p.2 : Int))
def slO (O : List (Int × Nat)) (a : Int) : List Nat := (O.filter fun p => decide (p.1 = a)).map Prod.snd
def ofO (O : List (Int × Nat)) (x : Int) : Option Int := (O.find? fun p => decide ((p.2 : Int) = x)).map Prod.fst
def rcR (R : List (Int × Nat)) (a : Int) : Option Nat := (R.find? fun p => decide (p.1 = a)).map Prod.snd
structure SF (S lim : Nat) (T : So) : Prop where
  ok : AOk T.A
  size : T.A.turn.length = S
  tk : ∀ r, T.A.tk[r]? = some true ↔ ∃ p ∈ T.R, p.2 = r
  nda : (T.R.map Prod.fst).Nodup
  ndr : (T.R.map Prod.snd).Nodup
  nds : (T.O.map Prod.snd).Nodup
  lt : ∀ p ∈ T.O, p.2 < S
  wf : ∀ p ∈ T.R, 0 ≤ p.1 ∧ p.1 ≤ 4294967295
  src : ∀ a, (∃ p ∈ T.R, p.1 = a) ↔ ∃ p ∈ T.O, p.1 = a
  lim : ∀ a, (slO T.O a).length ≤ lim
section
variable {S lim : Nat} {T : So} {a : Int} {O R : List (Int × Nat)}
theorem kA_wf (h : 0 ≤ a ∧ a ≤ 4294967295) : WfK (kA a) := by constructor <;> dsimp only [kA] <;> omega
theorem kA_inj {a b : Int} (h : kA a = kA b) : a = b := by simpa [kA] using h
theorem rcR_none : rcR R a = none ↔ ∀ p ∈ R, p.1 ≠ a := by
  unfold rcR;rw [Option.map_eq_none_iff, List.find?_eq_none];constructor
  · intro h p hp e;exact h p hp (decide_eq_true e)
  · intro h p hp e;exact h p hp (of_decide_eq_true e)
theorem rcR_in {r : Nat} (h : rcR R a = some r) : (a, r) ∈ R := by
  unfold rcR at h;obtain ⟨p, hp, e⟩ := Option.map_eq_some_iff.1 h;have h1 := List.mem_of_find?_eq_some hp;have h2 : p.1 = a := of_decide_eq_true (List.find?_some (p := fun p : Int × Nat => decide (p.1 = a)) hp);have : p = (a, r) := Prod.ext h2 e;exact this ▸ h1
theorem rcR_of (hn : (R.map Prod.fst).Nodup) {r : Nat} (h : (a, r) ∈ R) : rcR R a = some r := by
  cases hv : rcR R a with
  | none => exact absurd rfl (rcR_none.1 hv _ h)
  | some q =>
    have := nodup_map_inj hn (rcR_in hv) h rfl;rw [Prod.mk.injEq] at this;rw [this.2]
theorem ofO_none {x : Int} : ofO O x = none ↔ ∀ p ∈ O, (p.2 : Int) ≠ x := by
  unfold ofO;rw [Option.map_eq_none_iff, List.find?_eq_none];constructor
  · intro h p hp e;exact h p hp (decide_eq_true e)
  · intro h p hp e;exact h p hp (of_decide_eq_true e)
theorem ofO_in {x : Int} (h : ofO O x = some a) : ∃ s : Nat, x = s ∧ (a, s) ∈ O := by
  unfold ofO at h;obtain ⟨p, hp, e⟩ := Option.map_eq_some_iff.1 h;have h1 := List.mem_of_find?_eq_some hp;have h2 : (p.2 : Int) = x := of_decide_eq_true (List.find?_some (p := fun p : Int × Nat => decide ((p.2 : Int) = x)) hp);exact ⟨p.2, h2.symm, e ▸ h1⟩
theorem ofO_of (hn : (O.map Prod.snd).Nodup) {s : Nat} (h : (a, s) ∈ O) : ofO O (s : Int) = some a := by
  cases hv : ofO O (s : Int) with
  | none => exact absurd rfl (ofO_none.1 hv _ h)
  | some q =>
    obtain ⟨t, e, h1⟩ := ofO_in hv;have e2 : t = s := omQ;have := nodup_map_inj hn h1 h e2;rw [Prod.mk.injEq] at this;rw [this.1]
theorem slO_mem {s : Nat} : s ∈ slO O a ↔ (a, s) ∈ O := by
  unfold slO;rw [List.mem_map];constructor
  · rintro ⟨p, hp, e⟩
    obtain ⟨h1, h2⟩ := List.mem_filter.1 hp;have h3 : p.1 = a := of_decide_eq_true h2;have : p = (a, s) := Prod.ext h3 e;exact this ▸ h1
  · intro h
    exact ⟨_, List.mem_filter.2 ⟨h, decide_eq_true rfl⟩, rfl⟩
theorem slO_snoc {b : Int} {s : Nat} : slO (O ++ [(b, s)]) a = if b = a then slO O a ++ [s] else slO O a := by
  unfold slO;rw [List.filter_append, List.map_append, List.filter_cons, List.filter_nil];by_cases e : b = a
  · rw [if_pos e, if_pos (decide_eq_true e)];rfl
  · rw [if_neg e, if_neg (by simpa using e)];simp
theorem slO_out {s : Nat} : slO (O.filter fun p => decide (p.2 ≠ s)) a = (slO O a).filter fun t => decide (t ≠ s) := by
  unfold slO;rw [List.filter_map, List.filter_filter, List.filter_filter];congr 1;refine List.filter_congr fun p _ => ?_;rw [Bool.and_comm];rfl
theorem slO_nodup (h : (O.map Prod.snd).Nodup) : (slO O a).Nodup := h.sublist (List.filter_sublist.map _)
theorem SF.srcO (h : SF S lim T) {p : Int × Nat} (hp : p ∈ T.O) : ∃ r, (p.1, r) ∈ T.R := by
  obtain ⟨q, hq, e⟩ := (h.src p.1).2 ⟨p, hp, rfl⟩;exact ⟨q.2, by rw [← e];exact hq⟩
theorem SF.slNil (h : SF S lim T) (hn : rcR T.R a = none) : slO T.O a = [] := by
  rw [List.eq_nil_iff_forall_not_mem];intro s hs;obtain ⟨r, hr⟩ := h.srcO (slO_mem.1 hs);exact rcR_none.1 hn _ hr rfl
theorem ix_get : findV (ixK R) (kA a) = (rcR R a).map fun r : Nat => (r : Int) := by
  unfold findV rcR ixK;rw [List.find?_map, Option.map_map, Option.map_map];have : ((fun e : Ky × Int => e.1 == kA a) ∘ fun p : Int × Nat => (kA p.1, (p.2 : Int))) = fun p : Int × Nat => decide (p.1 = a) := by
    funext p;simp only [Function.comp_apply];by_cases e : p.1 = a
    · rw [e];simp
    · have : ¬ kA p.1 = kA a := fun h => e (kA_inj h)
      simp [e, this]
  rw [this];rfl
theorem ix_has : has (ixK R) (kA a) ↔ ∃ p ∈ R, p.1 = a := by
  constructor
  · rintro ⟨e, he, h⟩
    obtain ⟨p, hp, rfl⟩ := List.mem_map.1 he;exact ⟨p, hp, kA_inj h⟩
  · rintro ⟨p, hp, h⟩
    exact ⟨_, List.mem_map.2 ⟨p, hp, rfl⟩, by rw [← h]⟩
theorem SF.rlt (h : SF S lim T) {p : Int × Nat} (hp : p ∈ T.R) : p.2 < S := by
  have h1 := (List.getElem?_eq_some_iff.1 ((h.tk p.2).2 ⟨p, hp, rfl⟩)).1;have h2 := h.ok.len;have h3 := h.size;omega
theorem SF.rlen (h : SF S lim T) : T.R.length ≤ S := by
  have h1 := nodup_len (n := S) h.ndr fun x hx => by
    obtain ⟨f, hf, rfl⟩ := List.mem_map.1 hx;exact h.rlt hf
  rwa [List.length_map] at h1
theorem SF.olen (h : SF S lim T) : T.O.length ≤ S := by
  have h1 := nodup_len (n := S) h.nds fun x hx => by
    obtain ⟨f, hf, rfl⟩ := List.mem_map.1 hx;exact h.lt f hf
  rwa [List.length_map] at h1
theorem SF.rleo (h : SF S lim T) : T.R.length ≤ T.O.length := by
  have h1 := nodup_le2 (l2 := T.O.map Prod.fst) h.nda fun a ha => by
    obtain ⟨p, hp, e⟩ := List.mem_map.1 ha;obtain ⟨q, hq, e2⟩ := (h.src a).1 ⟨p, hp, e⟩;exact List.mem_map.2 ⟨q, hq, e2⟩
  rwa [List.length_map, List.length_map] at h1
theorem SF.oroom (h : SF S lim T) {s : Nat} (hs : s < S) (hn : ofO T.O (s : Int) = none) : T.O.length < S := by
  have h3 := nodup_len (n := S) (l := s :: T.O.map Prod.snd) (by
    rw [List.nodup_cons];refine ⟨fun hm => ?_, h.nds⟩;obtain ⟨p, hp, e⟩ := List.mem_map.1 hm;exact ofO_none.1 hn p hp omQ) fun x hx => by
      rcases List.mem_cons.1 hx with rfl | hx
      · exact hs
      · obtain ⟨f, hf, rfl⟩ := List.mem_map.1 hx
        exact h.lt f hf
  rwa [List.length_cons, List.length_map] at h3
theorem SF.free (h : SF S lim T) {r : Nat} (hr : r ∈ T.A.free) : r < S ∧ ∀ p ∈ T.R, p.2 ≠ r := by
  have h1 := (h.ok.free r).1 hr;have h2 := (List.getElem?_eq_some_iff.1 h1).1;have h3 := h.ok.len;have h4 := h.size;refine ⟨omQ, fun p hp e => ?_⟩;have := (h.tk p.2).2 ⟨p, hp, rfl⟩;rw [e, h1] at this;cases this
theorem SF.hasFree (h : SF S lim T) (hl : T.R.length < S) : ∃ r fs, T.A.free = r :: fs := by
  cases hf : T.A.free with
  | cons r fs => exact ⟨r, fs, rfl⟩
  | nil =>
    exfalso;have h3 := h.ok.len;have h4 := h.size;have h1 := nodup_le2 (l1 := List.range S) (l2 := T.R.map Prod.snd) List.nodup_range fun x hx => by
      have hxs := List.mem_range.1 hx;have h5 : x < T.A.tk.length := omQ;have h6 : ¬ T.A.tk[x]? = some false := fun e => by have := (h.ok.free x).2 e;rw [hf] at this;simp at this
      rw [List.getElem?_eq_getElem h5] at h6;have h7 : T.A.tk[x]? = some true := by
        rw [List.getElem?_eq_getElem h5];cases hv : T.A.tk[x] with
        | true => rfl
        | false => rw [hv] at h6;exact absurd rfl h6
      obtain ⟨p, hp, e⟩ := (h.tk x).1 h7;exact List.mem_map.2 ⟨p, hp, e⟩
    rw [List.length_range, List.length_map] at h1;omega
def addO (T : So) (a : Int) (s : Nat) : So := match rcR T.R a with
  | some _ => { O := T.O ++ [(a, s)], R := T.R, A := T.A }
  | none => match T.A.free with
    | r :: _ => { O := T.O ++ [(a, s)], R := T.R ++ [(a, r)], A := T.A.take }
    | [] => T
def opnE (S lim : Nat) (T : So) (a x : Int) : Int := if ¬ (0 ≤ x ∧ x < S) then 2 else if (ofO T.O x).isSome = true then 310 else if lim ≤ (slO T.O a).length then 4 else 0
def opnN (S lim : Nat) (T : So) (a x : Int) : So := if opnE S lim T a x = 0 then addO T a x.toNat else T
def remO (T : So) (a : Int) (s : Nat) : So :=
  if (slO (T.O.filter fun p => decide (p.2 ≠ s)) a).length = 0 then { O := T.O.filter fun p => decide (p.2 ≠ s), R := T.R.filter fun p => decide (p.1 ≠ a), A := T.A.give ((rcR T.R a).getD 0) }
  else { O := T.O.filter fun p => decide (p.2 ≠ s), R := T.R, A := T.A }
def clsE (S : Nat) (T : So) (x : Int) : Int := if ¬ (0 ≤ x ∧ x < S) then 2 else if (ofO T.O x).isSome = true then 0 else 6
def clsN (T : So) (x : Int) : So := match ofO T.O x with
  | some a => remO T a x.toNat
  | none => T
theorem addO_old {r s : Nat} (h : rcR T.R a = some r) : addO T a s = { O := T.O ++ [(a, s)], R := T.R, A := T.A } := by unfold addO;rw [h]
theorem addO_new {r s : Nat} {fs : List Nat} (h : rcR T.R a = none) (e : T.A.free = r :: fs) : addO T a s = { O := T.O ++ [(a, s)], R := T.R ++ [(a, r)], A := T.A.take } := by unfold addO;rw [h, e]
theorem remO_last {r s : Nat} (h : rcR T.R a = some r) (e : slO (T.O.filter fun p => decide (p.2 ≠ s)) a = []) : remO T a s = { O := T.O.filter fun p => decide (p.2 ≠ s), R := T.R.filter fun p => decide (p.1 ≠ a), A := T.A.give r } := by
  unfold remO;rw [if_pos (by rw [e];rfl), h];rfl
theorem remO_more {s : Nat} (e : slO (T.O.filter fun p => decide (p.2 ≠ s)) a ≠ []) : remO T a s = { O := T.O.filter fun p => decide (p.2 ≠ s), R := T.R, A := T.A } := by
  unfold remO;rw [if_neg (fun h => e (List.eq_nil_of_length_eq_zero h))]
theorem snd_snoc {x : Int × Nat} (hn : (O.map Prod.snd).Nodup) (h : ∀ p ∈ O, p.2 ≠ x.2) : ((O ++ [x]).map Prod.snd).Nodup := by
  rw [List.map_append, List.nodup_append];refine ⟨hn, by simp, fun u hu v hv e => ?_⟩;obtain ⟨p, hp, e2⟩ := List.mem_map.1 hu;simp only [List.map_cons, List.map_nil, List.mem_singleton] at hv;exact h p hp (by rw [e2, e, hv])
theorem fst_snoc {x : Int × Nat} (hn : (O.map Prod.fst).Nodup) (h : ∀ p ∈ O, p.1 ≠ x.1) : ((O ++ [x]).map Prod.fst).Nodup := by
  rw [List.map_append, List.nodup_append];refine ⟨hn, by simp, fun u hu v hv e => ?_⟩;obtain ⟨p, hp, e2⟩ := List.mem_map.1 hu;simp only [List.map_cons, List.map_nil, List.mem_singleton] at hv;exact h p hp (by rw [e2, e, hv])
theorem SF.addO (h : SF S lim T) {s : Nat} (ha : 0 ≤ a ∧ a ≤ 4294967295) (hs : s < S) (hn : ofO T.O (s : Int) = none) (hl : (slO T.O a).length < lim) : SF S lim (Sx.addO T a s) := by
  have hns : ∀ p ∈ T.O, p.2 ≠ s := fun p hp e => ofO_none.1 hn p hp omQ;have hlim : ∀ b, (slO (T.O ++ [(a, s)]) b).length ≤ lim := fun b => by
    rw [slO_snoc]
    split
    · rename_i e;subst e;rw [List.length_append, List.length_singleton];omega
    · exact h.lim b
  have hlt : ∀ p ∈ T.O ++ [(a, s)], p.2 < S := fun p hp => by
    rcases List.mem_append.1 hp with hp | hp
    · exact h.lt p hp
    · simp only [List.mem_singleton] at hp;rw [hp];exact hs
  cases hr : rcR T.R a with
  | some r =>
    rw [addO_old hr];refine ⟨h.ok, h.size, h.tk, h.nda, h.ndr, snd_snoc h.nds hns, hlt, h.wf, fun b => ?_, hlim⟩;rw [h.src b];constructor
    · rintro ⟨p, hp, e⟩;exact ⟨p, List.mem_append.2 (.inl hp), e⟩
    · rintro ⟨p, hp, e⟩
      rcases List.mem_append.1 hp with hp | hp
      · exact ⟨p, hp, e⟩
      · simp only [List.mem_singleton] at hp;subst hp
        exact (h.src b).1 ⟨_, rcR_in hr, e⟩
  | none =>
    have hro := h.oroom hs hn;have hrl := h.rleo;obtain ⟨r, fs, e⟩ := h.hasFree omQ;obtain ⟨hrS, hrn⟩ := h.free (r := r) (by rw [e];exact List.mem_cons_self);have ht : T.A.take.tk = T.A.tk.set r true := by simp [Ar.take, e]
    have hu : T.A.take.turn = T.A.turn := by simp [Ar.take, e]
    have h3 := h.ok.len;have h4 := h.size;rw [addO_new hr e];refine ⟨h.ok.take e, by rw [hu];exact h.size, fun q => ?_, fst_snoc h.nda (rcR_none.1 hr), snd_snoc h.ndr hrn, snd_snoc h.nds hns, hlt, fun p hp => ?_, fun b => ?_, hlim⟩
    · rw [ht]
      by_cases hq : r = q
      · subst hq
        rw [List.getElem?_set_self omQ];exact ⟨fun _ => ⟨_, List.mem_append.2 (.inr List.mem_cons_self), rfl⟩, fun _ => rfl⟩
      · rw [List.getElem?_set_ne hq, h.tk q]
        constructor
        · rintro ⟨p, hp, e2⟩;exact ⟨p, List.mem_append.2 (.inl hp), e2⟩
        · rintro ⟨p, hp, e2⟩
          rcases List.mem_append.1 hp with hp | hp
          · exact ⟨p, hp, e2⟩
          · simp only [List.mem_singleton] at hp;subst hp;exact absurd e2 hq
    · rcases List.mem_append.1 hp with hp | hp
      · exact h.wf p hp
      · simp only [List.mem_singleton] at hp;subst hp;exact ha
    · constructor
      · rintro ⟨p, hp, e2⟩
        rcases List.mem_append.1 hp with hp | hp
        · obtain ⟨q, hq, e3⟩ := (h.src b).1 ⟨p, hp, e2⟩
          exact ⟨q, List.mem_append.2 (.inl hq), e3⟩
        · simp only [List.mem_singleton] at hp;subst hp
          exact ⟨_, List.mem_append.2 (.inr List.mem_cons_self), e2⟩
      · rintro ⟨p, hp, e2⟩
        rcases List.mem_append.1 hp with hp | hp
        · obtain ⟨q, hq, e3⟩ := (h.src b).2 ⟨p, hp, e2⟩
          exact ⟨q, List.mem_append.2 (.inl hq), e3⟩
        · simp only [List.mem_singleton] at hp;subst hp
          exact ⟨_, List.mem_append.2 (.inr List.mem_cons_self), e2⟩
theorem SF.remO (h : SF S lim T) {s : Nat} (hm : (a, s) ∈ T.O) : SF S lim (Sx.remO T a s) := by
  obtain ⟨r, hr⟩ := h.srcO hm;have hrc := rcR_of h.nda hr;have hnds : ((T.O.filter fun p => decide (p.2 ≠ s)).map Prod.snd).Nodup := h.nds.sublist (List.filter_sublist.map _);have hlt : ∀ p ∈ T.O.filter fun p => decide (p.2 ≠ s), p.2 < S := fun p hp => h.lt p (List.mem_filter.1 hp).1;have hlim : ∀ b, (slO (T.O.filter fun p => decide (p.2 ≠ s)) b).length ≤ lim := fun b => by rw [slO_out];exact Nat.le_trans (List.length_filter_le _ _) (h.lim b)
  by_cases he : slO (T.O.filter fun p => decide (p.2 ≠ s)) a = []
  · rw [remO_last hrc he]
    have htk : T.A.tk[r]? = some true := (h.tk r).2 ⟨_, hr, rfl⟩;have hrS := h.rlt hr;have h3 := h.ok.len;have h4 := h.size;dsimp only at hrS;refine ⟨h.ok.give htk, by simp [Ar.give, h.size], fun q => ?_, h.nda.sublist (List.filter_sublist.map _), h.ndr.sublist (List.filter_sublist.map _), hnds, hlt, fun p hp => h.wf p (List.mem_filter.1 hp).1, fun b => ?_, hlim⟩
    · simp only [Ar.give]
      by_cases hq : r = q
      · subst hq
        rw [List.getElem?_set_self omQ];constructor
        · intro e;cases e
        · rintro ⟨p, hp, e⟩
          obtain ⟨h5, h6⟩ := List.mem_filter.1 hp;have := nodup_map_inj h.ndr h5 hr e;rw [this] at h6;exact absurd rfl (of_decide_eq_true h6)
      · rw [List.getElem?_set_ne hq, h.tk q]
        constructor
        · rintro ⟨p, hp, e⟩
          refine ⟨p, List.mem_filter.2 ⟨hp, decide_eq_true fun e2 => hq ?_⟩, e⟩;have := nodup_map_inj h.nda hp hr e2;rw [this] at e;exact e
        · rintro ⟨p, hp, e⟩;exact ⟨p, (List.mem_filter.1 hp).1, e⟩
    · constructor
      · rintro ⟨p, hp, e⟩
        obtain ⟨h5, h6⟩ := List.mem_filter.1 hp;have h7 : p.1 ≠ a := of_decide_eq_true h6;obtain ⟨q, hq, e2⟩ := (h.src b).1 ⟨p, h5, e⟩;refine ⟨q, List.mem_filter.2 ⟨hq, decide_eq_true fun e3 => h7 ?_⟩, e2⟩;have := nodup_map_inj h.nds hq hm e3;rw [this] at e2;rw [e, ← e2]
      · rintro ⟨p, hp, e⟩
        obtain ⟨h5, h6⟩ := List.mem_filter.1 hp;obtain ⟨q, hq, e2⟩ := (h.src b).2 ⟨p, h5, e⟩;refine ⟨q, List.mem_filter.2 ⟨hq, decide_eq_true fun e3 => ?_⟩, e2⟩;have h8 : p.2 ∈ slO (T.O.filter fun p => decide (p.2 ≠ s)) a := slO_mem.2 (by have hpa : p.1 = a := e.trans (e2.symm.trans e3);rw [← hpa];exact hp);rw [he] at h8;simp at h8
  · rw [remO_more he]
    refine ⟨h.ok, h.size, h.tk, h.nda, h.ndr, hnds, hlt, h.wf, fun b => ?_, hlim⟩;rw [h.src b];constructor
    · rintro ⟨p, hp, e⟩
      by_cases hp2 : p.2 = s
      · have := nodup_map_inj h.nds hp hm hp2
        rw [this] at e;dsimp only at e;subst e;obtain ⟨t, ht⟩ := List.exists_mem_of_ne_nil _ he;exact ⟨_, slO_mem.1 ht, rfl⟩
      · exact ⟨p, List.mem_filter.2 ⟨hp, decide_eq_true hp2⟩, e⟩
    · rintro ⟨p, hp, e⟩;exact ⟨p, (List.mem_filter.1 hp).1, e⟩
theorem opn_bad {x : Int} (hx : ¬ (0 ≤ x ∧ x < S)) : opnE S lim T a x = 2 ∧ opnN S lim T a x = T := by
  have h1 : opnE S lim T a x = 2 := if_pos hx;refine ⟨h1, ?_⟩;unfold opnN;rw [h1, if_neg dcQ]
theorem opn_there {x b : Int} (hx : 0 ≤ x ∧ x < S) (hb : ofO T.O x = some b) : opnE S lim T a x = 310 ∧ opnN S lim T a x = T := by
  have h1 : opnE S lim T a x = 310 := by unfold opnE;rw [if_neg (fun c => c hx), if_pos (by rw [hb];rfl)]
  refine ⟨h1, ?_⟩;unfold opnN;rw [h1, if_neg dcQ]
theorem opn_full {x : Int} (hx : 0 ≤ x ∧ x < S) (hb : ofO T.O x = none) (hl : lim ≤ (slO T.O a).length) : opnE S lim T a x = 4 ∧ opnN S lim T a x = T := by
  have h1 : opnE S lim T a x = 4 := by unfold opnE;rw [if_neg (fun c => c hx), if_neg (by rw [hb];decide), if_pos hl]
  refine ⟨h1, ?_⟩;unfold opnN;rw [h1, if_neg dcQ]
theorem opn_ok {s : Nat} (hx : s < S) (hb : ofO T.O (s : Int) = none) (hl : (slO T.O a).length < lim) : opnE S lim T a (s : Int) = 0 ∧ opnN S lim T a (s : Int) = addO T a s := by
  have h1 : opnE S lim T a (s : Int) = 0 := by unfold opnE;rw [if_neg (fun c => c omQ), if_neg (by rw [hb];decide), if_neg omQ]
  refine ⟨h1, ?_⟩;unfold opnN;rw [h1, if_pos rfl, Int.toNat_natCast]
theorem SF.off (h : SF S lim T) {x : Int} (hx : ¬ (0 ≤ x ∧ x < S)) : ofO T.O x = none := ofO_none.2 fun p hp e => by have := h.lt p hp;omega
theorem SF.cls_bad (h : SF S lim T) {x : Int} (hx : ¬ (0 ≤ x ∧ x < S)) : clsE S T x = 2 ∧ clsN T x = T := by
  refine ⟨if_pos hx, ?_⟩;unfold clsN;rw [h.off hx]
theorem cls_none {x : Int} (hx : 0 ≤ x ∧ x < S) (hn : ofO T.O x = none) : clsE S T x = 6 ∧ clsN T x = T := by
  refine ⟨?_, ?_⟩
  · unfold clsE;rw [if_neg (fun c => c hx), if_neg (by rw [hn];decide)]
  · unfold clsN;rw [hn]
theorem cls_ok {s : Nat} (hx : s < S) (hn : ofO T.O (s : Int) = some a) : clsE S T (s : Int) = 0 ∧ clsN T (s : Int) = remO T a s := by
  refine ⟨?_, ?_⟩
  · unfold clsE;rw [if_neg (fun c => c omQ), if_pos (by rw [hn];rfl)]
  · unfold clsN;rw [hn];simp
theorem SF.opnN (h : SF S lim T) (ha : 0 ≤ a ∧ a ≤ 4294967295) {x : Int} : SF S lim (Sx.opnN S lim T a x) := by
  by_cases hx : 0 ≤ x ∧ x < S
  · obtain ⟨s, rfl⟩ : ∃ s : Nat, x = s := ⟨x.toNat, omQ⟩
    cases hb : ofO T.O (s : Int) with
    | some b => rw [(opn_there hx hb).2];exact h
    | none =>
      by_cases hl : lim ≤ (slO T.O a).length
      · rw [(opn_full hx hb hl).2];exact h
      · rw [(opn_ok omQ hb omQ).2]
        exact h.addO ha omQ hb omQ
  · rw [(opn_bad hx).2];exact h
theorem SF.clsN (h : SF S lim T) {x : Int} : SF S lim (Sx.clsN T x) := by
  unfold Sx.clsN;cases hb : ofO T.O x with
  | none => exact h
  | some b =>
    obtain ⟨s, rfl, hm⟩ := ofO_in hb;dsimp only;rw [Int.toNat_natCast];exact h.remO hm
theorem SF.new (h1 : 1 ≤ S) (h2 : S ≤ 4096) : SF S lim { O := [], R := [], A := Ar.new S } := by
  refine ⟨⟨by simp [Ar.new], by simp [Ar.new];omega, by simp [Ar.new, List.nodup_range], fun i => ?_⟩, by simp [Ar.new], fun r => ?_, by simp, by simp, by simp, by simp, by simp, by simp, by simp [slO]⟩
  · simp only [Ar.new, List.mem_range, List.getElem?_replicate]
    by_cases h : i < S <;> simp [h]
  · simp only [Ar.new, List.getElem?_replicate]
    constructor
    · intro e
      by_cases h9 : r < S
      · rw [if_pos h9] at e;cases e
      · rw [if_neg h9] at e;cases e
    · rintro ⟨p, hp, _⟩;simp at hp
end
structure SI (S lim : Nat) (T : So) (L : Nat → List Nat) (us : List Int) : Prop where
  sf : SF S lim T
  len : us.length = S
  of : ∀ p ∈ T.O, us[p.2]? = some p.1
  l1 : ∀ p ∈ T.R, L p.2 = slO T.O p.1
  l0 : ∀ r, r < S → (∀ p ∈ T.R, p.2 ≠ r) → L r = []
section
variable {S lim : Nat} {T : So} {L : Nat → List Nat} {us : List Int} {a : Int}
theorem SI.inL (h : SI S lim T L us) {r s : Nat} (hr : r < S) (hs : s ∈ L r) : ∃ b, (b, r) ∈ T.R ∧ (b, s) ∈ T.O := by
  by_cases hh : ∃ p ∈ T.R, p.2 = r
  · obtain ⟨p, hp, e⟩ := hh
    subst e;rw [h.l1 p hp] at hs;exact ⟨p.1, hp, slO_mem.1 hs⟩
  · rw [h.l0 r hr fun p hp e => hh ⟨p, hp, e⟩] at hs
    simp at hs
theorem SI.ofNone (h : SI S lim T L us) {x : Int} (hn : ofO T.O x = none) : ofS S S L x = none := by
  unfold ofS
  split
  · rename_i hx
    rw [ofL_none];intro r hr hs;obtain ⟨b, _, hb⟩ := h.inL hr hs;exact ofO_none.1 hn _ hb (by dsimp only;omega)
  · rfl
theorem SI.ofSome (h : SI S lim T L us) (hw : WL S S L) {x : Int} (ha : ofO T.O x = some a) :
    ∃ s r : Nat, x = s ∧ s < S ∧ (a, s) ∈ T.O ∧ (a, r) ∈ T.R ∧ r < S ∧ rcR T.R a = some r ∧ ofS S S L (s : Int) = some r ∧ ofL S L s = some r ∧ s ∈ L r ∧ us[s]? = some a := by
  obtain ⟨s, rfl, hm⟩ := ofO_in ha;have hs := h.sf.lt _ hm;obtain ⟨r, hr⟩ := h.sf.srcO hm;have hrS := h.sf.rlt hr;have hsL : s ∈ L r := by rw [h.l1 _ hr];exact slO_mem.2 hm
  have hof := hw.ofL hrS hsL;exact ⟨s, r, rfl, hs, hm, hr, hrS, rcR_of h.sf.nda hr, by rw [ofS_nat hs];exact hof, hof, hsL, h.of _ hm⟩
theorem SI.opt (h : SI S lim T L us) (hw : WL S S L) {x : Int} : (ofS S S L x).isSome = (ofO T.O x).isSome := by
  cases hv : ofO T.O x with
  | none => rw [h.ofNone hv];rfl
  | some a =>
    obtain ⟨s, r, rfl, _, _, _, _, _, e, _⟩ := h.ofSome hw hv;rw [e];rfl
theorem SI.all (h : SI S lim T L us) {r : Nat} (hr : rcR T.R a = some r) : allS S L (r : Int) = slO T.O a := by
  have h1 := rcR_in hr;rw [allS_nat (h.sf.rlt h1), h.l1 _ h1]
theorem SF.atr (h : SF S lim T) {r : Nat} (hr : (a, r) ∈ T.R) : ∃ u, T.A.at (r : Int) = some u :=
  ⟨_, at_tk.2 ⟨omQ, by rw [Int.toNat_natCast];exact (h.tk r).2 ⟨_, hr, rfl⟩, rfl⟩⟩
theorem SI.ofNat (h : SI S lim T L us) {s : Nat} (hs : s < S) (hn : ofO T.O (s : Int) = none) : ofL S L s = none := by rw [← ofS_nat hs];exact h.ofNone hn
theorem SI.usAdd (h : SI S lim T L us) {s : Nat} (hs : s < S) (hn : ofO T.O (s : Int) = none) : ∀ p ∈ T.O ++ [(a, s)], (us.set s a)[p.2]? = some p.1 := fun p hp => by
  have hl := h.len;rcases List.mem_append.1 hp with hp | hp
  · rw [List.getElem?_set_ne (fun e => ofO_none.1 hn p hp omQ)];exact h.of p hp
  · simp only [List.mem_singleton] at hp;subst hp
    exact List.getElem?_set_self omQ
theorem SI.addOld (h : SI S lim T L us) {s r : Nat} (ha : 0 ≤ a ∧ a ≤ 4294967295) (hs : s < S) (hn : ofO T.O (s : Int) = none) (hl : (slO T.O a).length < lim) (hr : rcR T.R a = some r) :
    SI S lim (addO T a s) (addS S S L 1 (r : Int) (s : Int)) (us.set s a) := by
  have hm := rcR_in hr;have hrS := h.sf.rlt hm;have hsf := h.sf.addO ha hs hn hl;rw [addO_old hr] at hsf ⊢;rw [addS_new hrS hs (h.ofNat hs hn)];refine ⟨hsf, by rw [List.length_set];exact h.len, h.usAdd hs hn, fun p hp => ?_, fun q hq hqn => ?_⟩
  · rw [slO_snoc]
    by_cases e : p.2 = r
    · have hpe := nodup_map_inj h.sf.ndr hp hm e
      subst hpe;rw [upd_eq, if_pos rfl, h.l1 _ hm];rfl
    · rw [upd_ne e, if_neg (fun e2 => e (congrArg Prod.snd (nodup_map_inj h.sf.nda hp hm e2.symm))), h.l1 p hp]
  · rw [upd_ne (fun e => hqn _ hm e.symm)]
    exact h.l0 q hq hqn
theorem SI.addNew (h : SI S lim T L us) {s r : Nat} {fs : List Nat} (ha : 0 ≤ a ∧ a ≤ 4294967295) (hs : s < S) (hn : ofO T.O (s : Int) = none) (hl : (slO T.O a).length < lim) (hr : rcR T.R a = none) (e : T.A.free = r :: fs) :
    SI S lim (addO T a s) (addS S S L 1 (r : Int) (s : Int)) (us.set s a) := by
  obtain ⟨hrS, hrn⟩ := h.sf.free (r := r) (by rw [e];exact List.mem_cons_self);have hsf := h.sf.addO ha hs hn hl;rw [addO_new hr e] at hsf ⊢;rw [addS_new hrS hs (h.ofNat hs hn)];refine ⟨hsf, by rw [List.length_set];exact h.len, h.usAdd hs hn, fun p hp => ?_, fun q hq hqn => ?_⟩
  · rw [slO_snoc]
    rcases List.mem_append.1 hp with hp | hp
    · rw [upd_ne (hrn p hp), if_neg (fun e2 => rcR_none.1 hr p hp e2.symm), h.l1 p hp]
    · simp only [List.mem_singleton] at hp;subst hp
      rw [upd_eq, if_pos rfl, h.l0 r hrS hrn, h.sf.slNil hr];rfl
  · rw [upd_ne (fun e2 => hqn _ (List.mem_append.2 (.inr List.mem_cons_self)) e2.symm)]
    exact h.l0 q hq fun p hp => hqn p (List.mem_append.2 (.inl hp))
theorem SI.outL (h : SI S lim T L us) {s r : Nat} (hm : (a, s) ∈ T.O) (hr : (a, r) ∈ T.R) : (L r).erase s = slO (T.O.filter fun p => decide (p.2 ≠ s)) a := by
  rw [h.l1 _ hr, slO_out, (slO_nodup h.sf.nds).erase_eq_filter];refine List.filter_congr fun t _ => ?_;by_cases e : t = s <;> simp [e]
theorem SI.outS (h : SI S lim T L us) (hw : WL S S L) {s r : Nat} (hm : (a, s) ∈ T.O) (hr : (a, r) ∈ T.R) : Sx.outS S S L (s : Int) = upd L r (slO (T.O.filter fun p => decide (p.2 ≠ s)) a) := by
  have hs := h.sf.lt _ hm;have hof := hw.ofL (h.sf.rlt hr) (x := s) (by rw [h.l1 _ hr];exact slO_mem.2 hm);rw [outS_has hs hof, h.outL hm hr]
theorem SI.outLen (h : SI S lim T L us) (hw : WL S S L) {s r : Nat} (hm : (a, s) ∈ T.O) (hr : (a, r) ∈ T.R) : (allS S (Sx.outS S S L (s : Int)) (r : Int)).length = (slO (T.O.filter fun p => decide (p.2 ≠ s)) a).length := by
  rw [h.outS hw hm hr, allS_nat (h.sf.rlt hr), upd_eq]
theorem SI.rem (h : SI S lim T L us) (hw : WL S S L) {s r : Nat} (hm : (a, s) ∈ T.O) (hr : (a, r) ∈ T.R) : SI S lim (remO T a s) (Sx.outS S S L (s : Int)) us := by
  have hrc := rcR_of h.sf.nda hr;have hsf := h.sf.remO hm;rw [h.outS hw hm hr];have hoth : ∀ p ∈ T.R, p.2 ≠ r → L p.2 = slO (T.O.filter fun p => decide (p.2 ≠ s)) p.1 := fun p hp e => by
    rw [h.l1 p hp, slO_out];refine (List.filter_eq_self.2 fun t ht => ?_).symm;have hne : t ≠ s := fun e2 => by
      subst e2;have h1 := nodup_map_inj h.sf.nds (slO_mem.1 ht) hm rfl;have h2 : p.1 = a := congrArg Prod.fst h1;exact e (congrArg Prod.snd (nodup_map_inj h.sf.nda hp hr h2))
    simp [hne]
  by_cases he : slO (T.O.filter fun p => decide (p.2 ≠ s)) a = []
  · rw [remO_last hrc he] at hsf ⊢
    refine ⟨hsf, h.len, fun p hp => h.of p (List.mem_filter.1 hp).1, fun p hp => ?_, fun q hq hqn => ?_⟩
    · obtain ⟨h1, h2⟩ := List.mem_filter.1 hp
      have h3 : p.1 ≠ a := of_decide_eq_true h2;have h4 : p.2 ≠ r := fun e => h3 (congrArg Prod.fst (nodup_map_inj h.sf.ndr h1 hr e));rw [upd_ne h4];exact hoth p h1 h4
    · by_cases e : q = r
      · subst e;rw [upd_eq, he]
      · rw [upd_ne e]
        refine h.l0 q hq fun p hp e2 => ?_;by_cases e3 : p.1 = a
        · exact e (e2.symm.trans (congrArg Prod.snd (nodup_map_inj h.sf.nda hp hr e3)))
        · exact hqn p (List.mem_filter.2 ⟨hp, decide_eq_true e3⟩) e2
  · rw [remO_more he] at hsf ⊢
    refine ⟨hsf, h.len, fun p hp => h.of p (List.mem_filter.1 hp).1, fun p hp => ?_, fun q hq hqn => ?_⟩
    · by_cases e : p.2 = r
      · have := nodup_map_inj h.sf.ndr hp hr e
        subst this;rw [upd_eq]
      · rw [upd_ne e];exact hoth p hp e
    · rw [upd_ne (fun e => hqn _ hr e.symm)]
      exact h.l0 q hq hqn
theorem rem_ix (h : SF S lim T) {r : Nat} (hr : (a, r) ∈ T.R) : outK (ixK T.R) (kA a) = ixK (T.R.filter fun p => decide (p.1 ≠ a)) := by
  unfold outK ixK;rw [List.filter_map];congr 1;refine List.filter_congr fun p _ => ?_;by_cases e : p.1 = a
  · simp [e]
  · have : ¬ kA p.1 = kA a := fun e2 => e (kA_inj e2)
    simp [e, this]
theorem ix_optV {R : List (Int × Nat)} : Value.tuple [.int .i64 ((findV (ixK R) (kA a)).getD 0), .bool (findV (ixK R) (kA a)).isSome].toArray = optV (rcR R a) := by
  rw [ix_get];cases rcR R a <;> rfl
theorem ix_put {R : List (Int × Nat)} {q : Nat} (hr : rcR R a = none) (hl : R.length < S) : putK (ixK R) (kA a) (q : Int) (S : Int) = ixK (R ++ [(a, q)]) := by
  rw [putK_new (fun hh => by obtain ⟨p, hp, e⟩ := ix_has.1 hh;exact rcR_none.1 hr p hp e) (by rw [List.length_map];omega)];unfold ixK;rw [List.map_append];rfl
theorem SI.new (h1 : 1 ≤ S) (h2 : S ≤ 4096) : SI S lim { O := [], R := [], A := Ar.new S } (fun _ => []) (List.replicate S 0) :=
  ⟨SF.new h1 h2, by simp, by simp, by simp, fun _ _ _ => rfl⟩
end
abbrev eUi (x : Int) : List Value := [.int .u32 x]
structure SX where
  bo : Nat
  ba : Nat
  bl : Nat
  r : Option Addr
  c : Nat
  L : Nat → List Nat
  us : List Int
structure ST where
  T : TypeId
  A : TypeId
  N : TypeId
  I : TypeId
  R : TypeId
  S : TypeId
  L : TypeId
  M : TypeId
  U : TypeId
abbrev soL (t : ST) (b S lim : Nat) (T : So) (x : SX) : List HP :=
  [blk b [.int .i64 (lim : Int), .slice x.r S x.c, .pointer (some ⟨x.bo, 0, none⟩), .pointer (some ⟨x.ba, 0, none⟩), .pointer (some ⟨x.bl, 0, none⟩)] t.T,
   trieA t.A t.N t.I x.bo (ixK T.R) (S : Int), arena t.R t.S x.ba T.A, linksA t.L t.M t.I x.bl S S x.L, sls x.r S x.c t.U 1 (x.us.flatMap eUi)]
def sourceA (t : ST) (b S lim : Nat) (T : So) : HP := box (fun x : SX => SI S lim T x.L x.us ∧ S ≤ 4096 ∧ lim ≤ 64) (soL t b S lim T)
theorem Sep.sourceE {t : ST} {b S lim : Nat} {T : So} {l : List HP} {w : World} (h : Sep (sourceA t b S lim T :: l) w) :
    ∃ bo ba bl r c L us, SI S lim T L us ∧ S ≤ 4096 ∧ lim ≤ 64 ∧ Sep (blk b [.int .i64 (lim : Int), .slice r S c, .pointer (some ⟨bo, 0, none⟩), .pointer (some ⟨ba, 0, none⟩), .pointer (some ⟨bl, 0, none⟩)] t.T ::
      trieA t.A t.N t.I bo (ixK T.R) (S : Int) :: arena t.R t.S ba T.A :: linksA t.L t.M t.I bl S S L :: sls r S c t.U 1 (us.flatMap eUi) :: l) w := by
  obtain ⟨x, h1, h2⟩ := h.boxE;exact ⟨x.bo, x.ba, x.bl, x.r, x.c, x.L, x.us, h1.1, h1.2.1, h1.2.2, h2⟩
theorem Sep.sourceI {t : ST} {b S lim bo ba bl c : Nat} {T : So} {r : Option Addr} {L : Nat → List Nat} {us : List Int} {l : List HP} {w : World} (hT : SI S lim T L us) (hS : S ≤ 4096) (hm : lim ≤ 64)
    (h : Sep (blk b [.int .i64 (lim : Int), .slice r S c, .pointer (some ⟨bo, 0, none⟩), .pointer (some ⟨ba, 0, none⟩), .pointer (some ⟨bl, 0, none⟩)] t.T ::
      trieA t.A t.N t.I bo (ixK T.R) (S : Int) :: arena t.R t.S ba T.A :: linksA t.L t.M t.I bl S S L :: sls r S c t.U 1 (us.flatMap eUi) :: l) w) : Sep (sourceA t b S lim T :: l) w :=
  Sep.boxI (⟨bo, ba, bl, r, c, L, us⟩ : SX) ⟨hT, hS, hm⟩ h
structure Dk where
  A : Ar
  T : So
  ord : List Nat
  tm : Nat → Int
  un : Int
  B : List (Int × Int)
  now : Int
structure DW (S lim : Nat) (D : Dk) : Prop where
  ok : AOk D.A
  size : D.A.turn.length = S
  sf : SF S lim D.T
  tk : ∀ i, D.A.tk[i]? = some true ↔ ∃ q ∈ D.T.O, q.2 = i
  ond : D.ord.Nodup
  oin : ∀ x ∈ D.ord, ∃ q ∈ D.T.O, q.2 = x
  blen : D.B.length = S
  now : 0 ≤ D.now ∧ D.now ≤ 1099511627776
  un : 0 ≤ D.un
structure DKF (S lim : Nat) (t p u : Int) (D : Dk) : Prop where
  w : DW S lim D
  rr : RR t p u
  l1 : 1 ≤ lim ∧ lim ≤ 64
  bok : ∀ q ∈ D.T.R, ∃ c, D.B[q.2]? = some c ∧ RB t p u c.1 c.2 ∧ c.2 ≤ D.now
def bkD (t p u : Int) (T : So) (B : List (Int × Int)) (a now : Int) : Int := match rcR T.R a with
  | none => u * p
  | some r => lvl t p u (B.getD r (0, 0)).1 (B.getD r (0, 0)).2 now
def opnD (D : Dk) (a : Int) (s : Nat) : Dk := { A := D.A.take, T := addO D.T a s, ord := D.ord ++ [s], tm := upd D.tm s (D.un + 1), un := D.un + 1, B := D.B, now := D.now }
def clsD (D : Dk) (a : Int) (s : Nat) : Dk := { A := D.A.give s, T := remO D.T a s, ord := D.ord.erase s, tm := D.tm, un := D.un, B := D.B, now := D.now }
def setB (D : Dk) (r : Nat) (c : Int × Int) : Dk := { A := D.A, T := D.T, ord := D.ord, tm := D.tm, un := D.un, B := D.B.set r c, now := D.now }
def atD (D : Dk) (n : Int) : Dk := { A := D.A, T := D.T, ord := D.ord, tm := D.tm, un := D.un, B := D.B, now := n }
def seeD (D : Dk) (s : Nat) : Dk := { A := D.A, T := D.T, ord := D.ord.erase s ++ [s], tm := upd D.tm s (D.un + 1), un := D.un + 1, B := D.B, now := D.now }
def assD (D : Dk) (s : Nat) : Dk := { A := D.A, T := D.T, ord := D.ord.erase s, tm := D.tm, un := D.un, B := D.B, now := D.now }
section
variable {S lim : Nat} {t p u : Int} {D : Dk} {a : Int}
theorem DW.at (h : DW S lim D) {x : Int} : (D.A.at x).isSome = (ofO D.T.O x).isSome := by
  cases hv : D.A.at x with
  | some v =>
    obtain ⟨h0, h1, _⟩ := at_tk.1 hv;obtain ⟨q, hq, e⟩ := (h.tk x.toNat).1 h1;have h2 := ofO_of h.sf.nds (a := q.1) (s := q.2) hq;rw [show (q.2 : Int) = x from by omega] at h2;rw [h2];rfl
  | none =>
    cases hw : ofO D.T.O x with
    | none => rfl
    | some b =>
      obtain ⟨s, rfl, hm⟩ := ofO_in hw;have h1 : D.A.at (s : Int) = some (D.A.turn[s]?.getD 0) := at_tk.2 ⟨omQ, by rw [Int.toNat_natCast];exact (h.tk s).2 ⟨_, hm, rfl⟩, by rw [Int.toNat_natCast]⟩;rw [hv] at h1;cases h1
theorem DW.atSome (h : DW S lim D) {s : Nat} (hm : (a, s) ∈ D.T.O) : ∃ v, D.A.at (s : Int) = some v :=
  ⟨_, at_tk.2 ⟨omQ, by rw [Int.toNat_natCast];exact (h.tk s).2 ⟨_, hm, rfl⟩, rfl⟩⟩
theorem DW.cnt (h : DW S lim D) : Sx.cnt D.A.tk = (D.T.O.length : Int) := by
  rw [cnt_eq];have h1 := nodup_le2 (l1 := (List.range D.A.tk.length).filter fun i => decide (D.A.tk[i]? = some true)) (l2 := D.T.O.map Prod.snd) (List.nodup_range.sublist List.filter_sublist) fun i hi => by
    obtain ⟨_, h2⟩ := List.mem_filter.1 hi;obtain ⟨q, hq, e⟩ := (h.tk i).1 (of_decide_eq_true h2);exact List.mem_map.2 ⟨q, hq, e⟩
  have h2 := nodup_le2 (l2 := (List.range D.A.tk.length).filter fun i => decide (D.A.tk[i]? = some true)) (l1 := D.T.O.map Prod.snd) h.sf.nds fun i hi => by
    obtain ⟨q, hq, e⟩ := List.mem_map.1 hi;have h3 := (h.tk i).2 ⟨q, hq, e⟩;exact List.mem_filter.2 ⟨List.mem_range.2 (List.getElem?_eq_some_iff.1 h3).1, decide_eq_true h3⟩
  rw [List.length_map] at h1 h2;omega
theorem DW.free (h : DW S lim D) {s : Nat} (hs : s ∈ D.A.free) : s < S ∧ ofO D.T.O (s : Int) = none ∧ s ∉ D.ord := by
  have h1 := (h.ok.free s).1 hs;have h2 := (List.getElem?_eq_some_iff.1 h1).1;have h3 := h.ok.len;have h4 := h.size;have h5 : ∀ q ∈ D.T.O, q.2 ≠ s := fun q hq e => by
    have := (h.tk s).2 ⟨q, hq, e⟩;rw [h1] at this;cases this
  refine ⟨omQ, ofO_none.2 fun q hq e => h5 q hq omQ, fun hm => ?_⟩;obtain ⟨q, hq, e⟩ := h.oin s hm;exact h5 q hq e
theorem DW.olen (h : DW S lim D) : D.T.O.length ≤ S := h.sf.olen
theorem DW.full (h : DW S lim D) : D.T.O.length = S ↔ D.A.free = [] := by
  constructor
  · intro e
    rw [List.eq_nil_iff_forall_not_mem];intro s hs;obtain ⟨h1, h2, _⟩ := h.free hs;have := h.sf.oroom h1 h2;omega
  · intro e
    have h1 := nodup_le2 (l1 := List.range S) (l2 := D.T.O.map Prod.snd) List.nodup_range fun i hi => by
      have h2 := List.mem_range.1 hi;have h3 := h.ok.len;have h4 := h.size;have h5 : i < D.A.tk.length := omQ;have h6 : ¬ D.A.tk[i]? = some false := fun e2 => by have := (h.ok.free i).2 e2;rw [e] at this;simp at this
      have h7 : D.A.tk[i]? = some true := by
        rw [List.getElem?_eq_getElem h5] at h6 ⊢;cases hv : D.A.tk[i] with
        | true => rfl
        | false => rw [hv] at h6;exact absurd rfl h6
      obtain ⟨q, hq, e2⟩ := (h.tk i).1 h7;exact List.mem_map.2 ⟨q, hq, e2⟩
    have h2 := h.olen;rw [List.length_range, List.length_map] at h1;omega
theorem DW.ordLen (h : DW S lim D) : D.ord.length ≤ D.T.O.length := by
  have h1 := nodup_le2 (l1 := D.ord) (l2 := D.T.O.map Prod.snd) h.ond fun x hx => by
    obtain ⟨q, hq, e⟩ := h.oin x hx;exact List.mem_map.2 ⟨q, hq, e⟩
  rwa [List.length_map] at h1
theorem DW.ordOf (h : DW S lim D) {x : Nat} (hx : x ∈ D.ord) : ∃ b, (b, x) ∈ D.T.O := by
  obtain ⟨q, hq, e⟩ := h.oin x hx;exact ⟨q.1, by rw [← e];exact hq⟩
theorem SF.addO_O {T : So} (h : SF S lim T) {s : Nat} (hs : s < S) (hn : ofO T.O (s : Int) = none) : (Sx.addO T a s).O = T.O ++ [(a, s)] := by
  cases hr : rcR T.R a with
  | some r => rw [addO_old hr]
  | none =>
    have h1 := h.oroom hs hn;have h2 := h.rleo;obtain ⟨r, fs, e⟩ := h.hasFree omQ;rw [addO_new hr e]
theorem SF.addO_rc {T : So} (h : SF S lim T) {s : Nat} (hs : s < S) (hn : ofO T.O (s : Int) = none) : ∃ r, rcR (Sx.addO T a s).R a = some r ∧ ∀ q ∈ (Sx.addO T a s).R, q.2 ≠ r → q ∈ T.R := by
  cases hr : rcR T.R a with
  | some r => rw [addO_old hr];exact ⟨r, hr, fun q hq _ => hq⟩
  | none =>
    have h1 := h.oroom hs hn;have h2 := h.rleo;obtain ⟨r, fs, e⟩ := h.hasFree omQ;rw [addO_new hr e];obtain ⟨_, hrn⟩ := h.free (r := r) (by rw [e];exact List.mem_cons_self);refine ⟨r, rcR_of (fst_snoc h.nda (rcR_none.1 hr)) (List.mem_append.2 (.inr List.mem_cons_self)), fun q hq hne => ?_⟩;rcases List.mem_append.1 hq with hq | hq
    · exact hq
    · simp only [List.mem_singleton] at hq;subst hq;exact absurd rfl hne
theorem remO_O {T : So} {s : Nat} : (remO T a s).O = T.O.filter fun p => decide (p.2 ≠ s) := by
  unfold remO;split <;> rfl
theorem remO_R {T : So} {s : Nat} {q : Int × Nat} (hq : q ∈ (remO T a s).R) : q ∈ T.R := by
  unfold remO at hq
  split at hq
  · exact (List.mem_filter.1 hq).1
  · exact hq
theorem DW.opn (h : DW S lim D) {s : Nat} {fs : List Nat} (ha : 0 ≤ a ∧ a ≤ 4294967295) (e : D.A.free = s :: fs) (hl : (slO D.T.O a).length < lim) : DW S lim (opnD D a s) := by
  obtain ⟨h1, h2, h3⟩ := h.free (s := s) (by rw [e];exact List.mem_cons_self);have ht : D.A.take.tk = D.A.tk.set s true := by simp [Ar.take, e]
  have hu : D.A.take.turn = D.A.turn := by simp [Ar.take, e]
  have h5 := h.ok.len;have h6 := h.size;have hO := h.sf.addO_O (a := a) h1 h2;refine ⟨AOk.take h.ok e, by show D.A.take.turn.length = S;rw [hu];exact h.size, h.sf.addO ha h1 h2 hl, fun q => ?_, ?_, fun x hx => ?_, h.blen, h.now, by show 0 ≤ D.un + 1;have := h.un;omega⟩
  · show D.A.take.tk[q]? = some true ↔ ∃ p ∈ (Sx.addO D.T a s).O, p.2 = q
    rw [ht, hO];by_cases hq : s = q
    · subst hq
      rw [List.getElem?_set_self omQ];exact ⟨fun _ => ⟨_, List.mem_append.2 (.inr List.mem_cons_self), rfl⟩, fun _ => rfl⟩
    · rw [List.getElem?_set_ne hq, h.tk q]
      constructor
      · rintro ⟨p, hp, e2⟩;exact ⟨p, List.mem_append.2 (.inl hp), e2⟩
      · rintro ⟨p, hp, e2⟩
        rcases List.mem_append.1 hp with hp | hp
        · exact ⟨p, hp, e2⟩
        · simp only [List.mem_singleton] at hp;subst hp;exact absurd e2 hq
  · show (D.ord ++ [s]).Nodup
    rw [List.nodup_append];exact ⟨h.ond, by simp, fun x hx y hy e2 => by simp only [List.mem_singleton] at hy;subst hy;subst e2;exact h3 hx⟩
  · show ∃ p ∈ (Sx.addO D.T a s).O, p.2 = x
    rw [hO];rcases List.mem_append.1 (show x ∈ D.ord ++ [s] from hx) with hx | hx
    · obtain ⟨q, hq, e2⟩ := h.oin x hx
      exact ⟨q, List.mem_append.2 (.inl hq), e2⟩
    · simp only [List.mem_singleton] at hx;subst hx
      exact ⟨_, List.mem_append.2 (.inr List.mem_cons_self), rfl⟩
theorem DW.cls (h : DW S lim D) {s : Nat} (hm : (a, s) ∈ D.T.O) : DW S lim (clsD D a s) := by
  have hs := h.sf.lt _ hm;have ht := (h.tk s).2 ⟨_, hm, rfl⟩;have h5 := h.ok.len;have h6 := h.size;dsimp only at hs;refine ⟨AOk.give h.ok ht, by show (D.A.give s).turn.length = S;simp [Ar.give, h.size], h.sf.remO hm, fun q => ?_, h.ond.sublist List.erase_sublist, fun x hx => ?_, h.blen, h.now, h.un⟩
  · show (D.A.tk.set s false)[q]? = some true ↔ ∃ p ∈ (Sx.remO D.T a s).O, p.2 = q
    rw [remO_O];by_cases hq : s = q
    · subst hq
      rw [List.getElem?_set_self omQ];constructor
      · intro e;cases e
      · rintro ⟨p, hp, e⟩
        exact absurd e (of_decide_eq_true (List.mem_filter.1 hp).2)
    · rw [List.getElem?_set_ne hq, h.tk q]
      constructor
      · rintro ⟨p, hp, e⟩;exact ⟨p, List.mem_filter.2 ⟨hp, decide_eq_true fun e2 => hq (e2.symm.trans e)⟩, e⟩
      · rintro ⟨p, hp, e⟩;exact ⟨p, (List.mem_filter.1 hp).1, e⟩
  · show ∃ p ∈ (Sx.remO D.T a s).O, p.2 = x
    rw [remO_O];obtain ⟨h7, h8⟩ := (List.Nodup.mem_erase_iff h.ond).1 (show x ∈ D.ord.erase s from hx);obtain ⟨q, hq, e⟩ := h.oin x h8;exact ⟨q, List.mem_filter.2 ⟨hq, decide_eq_true fun e2 => h7 (e.symm.trans e2)⟩, e⟩
theorem DW.set (h : DW S lim D) {r : Nat} {c : Int × Int} : DW S lim (setB D r c) := ⟨h.ok, h.size, h.sf, h.tk, h.ond, h.oin, by show (D.B.set r c).length = S;rw [List.length_set];exact h.blen, h.now, h.un⟩
theorem DW.to (h : DW S lim D) {n : Int} (hn : 0 ≤ n ∧ n ≤ 1099511627776) : DW S lim (atD D n) := ⟨h.ok, h.size, h.sf, h.tk, h.ond, h.oin, h.blen, hn, h.un⟩
theorem DW.see (h : DW S lim D) {s : Nat} (hm : (a, s) ∈ D.T.O) : DW S lim (seeD D s) := by
  refine ⟨h.ok, h.size, h.sf, h.tk, ?_, fun x hx => ?_, h.blen, h.now, by show 0 ≤ D.un + 1;have := h.un;omega⟩
  · show (D.ord.erase s ++ [s]).Nodup
    rw [List.nodup_append];exact ⟨h.ond.sublist List.erase_sublist, by simp, fun x hx y hy e2 => by simp only [List.mem_singleton] at hy;subst hy;subst e2;exact ((List.Nodup.mem_erase_iff h.ond).1 hx).1 rfl⟩
  · rcases List.mem_append.1 (show x ∈ D.ord.erase s ++ [s] from hx) with hx | hx
    · exact h.oin x (List.mem_of_mem_erase hx)
    · simp only [List.mem_singleton] at hx;subst hx
      exact ⟨_, hm, rfl⟩
theorem DW.ass (h : DW S lim D) {s : Nat} : DW S lim (assD D s) :=
  ⟨h.ok, h.size, h.sf, h.tk, h.ond.sublist List.erase_sublist, fun x hx => h.oin x (List.mem_of_mem_erase (show x ∈ D.ord.erase s from hx)), h.blen, h.now, h.un⟩
theorem DKF.cls (h : DKF S lim t p u D) {s : Nat} (hm : (a, s) ∈ D.T.O) : DKF S lim t p u (clsD D a s) := ⟨h.w.cls hm, h.rr, h.l1, fun q hq => h.bok q (remO_R hq)⟩
theorem DKF.to (h : DKF S lim t p u D) {n : Int} (hn : D.now ≤ n ∧ n ≤ 1099511627776) : DKF S lim t p u (atD D n) := by
  have h0 := h.w.now;refine ⟨h.w.to ⟨omQ, hn.2⟩, h.rr, h.l1, fun q hq => ?_⟩;obtain ⟨c, h1, h2, h3⟩ := h.bok q hq;exact ⟨c, h1, h2, by show c.2 ≤ n;omega⟩
theorem DKF.see (h : DKF S lim t p u D) {s : Nat} (hm : (a, s) ∈ D.T.O) : DKF S lim t p u (seeD D s) := ⟨h.w.see hm, h.rr, h.l1, h.bok⟩
theorem DKF.ass (h : DKF S lim t p u D) {s : Nat} : DKF S lim t p u (assD D s) := ⟨h.w.ass, h.rr, h.l1, h.bok⟩
theorem DKF.opn (h : DKF S lim t p u D) {s r : Nat} {fs : List Nat} {c : Int × Int} (ha : 0 ≤ a ∧ a ≤ 4294967295) (e : D.A.free = s :: fs) (hl : (slO D.T.O a).length < lim)
    (hr : rcR (Sx.addO D.T a s).R a = some r) (hc : RB t p u c.1 c.2) (hn : c.2 ≤ D.now) : DKF S lim t p u (setB (opnD D a s) r c) := by
  obtain ⟨h1, h2, _⟩ := h.w.free (s := s) (by rw [e];exact List.mem_cons_self);obtain ⟨r', hr', ho⟩ := h.w.sf.addO_rc (a := a) h1 h2;have hrr : r' = r := by rw [hr] at hr';exact (Option.some.inj hr').symm
  subst hrr;have hw := h.w.opn ha e hl;have hrS := hw.sf.rlt (rcR_in hr);have hb := h.w.blen;refine ⟨hw.set, h.rr, h.l1, fun q hq => ?_⟩;show ∃ x, (D.B.set r' c)[q.2]? = some x ∧ _ ∧ _;by_cases hq2 : q.2 = r'
  · rw [hq2, List.getElem?_set_self (by dsimp only at hrS;omega)]
    exact ⟨c, rfl, hc, hn⟩
  · rw [List.getElem?_set_ne (fun e2 => hq2 e2.symm)]
    exact h.bok q (ho q hq hq2)
theorem DKF.set (h : DKF S lim t p u D) {r : Nat} {c : Int × Int} (hr : rcR D.T.R a = some r) (hc : RB t p u c.1 c.2) (hn : c.2 ≤ D.now) : DKF S lim t p u (setB D r c) := by
  have hrS := h.w.sf.rlt (rcR_in hr);have hb := h.w.blen;refine ⟨h.w.set, h.rr, h.l1, fun q hq => ?_⟩;show ∃ x, (D.B.set r c)[q.2]? = some x ∧ _ ∧ _;by_cases hq2 : q.2 = r
  · rw [hq2, List.getElem?_set_self (by dsimp only at hrS;omega)]
    exact ⟨c, rfl, hc, hn⟩
  · rw [List.getElem?_set_ne (fun e2 => hq2 e2.symm)]
    exact h.bok q hq
theorem lvl_self {b lv now : Int} (h : RB t p b lv now) : lvl t p b lv now now = lv := by
  obtain ⟨_, h1, h2, _⟩ := h;unfold lvl;rw [Int.sub_self, Int.zero_mul];omega
theorem fullF_pos {b now : Int} (h : RR t p b) (hn : 0 ≤ now ∧ now ≤ 1099511627776) : fullF t p b now = (b * p, now, 0) := by rw [fullF, if_pos ⟨h, hn⟩]
theorem bk_none {T : So} {B : List (Int × Int)} {now : Int} (h : rcR T.R a = none) : bkD t p u T B a now = u * p := by unfold bkD;rw [h]
theorem bk_some {T : So} {B : List (Int × Int)} {now : Int} {r : Nat} {c : Int × Int} (h : rcR T.R a = some r) (hc : B[r]? = some c) : bkD t p u T B a now = lvl t p u c.1 c.2 now := by
  unfold bkD;rw [h];simp [hc]
theorem DKF.got (h : DKF S lim t p u D) {r : Nat} {n : Int} (hn : D.now ≤ n ∧ n ≤ 1099511627776) (hr : rcR D.T.R a = some r) : ∃ c, r < S ∧ D.B[r]? = some c ∧ RT t p u c.1 c.2 n := by
  obtain ⟨c, h1, h2, h3⟩ := h.bok _ (rcR_in hr);have := h.w.sf.rlt (rcR_in hr);exact ⟨c, this, h1, h2, omQ, hn.2⟩
theorem DKF.bk (h : DKF S lim t p u D) {n : Int} (hn : D.now ≤ n ∧ n ≤ 1099511627776) : RB t p u (bkD t p u D.T D.B a n) n := by
  have h0 := h.w.now;have hm := h.rr.most;cases hr : rcR D.T.R a with
  | none => rw [bk_none hr];exact ⟨h.rr, hm.1, omQ, omQ, hn.2⟩
  | some r =>
    obtain ⟨c, _, hc, hT⟩ := h.got hn hr;rw [bk_some hr hc];have := lvl_bd hT;exact ⟨h.rr, this.1, this.2.1, omQ, hn.2⟩
theorem take1 {lv n : Int} (h : RB t p u lv n) : takeF t p u lv n n 1 = if lv < p then (0, 0, 6) else (lv - p, n, 0) := by
  obtain ⟨hr, h1, h2, h3, h4⟩ := h;have hT : RT t p u lv n n := ⟨⟨hr, h1, h2, h3, h4⟩, Int.le_refl _, h4⟩;have hl := lvl_self hT.1;have hu : 1 ≤ u := hr.2.2.2.2.1;by_cases hp : lv < p
  · rw [if_pos hp, takeF_none hT omQ hu (by rw [hl, Int.one_mul];exact hp)]
  · rw [if_neg hp, takeF_ok hT omQ hu (by rw [hl, Int.one_mul];omega), hl, Int.one_mul]
theorem tok1 {lv n : Int} (h : RB t p u lv n) : tokF t p u lv n n = (lv / p, 0) := by
  obtain ⟨hr, h1, h2, h3, h4⟩ := h;have hT : RT t p u lv n n := ⟨⟨hr, h1, h2, h3, h4⟩, Int.le_refl _, h4⟩;rw [tokF_pos hT, lvl_self hT.1]
theorem RB.less {lv n : Int} (h : RB t p u lv n) (hp : ¬ lv < p) : RB t p u (lv - p) n := by
  obtain ⟨hr, h1, h2, h3, h4⟩ := h;have : 1 ≤ p := hr.2.2.1;exact ⟨hr, omQ, omQ, h3, h4⟩
theorem see_at {ord : List Nat} {tm : Nat → Int} {un : Int} {s : Nat} (hs : s < S) : seeO S ord (s : Int) = ord.erase s ++ [s] ∧ seeT S tm un (s : Int) = upd tm s (un + 1) ∧ seeN S un (s : Int) = un + 1 ∧ loutO S ord (s : Int) = ord.erase s := by
  have h : 0 ≤ (s : Int) ∧ (s : Int) < S := omQ;exact ⟨by rw [seeO, if_pos h, Int.toNat_natCast], by rw [seeT, if_pos h, Int.toNat_natCast], by rw [seeN, if_pos h], by rw [loutO, if_pos h, Int.toNat_natCast]⟩
theorem see_new {ord : List Nat} {tm : Nat → Int} {un : Int} {s : Nat} (hs : s < S) (hn : s ∉ ord) : seeO S ord (s : Int) = ord ++ [s] ∧ seeT S tm un (s : Int) = upd tm s (un + 1) ∧ seeN S un (s : Int) = un + 1 := by
  obtain ⟨h1, h2, h3, _⟩ := see_at (ord := ord) (tm := tm) (un := un) hs;rw [List.erase_of_not_mem hn] at h1;exact ⟨h1, h2, h3⟩
theorem DKF.new (h1 : 1 ≤ S) (h2 : S ≤ 4096) (hr : RR t p u) (hl : 1 ≤ lim ∧ lim ≤ 64) : DKF S lim t p u { A := Ar.new S, T := { O := [], R := [], A := Ar.new S }, ord := [], tm := fun _ => 0, un := 0, B := List.replicate S (0, 0), now := 0 } := by
  have h := SF.new (lim := lim) h1 h2;have h0 := h.tk;refine ⟨⟨h.ok, h.size, h, fun i => ?_, by simp, by simp, by simp, by dsimp only;omega, by dsimp only;omega⟩, hr, hl, by simp⟩;exact (h0 i).trans (by simp)
end
structure DKT where
  D : TypeId
  B : TypeId
  U : TypeId
  s : ST
structure DKX where
  ba : Nat
  bs : Nat
  bo : Nat
  r : Option Addr
  c : Nat
abbrev deskL (t : DKT) (b S lim : Nat) (q : Int × Int × Int) (D : Dk) (x : DKX) : List HP :=
  [blk b [.pointer (some ⟨x.ba, 0, none⟩), .pointer (some ⟨x.bs, 0, none⟩), .pointer (some ⟨x.bo, 0, none⟩), .slice x.r S x.c, .int .i64 (S : Int), .int .i64 (lim : Int), .int .i64 q.1, .int .i64 q.2.1, .int .i64 q.2.2, .int .i64 D.now] t.D,
   arena t.s.R t.s.S x.ba D.A, sourceA t.s x.bs S lim D.T, lruA t.U t.s.L t.s.M t.s.I x.bo S D.ord D.tm D.un, sls x.r S x.c t.B 2 (D.B.flatMap e2)]
def deskA (t : DKT) (b S lim : Nat) (q : Int × Int × Int) (D : Dk) : HP := box (fun _ : DKX => True) (deskL t b S lim q D)
section
variable {t : DKT} {b S lim ba bs bo c : Nat} {r : Option Addr} {q1 q2 q3 : Int} {D : Dk} {l : List HP} {w : World}
theorem Sep.deskE (h : Sep (deskA t b S lim (q1, q2, q3) D :: l) w) :
    ∃ ba bs bo r c, Sep (blk b [.pointer (some ⟨ba, 0, none⟩), .pointer (some ⟨bs, 0, none⟩), .pointer (some ⟨bo, 0, none⟩), .slice r S c, .int .i64 (S : Int), .int .i64 (lim : Int), .int .i64 q1, .int .i64 q2, .int .i64 q3, .int .i64 D.now] t.D ::
      arena t.s.R t.s.S ba D.A :: sourceA t.s bs S lim D.T :: lruA t.U t.s.L t.s.M t.s.I bo S D.ord D.tm D.un :: sls r S c t.B 2 (D.B.flatMap e2) :: l) w := by
  obtain ⟨x, _, h2⟩ := h.boxE;exact ⟨x.ba, x.bs, x.bo, x.r, x.c, h2⟩
theorem Sep.deskI {A : Ar} {T : So} {ord : List Nat} {tm : Nat → Int} {un now : Int} {B : List (Int × Int)}
    (h : Sep (blk b [.pointer (some ⟨ba, 0, none⟩), .pointer (some ⟨bs, 0, none⟩), .pointer (some ⟨bo, 0, none⟩), .slice r S c, .int .i64 (S : Int), .int .i64 (lim : Int), .int .i64 q1, .int .i64 q2, .int .i64 q3, .int .i64 now] t.D ::
      arena t.s.R t.s.S ba A :: sourceA t.s bs S lim T :: lruA t.U t.s.L t.s.M t.s.I bo S ord tm un :: sls r S c t.B 2 (B.flatMap e2) :: l) w) : Sep (deskA t b S lim (q1, q2, q3) { A := A, T := T, ord := ord, tm := tm, un := un, B := B, now := now } :: l) w :=
  Sep.boxI (⟨ba, bs, bo, r, c⟩ : DKX) trivial h
end
theorem Rds.pairs {l l' : List HP} {r : Option Addr} {m cap k : Nat} {T : TypeId} {B : List (Int × Int)} {x y : Int} (p : Pk (Sx.sls r m cap T 2 (B.flatMap e2)) l l') (hk : B[k]? = some (x, y)) : Rds l (blkOf r) (k * 2) [.int .i64 x, .int .i64 y] := by
  obtain ⟨h1, h2⟩ := List.getElem?_eq_some_iff.1 hk;have h3 := Rds.rec (enc := e2) p (fun _ => rfl) h1;rw [h2] at h3;exact h3
def putB (D : Dk) (a : Int) (c : Int × Int) : Dk := setB D ((rcR D.T.R a).getD 0) c
def heldD (D : Dk) (a : Int) : Option (Int × Int) := (rcR D.T.R a).map fun q => D.B.getD q (0, 0)
def asD (S : Nat) (D : Dk) (x : Int) : Bool := decide (clsE S D.T x = 0) && !decide (x.toNat ∈ D.ord)
def tryD (lim : Nat) (t p u : Int) (D : Dk) (n a : Int) : (Int × Int × Int × Bool × Int) × Dk :=
  if n < D.now ∨ 1099511627776 < n then ((0, 0, 0, false, 2), D)
  else if lim ≤ (slO D.T.O a).length then ((27, 0, 0, false, 0), atD D n)
  else if bkD t p u D.T D.B a n < p then ((28, 0, 0, false, 0), atD D n)
  else match D.A.free with
    | s :: _ => ((22, (s : Int), 0, false, 0), putB (opnD (atD D n) a s) a (bkD t p u D.T D.B a n - p, n))
    | [] => match D.ord with
      | [] => ((29, 0, 0, false, 0), atD D n)
      | v :: _ => ((22, (v : Int), (v : Int), true, 0), putB (opnD (clsD (atD D n) ((ofO D.T.O (v : Int)).getD 0) v) a v) a (bkD t p u D.T D.B a n - p, n))
def tryV (x : Int × Int × Int × Bool × Int) : Value := .tuple [.agg [.int .u8 x.1, .int .i64 x.2.1, .int .i64 x.2.2.1, .bool x.2.2.2.1].toArray, .int .i64 x.2.2.2.2].toArray
def seeN' (S : Nat) (D : Dk) (x : Int) : Dk := if clsE S D.T x = 0 ∧ x.toNat ∈ D.ord then seeD D x.toNat else D
def assN (S : Nat) (D : Dk) (x : Int) : Dk := if clsE S D.T x = 0 then assD D x.toNat else D
def cloN (D : Dk) (x : Int) : Dk := match ofO D.T.O x with
  | some a => clsD D a x.toNat
  | none => D
section
variable {S lim : Nat} {t p u : Int} {D : Dk} {a n x : Int}
theorem when_at {ord : List Nat} {T : Nat → Int} (h : 0 ≤ x ∧ x < S) : whenV S ord T x = .tuple [.int .i64 (if x.toNat ∈ ord then T x.toNat else 0), .bool (decide (x.toNat ∈ ord))].toArray := by
  unfold whenV;by_cases hm : x.toNat ∈ ord
  · rw [if_pos ⟨h.1, h.2, hm⟩, if_pos hm, decide_eq_true hm]
  · rw [if_neg (fun c => hm c.2.2), if_neg hm, decide_eq_false hm]
theorem clsE_in {T : So} (h : clsE S T x = 0) : (0 ≤ x ∧ x < S) ∧ ∃ b, ofO T.O x = some b := by
  unfold clsE at h;by_cases h1 : 0 ≤ x ∧ x < S
  · rw [if_neg (fun c => c h1)] at h
    by_cases h2 : (ofO T.O x).isSome = true
    · exact ⟨h1, Option.isSome_iff_exists.1 h2⟩
    · rw [if_neg h2] at h;cases h
  · rw [if_pos h1] at h;cases h
theorem clsE_of (h : DW S lim D) {s : Nat} (hm : (a, s) ∈ D.T.O) : clsE S D.T (s : Int) = 0 ∧ s < S ∧ ofO D.T.O (s : Int) = some a ∧ ∃ v, D.A.at (s : Int) = some v :=
  ⟨(cls_ok (h.sf.lt _ hm) (ofO_of h.sf.nds hm)).1, h.sf.lt _ hm, ofO_of h.sf.nds hm, h.atSome hm⟩
theorem clsE_nat (hD : DW S lim D) (h : clsE S D.T x = 0) : ∃ (s : Nat) (b : Int), x = s ∧ (b, s) ∈ D.T.O := by
  obtain ⟨_, b, hb⟩ := clsE_in h;obtain ⟨s, e, hm⟩ := ofO_in hb;exact ⟨s, b, e, hm⟩
theorem slO_rem {T : So} {b : Int} {s : Nat} : (slO (remO T b s).O a).length ≤ (slO T.O a).length := by
  rw [remO_O, slO_out];exact List.length_filter_le _ _
theorem cnt_lit (h : DW S lim D) : (Sx.cnt D.A.tk = (S : Int)) ↔ D.A.free = [] := by
  rw [h.cnt, ← h.full];omega
theorem DW.rcAdd (h : DW S lim D) {s : Nat} {fs : List Nat} (e : D.A.free = s :: fs) (ha : 0 ≤ a ∧ a ≤ 4294967295) (hl : (slO D.T.O a).length < lim) : ∃ q, rcR (Sx.addO D.T a s).R a = some q ∧ q < S := by
  obtain ⟨h1, h2, _⟩ := h.free (s := s) (by rw [e];exact List.mem_cons_self);obtain ⟨q, hq, _⟩ := h.sf.addO_rc (a := a) h1 h2;exact ⟨q, hq, (h.sf.addO ha h1 h2 hl).rlt (rcR_in hq)⟩
theorem DKF.put (h : DKF S lim t p u D) {s : Nat} {fs : List Nat} {c : Int × Int} (ha : 0 ≤ a ∧ a ≤ 4294967295) (e : D.A.free = s :: fs) (hl : (slO D.T.O a).length < lim) (hc : RB t p u c.1 c.2) (hn : c.2 ≤ D.now) : DKF S lim t p u (putB (opnD D a s) a c) := by
  obtain ⟨q, hq, _⟩ := h.w.rcAdd e ha hl;unfold putB;rw [show (rcR (opnD D a s).T.R a).getD 0 = q from by show (rcR (Sx.addO D.T a s).R a).getD 0 = q;rw [hq];rfl];exact h.opn ha e hl hq hc hn
theorem DKF.try (h : DKF S lim t p u D) (ha : 0 ≤ a ∧ a ≤ 4294967295) : DKF S lim t p u (tryD lim t p u D n a).2 := by
  unfold tryD
  split
  · exact h
  rename_i h1
  have hn : D.now ≤ n ∧ n ≤ 1099511627776 := omQ;have hB := h.bk (a := a) hn
  split
  · exact h.to hn
  split
  · exact h.to hn
  rename_i h2 h3
  have hB2 := hB.less h3
  split
  · rename_i s fs e
    exact (h.to hn).put ha e (by show (slO D.T.O a).length < lim;omega) hB2 (Int.le_refl _)
  split
  · exact h.to hn
  · rename_i e v vs e2
    obtain ⟨b, hb⟩ := h.w.ordOf (x := v) (by rw [e2];exact List.mem_cons_self);rw [ofO_of h.w.sf.nds hb];have h4 := (h.to hn).cls (a := b) (s := v) hb;refine h4.put (s := v) (fs := D.A.free) ha rfl ?_ hB2 (Int.le_refl _);have := slO_rem (T := D.T) (a := a) (b := b) (s := v);show (slO (remO D.T b v).O a).length < lim;omega
theorem tryD_un : (tryD lim t p u D n a).2.un ≤ D.un + 1 := by
  unfold tryD;have h0 : D.un ≤ D.un + 1 := omQ
  split
  · exact h0
  split
  · exact h0
  split
  · exact h0
  split
  · exact Int.le_refl _
  split
  · exact h0
  · exact Int.le_refl _
theorem seeN_un (h : DW S lim D) : (seeN' S D x).un ≤ D.un + 1 ∧ DW S lim (seeN' S D x) := by
  unfold seeN'
  split
  · rename_i hc
    obtain ⟨s, b, rfl, hm⟩ := clsE_nat h hc.1;rw [Int.toNat_natCast];exact ⟨Int.le_refl _, h.see hm⟩
  · exact ⟨omQ, h⟩
theorem DKF.seeN (h : DKF S lim t p u D) : DKF S lim t p u (seeN' S D x) := by
  unfold seeN'
  split
  · rename_i hc
    obtain ⟨s, b, rfl, hm⟩ := clsE_nat h.w hc.1;rw [Int.toNat_natCast];exact h.see hm
  · exact h
theorem DKF.assN (h : DKF S lim t p u D) : DKF S lim t p u (assN S D x) := by
  unfold Sx.assN
  split
  · exact h.ass
  · exact h
theorem DKF.cloN (h : DKF S lim t p u D) : DKF S lim t p u (cloN D x) := by
  unfold Sx.cloN
  split
  · rename_i b hb
    obtain ⟨s, rfl, hm⟩ := ofO_in hb;rw [Int.toNat_natCast];exact h.cls hm
  · exact h
theorem assN_un : (assN S D x).un = D.un := by unfold assN;split <;> rfl
theorem cloN_un : (cloN D x).un = D.un := by unfold cloN;split <;> rfl
end
theorem tmodD {n b : Int} (hb : 0 < b) : - b < n.tmod b ∧ n.tmod b < b := by
  have h1 := Int.tmod_lt_of_pos n hb;refine ⟨?_, h1⟩;have h2 := Int.neg_tmod n b;have h3 := Int.tmod_lt_of_pos (-n) hb;omega
theorem mod2D {n b : Int} (hb : 0 < b) : (n.tmod b + b) % b = n % b := by
  have h := Int.mul_tdiv_add_tmod n b;rw [Int.add_emod_right];have h2 : n % b = (b * n.tdiv b + n.tmod b) % b := by rw [h]
  rw [h2, Int.mul_add_emod_self_left]
structure MD (S lim : Nat) (t p u : Int) (k : Nat) (D : Dk) : Prop where
  f : DKF S lim t p u D
  six : ∀ q ∈ D.T.O, 0 ≤ q.1 ∧ q.1 < 6
  un : D.un ≤ k
  now : D.now ≤ 40 * k
abbrev DoR := (Int × Int × Int × Bool) × Bool × Dk
def doD (S lim : Nat) (t p u : Int) (D : Dk) (k a x : Int) : DoR :=
  if k % 8 = 4 ∨ k % 8 = 7 then ((0, 0, 0, false), false, seeN' S D (x % S))
  else if k % 8 = 5 then ((0, 0, 0, false), false, assN S D (x % S))
  else if k % 8 = 6 then ((0, 0, 0, false), false, cloN D (x % S))
  else (((tryD lim t p u D (D.now + x % 40) (a % 6)).1.1, (tryD lim t p u D (D.now + x % 40) (a % 6)).1.2.1, (tryD lim t p u D (D.now + x % 40) (a % 6)).1.2.2.1, (tryD lim t p u D (D.now + x % 40) (a % 6)).1.2.2.2.1), true, (tryD lim t p u D (D.now + x % 40) (a % 6)).2)
section
variable {S lim : Nat} {t p u : Int} {D : Dk} {a n x k : Int} {m : Nat}
theorem addO_sub {T : So} {s : Nat} {q : Int × Nat} (hq : q ∈ (Sx.addO T a s).O) : q ∈ T.O ∨ q.1 = a := by
  unfold Sx.addO at hq
  split at hq
  · rcases List.mem_append.1 hq with h | h
    · exact .inl h
    · simp only [List.mem_singleton] at h;subst h;exact .inr rfl
  · split at hq
    · rcases List.mem_append.1 hq with h | h
      · exact .inl h
      · simp only [List.mem_singleton] at h;subst h;exact .inr rfl
    · exact .inl hq
theorem remO_sub {T : So} {s : Nat} {q : Int × Nat} (hq : q ∈ (Sx.remO T a s).O) : q ∈ T.O := by
  rw [remO_O] at hq;exact (List.mem_filter.1 hq).1
theorem tryD_O {q : Int × Nat} (hq : q ∈ (tryD lim t p u D n a).2.T.O) : q ∈ D.T.O ∨ q.1 = a := by
  unfold tryD at hq
  split at hq
  · exact .inl hq
  split at hq
  · exact .inl hq
  split at hq
  · exact .inl hq
  split at hq
  · exact addO_sub (show q ∈ (Sx.addO D.T a _).O from hq)
  split at hq
  · exact .inl hq
  · rcases addO_sub (show q ∈ (Sx.addO (Sx.remO D.T _ _) a _).O from hq) with h | h
    · exact .inl (remO_sub h)
    · exact .inr h
theorem tryD_now (h : D.now ≤ n) : (tryD lim t p u D n a).2.now ≤ n := by
  unfold tryD
  split
  · exact h
  split
  · exact Int.le_refl _
  split
  · exact Int.le_refl _
  split
  · exact Int.le_refl _
  split
  · exact Int.le_refl _
  · exact Int.le_refl _
theorem cloN_O {q : Int × Nat} (hq : q ∈ (cloN D x).T.O) : q ∈ D.T.O := by
  unfold cloN at hq
  split at hq
  · exact remO_sub (show q ∈ (Sx.remO D.T _ _).O from hq)
  · exact hq
theorem seeN_T : (seeN' S D x).T = D.T ∧ (seeN' S D x).now = D.now := by unfold seeN';split <;> exact ⟨rfl, rfl⟩
theorem assN_T : (assN S D x).T = D.T ∧ (assN S D x).now = D.now := by unfold assN;split <;> exact ⟨rfl, rfl⟩
theorem cloN_now : (cloN D x).now = D.now := by unfold cloN;split <;> rfl
theorem MD.do (h : MD S lim t p u m D) (ha : 0 ≤ a) (hm : m ≤ 10000) : MD S lim t p u (m + 1) (doD S lim t p u D k a x).2.2 := by
  have hu := h.un;have hn := h.now;have h6 : 0 ≤ a % 6 ∧ a % 6 < 6 := omQ;have h40 : 0 ≤ x % 40 ∧ x % 40 < 40 := omQ;unfold doD
  split
  · obtain ⟨e1, e2⟩ := seeN_T (S := S) (D := D) (x := x % S)
    have e3 := (seeN_un (x := x % S) h.f.w).1;exact ⟨h.f.seeN, by dsimp only;rw [e1];exact h.six, by dsimp only;omega, by dsimp only;rw [e2];omega⟩
  split
  · obtain ⟨e1, e2⟩ := assN_T (S := S) (D := D) (x := x % S)
    have e3 := assN_un (S := S) (D := D) (x := x % S);exact ⟨h.f.assN, by dsimp only;rw [e1];exact h.six, by dsimp only;rw [e3];omega, by dsimp only;rw [e2];omega⟩
  split
  · have e2 := cloN_now (D := D) (x := x % S)
    have e3 := cloN_un (D := D) (x := x % S);exact ⟨h.f.cloN, fun q hq => h.six q (cloN_O hq), by dsimp only;rw [e3];omega, by dsimp only;rw [e2];omega⟩
  · have e1 := tryD_un (lim := lim) (t := t) (p := p) (u := u) (D := D) (n := D.now + x % 40) (a := a % 6)
    have e2 := tryD_now (lim := lim) (t := t) (p := p) (u := u) (D := D) (n := D.now + x % 40) (a := a % 6) omQ;refine ⟨h.f.try omQ, fun q hq => ?_, by dsimp only;omega, by dsimp only;omega⟩;rcases tryD_O hq with h1 | h1
    · exact h.six q h1
    · omega
theorem MD.le (h : MD S lim t p u m D) {m2 : Nat} (hm : m ≤ m2) : MD S lim t p u m2 D := ⟨h.f, h.six, by have := h.un;omega, by have := h.now;omega⟩
end
def D0 (S : Nat) : Dk := { A := Ar.new S, T := { O := [], R := [], A := Ar.new S }, ord := [], tm := fun _ => 0, un := 0, B := List.replicate S (0, 0), now := 0 }
section
variable {S lim : Nat} {t p u : Int} {D : Dk} {a x k : Int} {xs : List (List Int)}
theorem MD.new (h1 : 1 ≤ S) (h2 : S ≤ 4096) (hr : RR t p u) (hl : 1 ≤ lim ∧ lim ≤ 64) : MD S lim t p u 0 (D0 S) := ⟨DKF.new h1 h2 hr hl, by simp [D0], by simp [D0], by simp [D0]⟩
end
section
variable {S lim : Nat} {t p u : Int} {D : Dk} {a n x k : Int} {m : Nat}
structure ClI (S lim : Nat) (t p u : Int) (a : Int) (sl : List Nat) (i : Nat) (D : Dk) : Prop where
  f : DKF S lim t p u D
  le : i ≤ sl.length
  eq : slO D.T.O a = sl.drop i
theorem ClI.at {sl : List Nat} {i : Nat} (h : ClI S lim t p u a sl i D) (hi : i < sl.length) : (a, sl[i]) ∈ D.T.O := by
  rw [← slO_mem, h.eq, List.drop_eq_getElem_cons hi];exact List.mem_cons_self
theorem ClI.step {sl : List Nat} {i : Nat} (h : ClI S lim t p u a sl i D) (hi : i < sl.length) : ClI S lim t p u a sl (i + 1) (cloN D (sl[i] : Int)) ∧ (cloN D (sl[i] : Int)).now = D.now ∧ clsE S D.T (sl[i] : Int) = 0 := by
  have hm := h.at hi;have hnd : (slO D.T.O a).Nodup := slO_nodup h.f.w.sf.nds;rw [h.eq, List.drop_eq_getElem_cons hi, List.nodup_cons] at hnd;refine ⟨⟨h.f.cloN, hi, ?_⟩, cloN_now, (clsE_of h.f.w hm).1⟩;unfold cloN;rw [ofO_of h.f.w.sf.nds hm];dsimp only;rw [Int.toNat_natCast];show slO (remO D.T a sl[i]).O a = _;rw [remO_O, slO_out, h.eq, List.drop_eq_getElem_cons hi, List.filter_cons_of_neg (by simp)];exact List.filter_eq_self.2 fun x hx => decide_eq_true fun e => hnd.1 (e ▸ hx)
end
def putF (u p : Int) (D : Dk) (a : Int) (asg : Bool) : Dk := match D.A.free with
  | s :: _ => putB (bif asg then assD (opnD D a s) s else opnD D a s) a ((heldD D a).getD (u * p, D.now))
  | [] => D
section
variable {S lim : Nat} {t p u : Int} {D : Dk} {a n x k : Int} {m : Nat}
theorem held_none (h : rcR D.T.R a = none) : heldD D a = none := by unfold heldD;rw [h];rfl
theorem held_some {q : Nat} {c : Int × Int} (h : rcR D.T.R a = some q) (hc : D.B[q]? = some c) : heldD D a = some c := by unfold heldD;rw [h];simp [hc]
theorem DW.bkt (h : DW S lim D) {q : Nat} (hr : rcR D.T.R a = some q) : ∃ c, q < S ∧ D.B[q]? = some c := by
  have h1 := h.sf.rlt (rcR_in hr);have h2 := h.blen;exact ⟨_, h1, List.getElem?_eq_getElem (by dsimp only at h1;omega)⟩
theorem DKF.held (h : DKF S lim t p u D) : RB t p u ((heldD D a).getD (u * p, D.now)).1 ((heldD D a).getD (u * p, D.now)).2 ∧ ((heldD D a).getD (u * p, D.now)).2 ≤ D.now := by
  have hm := h.rr.most;have hn := h.w.now;cases hr : rcR D.T.R a with
  | none => rw [held_none hr];exact ⟨⟨h.rr, hm.1, Int.le_refl _, hn.1, hn.2⟩, Int.le_refl _⟩
  | some q =>
    obtain ⟨c, h1, h2, h3⟩ := h.bok _ (rcR_in hr);rw [held_some hr h1];exact ⟨h2, h3⟩
theorem DKF.putF (h : DKF S lim t p u D) {asg : Bool} (ha : 0 ≤ a ∧ a ≤ 4294967295) (hl : (slO D.T.O a).length < lim) : DKF S lim t p u (putF u p D a asg) := by
  unfold Sx.putF
  split
  · rename_i s fs e
    obtain ⟨hc, hn⟩ := h.held (a := a);have h1 := h.put ha e hl hc hn;cases asg
    · exact h1
    · exact h1.ass (s := s)
  · exact h
end
section
variable {S lim : Nat} {t p u : Int} {D : Dk} {a b n x k : Int} {m : Nat} {R : List (Int × Nat)}
def lvH (t p u : Int) (h : Option (Int × Int)) (n : Int) : Int := match h with
  | none => u * p
  | some c => lvl t p u c.1 c.2 n
theorem bk_held : bkD t p u D.T D.B a n = lvH t p u (heldD D a) n := by
  unfold bkD lvH heldD;cases rcR D.T.R a <;> rfl
theorem rcR_snoc {r : Nat} (h : rcR R a = none) : rcR (R ++ [(a, r)]) b = if b = a then some r else rcR R b := by
  unfold rcR at h ⊢;rw [List.find?_append, List.find?_cons, List.find?_nil];by_cases e : b = a
  · subst e
    rw [if_pos rfl];rw [Option.map_eq_none_iff] at h;rw [h, decide_eq_true rfl];rfl
  · rw [if_neg e, decide_eq_false (show ¬ (a, r).1 = b from fun e2 => e e2.symm)]
    simp
theorem rcR_but : rcR (R.filter fun p => decide (p.1 ≠ a)) b = if b = a then none else rcR R b := by
  by_cases e : b = a
  · subst e
    rw [if_pos rfl, rcR_none];intro p hp;exact of_decide_eq_true (List.mem_filter.1 hp).2
  · rw [if_neg e]
    unfold rcR;rw [List.find?_filter];congr 1;congr 1;funext p;by_cases e2 : p.1 = b
    · simp [e2, e]
    · simp [e2]
theorem rc_ne (h : SF S lim D.T) {q q' : Nat} (h1 : rcR D.T.R a = some q) (h2 : rcR D.T.R b = some q') (e : b ≠ a) : q' ≠ q := fun e2 => by
  subst e2;exact e (congrArg Prod.fst (nodup_map_inj h.ndr (rcR_in h2) (rcR_in h1) rfl))
theorem getD_set {B : List (Int × Int)} {q q' : Nat} {c : Int × Int} (h : q' ≠ q) : (B.set q c).getD q' (0, 0) = B.getD q' (0, 0) := by
  rw [List.getD_eq_getElem?_getD, List.getD_eq_getElem?_getD, List.getElem?_set_ne (fun e => h e.symm)]
theorem held_set (h : DW S lim D) {q : Nat} {c : Int × Int} (hr : rcR D.T.R a = some q) : heldD (setB D q c) b = if b = a then some c else heldD D b := by
  have hq := h.sf.rlt (rcR_in hr);have hb := h.blen;dsimp only at hq;unfold heldD;show (rcR D.T.R b).map (fun r => (D.B.set q c).getD r (0, 0)) = _;by_cases e : b = a
  · subst e
    rw [if_pos rfl, hr];show some ((D.B.set q c).getD q (0, 0)) = _;rw [List.getD_eq_getElem?_getD, List.getElem?_set_self omQ];rfl
  · rw [if_neg e]
    cases hv : rcR D.T.R b with
    | none => rfl
    | some q' => 
      show some ((D.B.set q c).getD q' (0, 0)) = some (D.B.getD q' (0, 0));rw [getD_set (rc_ne h.sf hr hv e)]
theorem held_put (h : DW S lim D) {s : Nat} {fs : List Nat} {c : Int × Int} (ha : 0 ≤ a ∧ a ≤ 4294967295) (e : D.A.free = s :: fs) (hl : (slO D.T.O a).length < lim) :
    heldD (putB (opnD D a s) a c) b = if b = a then some c else heldD D b := by
  have hw := h.opn ha e hl;obtain ⟨q, hq, _⟩ := h.rcAdd e ha hl;have hq' : rcR (opnD D a s).T.R a = some q := hq;unfold putB;rw [hq'];show heldD (setB (opnD D a s) q c) b = _;rw [held_set hw hq'];by_cases e2 : b = a
  · rw [if_pos e2, if_pos e2]
  rw [if_neg e2, if_neg e2];unfold heldD;have : rcR (opnD D a s).T.R b = rcR D.T.R b := by
    show rcR (Sx.addO D.T a s).R b = _;cases hr : rcR D.T.R a with
    | some r => rw [addO_old hr]
    | none =>
      obtain ⟨h1, h2, _⟩ := h.free (s := s) (by rw [e];exact List.mem_cons_self);have h3 := h.sf.oroom h1 h2;have h4 := h.sf.rleo;obtain ⟨r, fs2, e3⟩ := h.sf.hasFree omQ;rw [addO_new hr e3];show rcR (D.T.R ++ [(a, r)]) b = _;rw [rcR_snoc hr, if_neg e2]
  rw [this];rfl
theorem held_cls (h : DW S lim D) {s : Nat} (hm : (a, s) ∈ D.T.O) :
    heldD (clsD D a s) b = if b = a ∧ slO (clsD D a s).T.O a = [] then none else heldD D b := by
  obtain ⟨r, hr⟩ := h.sf.srcO hm;have hrc := rcR_of h.sf.nda hr;have hO : (clsD D a s).T.O = D.T.O.filter fun p => decide (p.2 ≠ s) := remO_O;rw [hO];unfold heldD;by_cases he : slO (D.T.O.filter fun p => decide (p.2 ≠ s)) a = []
  · have h1 : (clsD D a s).T.R = D.T.R.filter fun p => decide (p.1 ≠ a) := by
      show (remO D.T a s).R = _;rw [remO_last hrc he]
    rw [h1, rcR_but];by_cases e : b = a
    · rw [if_pos e, if_pos ⟨e, he⟩];rfl
    · rw [if_neg e, if_neg (fun c => e c.1)];rfl
  · have h1 : (clsD D a s).T.R = D.T.R := by
      show (remO D.T a s).R = _;rw [remO_more he]
    rw [h1, if_neg (fun c => he c.2)];rfl
end
abbrev Fw := Nat × Int × Int × Bool
abbrev Pw := Int × Int × Int
structure Rk where
  F : List Fw
  P : List Pw
  fr : List Nat
  now : Int
  ev : Int
def slF (F : List Fw) (a : Int) : List Nat := (F.filter fun f => decide (f.2.2.1 = a)).map fun f => f.1
def hdP (P : List Pw) (a : Int) : Option (Int × Int) := (P.find? fun q => decide (q.1 = a)).map Prod.snd
def butP (P : List Pw) (a : Int) : List Pw := P.filter fun q => decide (q.1 ≠ a)
def butF (F : List Fw) (s : Nat) : List Fw := F.filter fun f => decide (f.1 ≠ s)
def atF (F : List Fw) (i : Nat) : Fw := (F[i]?).getD (0, 0, 0, false)
def oldF (F : List Fw) : Nat → Option Nat
  | 0 => none
  | i + 1 => bif (atF F i).2.2.2 then oldF F i else match oldF F i with
    | none => some i
    | some m => if (atF F i).2.1 < (atF F m).2.1 then some i else some m
def fdF (F : List Fw) (x : Int) : Option Nat := F.findIdx? fun f => decide ((f.1 : Int) = x)
def ixV (o : Option Nat) : Int := match o with
  | none => -1
  | some i => (i : Int)
def fdE (S : Nat) (F : List Fw) (x : Int) : Int := if ¬ (0 ≤ x ∧ x < S) then 2 else if (fdF F x).isSome = true then 0 else 6
def atK (K : Rk) (n : Int) : Rk := { F := K.F, P := K.P, fr := K.fr, now := n, ev := K.ev }
def clsK (K : Rk) (a : Int) (s : Nat) : Rk := { F := butF K.F s, P := if slF (butF K.F s) a = [] then butP K.P a else K.P, fr := s :: K.fr, now := K.now, ev := K.ev }
def opnK (K : Rk) (a : Int) (s : Nat) (c : Int × Int) (as : Bool) : Rk := { F := K.F ++ [(s, K.ev + 1, a, as)], P := butP K.P a ++ [(a, c.1, c.2)], fr := K.fr.drop 1, now := K.now, ev := K.ev + 1 }
def setK (K : Rk) (a : Int) (c : Int × Int) : Rk := { F := K.F, P := butP K.P a ++ [(a, c.1, c.2)], fr := K.fr, now := K.now, ev := K.ev }
def seeK (K : Rk) (i : Nat) : Rk := { F := K.F.set i ((atF K.F i).1, K.ev + 1, (atF K.F i).2.2.1, (atF K.F i).2.2.2), P := K.P, fr := K.fr, now := K.now, ev := K.ev + 1 }
def assK (K : Rk) (i : Nat) : Rk := { F := K.F.set i ((atF K.F i).1, (atF K.F i).2.1, (atF K.F i).2.2.1, true), P := K.P, fr := K.fr, now := K.now, ev := K.ev }
def Rk0 (S : Nat) : Rk := { F := [], P := [], fr := List.range S, now := 0, ev := 0 }
def tryK (lim : Nat) (t p u : Int) (K : Rk) (n a : Int) : (Int × Int × Int × Bool × Int) × Rk :=
  if n < K.now ∨ 1099511627776 < n then ((0, 0, 0, false, 2), K)
  else if (slF K.F a).length = lim then ((27, 0, 0, false, 0), atK K n)
  else if lvH t p u (hdP K.P a) n < p then ((28, 0, 0, false, 0), atK K n)
  else match K.fr with
    | s :: _ => ((22, (s : Int), 0, false, 0), opnK (atK K n) a s (lvH t p u (hdP K.P a) n - p, n) false)
    | [] => match oldF K.F K.F.length with
      | none => ((29, 0, 0, false, 0), atK K n)
      | some i => ((22, ((atF K.F i).1 : Int), ((atF K.F i).1 : Int), true, 0), opnK (clsK (atK K n) (atF K.F i).2.2.1 (atF K.F i).1) a (atF K.F i).1 (lvH t p u (hdP K.P a) n - p, n) false)
structure KF (S lim : Nat) (t p u : Int) (K : Rk) : Prop where
  rr : RR t p u
  fl : K.F.length ≤ 4096
  pl : K.P.length ≤ 4096
  rl : K.fr.length ≤ 4096
  sz : S ≤ 4096
  lm : lim ≤ 64
  nds : (K.F.map fun f => f.1).Nodup
  lt : ∀ f ∈ K.F, f.1 < S
  ndp : (K.P.map Prod.fst).Nodup
  bok : ∀ q ∈ K.P, RB t p u q.2.1 q.2.2 ∧ q.2.2 ≤ K.now
  now : 0 ≤ K.now ∧ K.now ≤ 1099511627776
  ev : 0 ≤ K.ev ∧ K.ev ≤ 4611686018427387904
section
variable {S lim : Nat} {t p u : Int} {K : Rk} {a b n x : Int} {F : List Fw} {P : List Pw} {i j s : Nat}
theorem atF_eq (hi : i < F.length) : F[i] = atF F i := by unfold atF;rw [List.getElem?_eq_getElem hi];rfl
theorem old_lt : ∀ {i m : Nat}, oldF F i = some m → m < i
  | 0, m, h => by cases h
  | i + 1, m, h => by
    unfold oldF at h;cases hv : (atF F i).2.2.2 with
    | true => rw [hv] at h;have := old_lt (i := i) (m := m) h;omega
    | false =>
      rw [hv] at h;dsimp only [cond_false] at h;cases ho : oldF F i with
      | none => rw [ho] at h;have := Option.some.inj h;omega
      | some q =>
        have hq := old_lt ho;rw [ho] at h;dsimp only at h
        split at h <;> have := Option.some.inj h <;> omega
theorem old_ass (h : (atF F i).2.2.2 = true) : oldF F (i + 1) = oldF F i := by
  conv => lhs;unfold oldF;rw [h]
  rfl
theorem old_first (h : (atF F i).2.2.2 = false) (ho : oldF F i = none) : oldF F (i + 1) = some i := by
  conv => lhs;unfold oldF;rw [h, ho]
  rfl
theorem old_less {m : Nat} (h : (atF F i).2.2.2 = false) (ho : oldF F i = some m) (hl : (atF F i).2.1 < (atF F m).2.1) : oldF F (i + 1) = some i := by
  conv => lhs;unfold oldF;rw [h, ho]
  show (if _ then _ else _) = _;rw [if_pos hl]
theorem old_more {m : Nat} (h : (atF F i).2.2.2 = false) (ho : oldF F i = some m) (hl : ¬ (atF F i).2.1 < (atF F m).2.1) : oldF F (i + 1) = some m := by
  conv => lhs;unfold oldF;rw [h, ho]
  show (if _ then _ else _) = _;rw [if_neg hl]
theorem fil_nextF {α : Type} {L : List α} {Q : α → Bool} (hi : i < L.length) : (L.take (i + 1)).filter Q = if Q L[i] = true then (L.take i).filter Q ++ [L[i]] else (L.take i).filter Q := by
  rw [List.take_succ_eq_append_getElem hi, List.filter_append, List.filter_cons, List.filter_nil]
  split
  · rfl
  · rw [List.append_nil]
theorem slF_next (hi : i < F.length) : slF (F.take (i + 1)) a = if (atF F i).2.2.1 = a then slF (F.take i) a ++ [(atF F i).1] else slF (F.take i) a := by
  unfold slF;rw [fil_nextF hi, atF_eq hi];by_cases e : (atF F i).2.2.1 = a
  · rw [if_pos e, if_pos (decide_eq_true e), List.map_append];rfl
  · rw [if_neg e, if_neg (by simpa using e)]
theorem slF_len : (slF F a).length ≤ F.length := by unfold slF;rw [List.length_map];exact List.length_filter_le _ _
theorem butF_len : (butF F s).length ≤ F.length := List.length_filter_le _ _
theorem butP_len : (butP P a).length ≤ P.length := List.length_filter_le _ _
theorem hdP_none : hdP P a = none ↔ ∀ q ∈ P, q.1 ≠ a := by
  unfold hdP;rw [Option.map_eq_none_iff, List.find?_eq_none];constructor
  · intro h q hq e;exact h q hq (decide_eq_true e)
  · intro h q hq e;exact h q hq (of_decide_eq_true e)
theorem hdP_in {c : Int × Int} (h : hdP P a = some c) : (a, c) ∈ P := by
  unfold hdP at h;obtain ⟨q, hq, e⟩ := Option.map_eq_some_iff.1 h;have h1 := List.mem_of_find?_eq_some hq;have h2 : q.1 = a := of_decide_eq_true (List.find?_some (p := fun q : Pw => decide (q.1 = a)) hq);have : q = (a, c) := Prod.ext h2 e;exact this ▸ h1
theorem hdP_of (hn : (P.map Prod.fst).Nodup) {c : Int × Int} (h : (a, c) ∈ P) : hdP P a = some c := by
  cases hv : hdP P a with
  | none => exact absurd rfl (hdP_none.1 hv _ h)
  | some q =>
    have := nodup_map_inj hn (hdP_in hv) h rfl;rw [Prod.mk.injEq] at this;rw [this.2]
end
section
variable {S lim : Nat} {t p u : Int} {D : Dk} {a n x k : Int} {m : Nat}
def butO (l : List Nat) (s : Nat) : List Nat := l.filter fun t => decide (t ≠ s)
structure OrdI (S : Nat) (D : Dk) (k : Int) (s : Nat) (r : DoR) : Prop where
  any : r.2.1 = true → r.1.1 = 22 → ∃ o : Nat, r.1.2.1 = (o : Int) ∧ r.2.2.ord = butO D.ord o ++ [o]
  ref : r.2.1 = true → r.1.1 ≠ 22 → r.2.2.ord = D.ord
  see : r.2.1 = false → (k % 8 = 4 ∨ k % 8 = 7) → s ∈ D.ord → r.2.2.ord = butO D.ord s ++ [s]
  non : r.2.1 = false → (k % 8 = 4 ∨ k % 8 = 7) → s ∉ D.ord → r.2.2.ord = butO D.ord s
  oth : r.2.1 = false → ¬ (k % 8 = 4 ∨ k % 8 = 7) → r.2.2.ord = butO D.ord s
theorem OrdI.rest {r : DoR} {s : Nat} (h : OrdI S D k s r) (hD : DW S lim D) (hs : s < S) (ht : r.2.1 = false) :
    r.2.2.ord = if (ofO D.T.O (s : Int)).isSome = true ∧ asD S D (s : Int) = false ∧ (k % 8 = 4 ∨ k % 8 = 7) then butO D.ord s ++ [s] else butO D.ord s := by
  by_cases hk : k % 8 = 4 ∨ k % 8 = 7
  · by_cases hi : s ∈ D.ord
    · obtain ⟨b, hb⟩ := hD.ordOf hi
      obtain ⟨h1, h2, h3, _⟩ := clsE_of hD hb;rw [if_pos ⟨by rw [h3];rfl, by unfold asD;rw [Int.toNat_natCast];simp [hi], hk⟩];exact h.see ht hk hi
    · rw [if_neg, h.non ht hk hi]
      rintro ⟨h1, h2, _⟩;unfold asD at h2;rw [Int.toNat_natCast] at h2;have h3 : clsE S D.T (s : Int) = 0 := by unfold clsE;rw [if_neg omQ, if_pos h1]
      rw [decide_eq_true h3, decide_eq_false hi] at h2;cases h2
  · rw [if_neg (fun c => hk c.2.2)]
    exact h.oth ht hk
end
def fls (sn : Nat → Int) (U : List Nat) (O : List (Int × Nat)) : List Fw := O.map fun q => (q.2, sn q.2, q.1, decide (q.2 ∉ U))
structure RelK (S lim : Nat) (t p u : Int) (sn : Nat → Int) (D : Dk) (K : Rk) : Prop where
  f : DKF S lim t p u D
  F : K.F = fls sn D.ord D.T.O
  so : D.ord.Pairwise fun x y => sn x < sn y
  le : ∀ s ∈ D.ord, sn s ≤ K.ev
  ev : 0 ≤ K.ev
  P : ∀ a, hdP K.P a = heldD D a
  nd : (K.P.map Prod.fst).Nodup
  fr : K.fr = D.A.free
  now : K.now = D.now
section
variable {S lim : Nat} {t p u : Int} {D : Dk} {K : Rk} {a b n x : Int} {F : List Fw} {P : List Pw} {i j s : Nat} {sn sn' : Nat → Int} {U U' : List Nat} {O : List (Int × Nat)}
theorem fls_len : (fls sn U O).length = O.length := by unfold fls;rw [List.length_map]
theorem fls_at (hi : i < O.length) : atF (fls sn U O) i = (O[i].2, sn O[i].2, O[i].1, decide (O[i].2 ∉ U)) := by
  unfold atF fls;rw [List.getElem?_map, List.getElem?_eq_getElem hi];rfl
theorem fls_sl : slF (fls sn U O) a = slO O a := by
  unfold slF fls slO;rw [List.filter_map, List.map_map];rfl
theorem fls_but : butF (fls sn U O) s = fls sn U (O.filter fun q => decide (q.2 ≠ s)) := by
  unfold butF fls;rw [List.filter_map];rfl
theorem fls_snoc : fls sn U (O ++ [(a, s)]) = fls sn U O ++ [(s, sn s, a, decide (s ∉ U))] := by
  unfold fls;rw [List.map_append];rfl
theorem fls_congr (h1 : ∀ q ∈ O, sn q.2 = sn' q.2) (h2 : ∀ q ∈ O, (q.2 ∈ U ↔ q.2 ∈ U')) : fls sn U O = fls sn' U' O := by
  unfold fls;refine List.map_congr_left fun q hq => ?_;rw [h1 q hq];have : decide (q.2 ∉ U) = decide (q.2 ∉ U') := by
    by_cases e : q.2 ∈ U
    · have := (h2 q hq).1 e;simp [e, this]
    · have : q.2 ∉ U' := fun e2 => e ((h2 q hq).2 e2)
      simp [e, this]
  rw [this]
theorem fls_fst : (fls sn U O).map (fun f => f.1) = O.map Prod.snd := by unfold fls;rw [List.map_map];rfl
theorem fd_none : fdF (fls sn U O) x = none ↔ ofO O x = none := by
  unfold fdF fls;rw [List.findIdx?_map, List.findIdx?_eq_none_iff, ofO_none];constructor
  · intro h q hq e
    have := h q hq;simp [e] at this
  · intro h q hq
    have := h q hq;simpa using this
theorem fd_some (h : fdF (fls sn U O) x = some i) : ∃ hi : i < O.length, x = (O[i].2 : Int) := by
  unfold fdF fls at h;rw [List.findIdx?_map] at h;obtain ⟨hi, h1, _⟩ := List.findIdx?_eq_some_iff_getElem.1 h;exact ⟨hi, by have := of_decide_eq_true h1;exact this.symm⟩
theorem fd_is : (fdF (fls sn U O) x).isSome = (ofO O x).isSome := by
  cases h : fdF (fls sn U O) x with
  | none => rw [fd_none.1 h];rfl
  | some i =>
    cases h2 : ofO O x with
    | none => rw [fd_none.2 h2] at h;cases h
    | some _ => rfl
theorem fd_of (hn : (O.map Prod.snd).Nodup) (h : fdF (fls sn U O) (s : Int) = some i) : ∃ (a : Int) (hi : i < O.length), O[i] = (a, s) ∧ (a, s) ∈ O ∧ ofO O (s : Int) = some a := by
  obtain ⟨hi, e⟩ := fd_some h;have e2 : O[i].2 = s := omQ;have h1 : O[i] = (O[i].1, s) := Prod.ext rfl e2;have h2 : (O[i].1, s) ∈ O := h1 ▸ List.getElem_mem hi;exact ⟨O[i].1, hi, h1, h2, ofO_of hn h2⟩
theorem fls_get {k : Nat} (hk : k < O.length) (h : k < (fls sn U O).length) : (fls sn U O)[k] = (O[k].2, sn O[k].2, O[k].1, decide (O[k].2 ∉ U)) := by simp [fls]
theorem fls_set (hn : (O.map Prod.snd).Nodup) (hi : i < O.length) {v : Int} {bb : Bool} (e : O[i] = (a, s)) (h1 : ∀ r, r ≠ s → sn' r = sn r) (h2 : ∀ r, r ≠ s → (r ∈ U' ↔ r ∈ U)) (h3 : sn' s = v) (h4 : bb = decide (s ∉ U')) :
    (fls sn U O).set i (s, v, a, bb) = fls sn' U' O := by
  apply List.ext_getElem
  · rw [List.length_set, fls_len, fls_len]
  · intro k hk1 hk2
    rw [fls_len] at hk2;by_cases hki : k = i
    · subst hki
      rw [List.getElem_set_self, fls_get hi, e, h3, h4]
    · rw [List.getElem_set_ne (fun e2 => hki e2.symm), fls_get hk2, fls_get hk2]
      have hne : O[k].2 ≠ s := fun e2 => by
        have h5 : (O.map Prod.snd)[k]'(by rw [List.length_map];exact hk2) = (O.map Prod.snd)[i]'(by rw [List.length_map];exact hi) := by
          rw [List.getElem_map, List.getElem_map, e2, e]
        rcases Nat.lt_or_gt_of_ne hki with h6 | h6
        · exact List.pairwise_iff_getElem.1 hn k i _ _ h6 h5
        · exact List.pairwise_iff_getElem.1 hn i k _ _ h6 h5.symm
      rw [h1 _ hne];have : decide (O[k].2 ∉ U) = decide (O[k].2 ∉ U') := by
        by_cases e3 : O[k].2 ∈ U
        · have := (h2 _ hne).2 e3;simp [e3, this]
        · have : O[k].2 ∉ U' := fun e4 => e3 ((h2 _ hne).1 e4)
          simp [e3, this]
      rw [this]
structure OldI (sn : Nat → Int) (U : List Nat) (O : List (Int × Nat)) (i : Nat) (o : Option Nat) : Prop where
  no : o = none → ∀ j (h : j < O.length), j < i → O[j].2 ∉ U
  is : ∀ m, o = some m → ∃ h : m < O.length, O[m].2 ∈ U ∧ ∀ j (h2 : j < O.length), j < i → O[j].2 ∈ U → sn O[m].2 ≤ sn O[j].2
theorem old_fls : ∀ {i : Nat}, i ≤ O.length → OldI sn U O i (oldF (fls sn U O) i)
  | 0, _ => ⟨fun _ j _ h => omQ, fun m h => by cases h⟩
  | i + 1, hi => by
    have ih := old_fls (i := i) omQ;have hat := fls_at (sn := sn) (U := U) (show i < O.length by omega);by_cases hu : O[i].2 ∈ U
    · have hb : (atF (fls sn U O) i).2.2.2 = false := by rw [hat];simp [hu]
      cases ho : oldF (fls sn U O) i with
      | none =>
        rw [old_first hb ho];refine ⟨fun h => by (first | cases h), fun m h => ?_⟩;obtain rfl : i = m := Option.some.inj h;refine ⟨omQ, hu, fun j h2 hj hju => ?_⟩;by_cases e : j = i
        · subst e;exact Int.le_refl _
        · exact absurd hju (ih.no ho j h2 omQ)
      | some m =>
        obtain ⟨hm, h1, h2⟩ := ih.is m ho;have hatm := fls_at (sn := sn) (U := U) hm;by_cases hl : sn O[i].2 < sn O[m].2
        · rw [old_less hb ho (by rw [hat, hatm];exact hl)]
          refine ⟨fun h => by (first | cases h), fun q h => ?_⟩;obtain rfl : i = q := Option.some.inj h;refine ⟨omQ, hu, fun j h3 hj hju => ?_⟩;by_cases e : j = i
          · subst e;exact Int.le_refl _
          · have := h2 j h3 omQ hju;omega
        · rw [old_more hb ho (by rw [hat, hatm];exact hl)]
          refine ⟨fun h => by (first | cases h), fun q h => ?_⟩;obtain rfl : m = q := Option.some.inj h;refine ⟨hm, h1, fun j h3 hj hju => ?_⟩;by_cases e : j = i
          · subst e;omega
          · exact h2 j h3 omQ hju
    · have hb : (atF (fls sn U O) i).2.2.2 = true := by rw [hat];simp [hu]
      rw [old_ass hb];refine ⟨fun h j h2 hj => ?_, fun m h => ?_⟩
      · by_cases e : j = i
        · subst e;exact hu
        · exact ih.no h j h2 omQ
      · obtain ⟨hm, h1, h2⟩ := ih.is m h
        refine ⟨hm, h1, fun j h3 hj hju => ?_⟩;by_cases e : j = i
        · subst e;exact absurd hju hu
        · exact h2 j h3 omQ hju
theorem old_nil : oldF (fls sn [] O) O.length = none := by
  cases ho : oldF (fls sn [] O) O.length with
  | none => rfl
  | some m =>
    have := old_fls (sn := sn) (U := []) (O := O) (Nat.le_refl _);rw [ho] at this;obtain ⟨hm, h1, _⟩ := this.is m rfl;simp at h1
theorem old_cons {v : Nat} {vs : List Nat} (hin : ∀ s ∈ v :: vs, ∃ q ∈ O, q.2 = s) (hs : (v :: vs).Pairwise fun x y => sn x < sn y) :
    ∃ (m : Nat) (hm : m < O.length), oldF (fls sn (v :: vs) O) O.length = some m ∧ O[m].2 = v := by
  have h := old_fls (sn := sn) (U := v :: vs) (O := O) (Nat.le_refl _);obtain ⟨q, hq, e⟩ := hin v List.mem_cons_self;obtain ⟨j, hj, e2⟩ := List.getElem_of_mem hq;have hjv : O[j].2 = v := by rw [e2, e]
  cases ho : oldF (fls sn (v :: vs) O) O.length with
  | none =>
    rw [ho] at h;exact absurd (by rw [hjv];exact List.mem_cons_self) (h.no rfl j hj hj)
  | some m =>
    rw [ho] at h;obtain ⟨hm, h1, h2⟩ := h.is m rfl;refine ⟨m, hm, rfl, ?_⟩;have h3 := h2 j hj hj (by rw [hjv];exact List.mem_cons_self);rw [hjv] at h3;rcases List.mem_cons.1 h1 with h4 | h4
    · exact h4
    · have := (List.pairwise_cons.1 hs).1 _ h4
      omega
theorem hdP_put {c : Int × Int} : hdP (butP P a ++ [(a, c.1, c.2)]) b = if b = a then some c else hdP P b := by
  unfold hdP butP;rw [List.find?_append, List.find?_filter, List.find?_cons, List.find?_nil];by_cases e : b = a
  · subst e
    rw [if_pos rfl];have : (P.find? fun q => decide (decide (q.1 ≠ b) = true ∧ decide (q.1 = b) = true)) = none := by
      rw [List.find?_eq_none];intro q _ h;have := of_decide_eq_true h;simp at this
    rw [this];simp
  · rw [if_neg e, decide_eq_false (show ¬ ((a, c.1, c.2) : Pw).1 = b from fun e2 => e e2.symm)]
    have : (fun q : Pw => decide (decide (q.1 ≠ a) = true ∧ decide (q.1 = b) = true)) = fun q : Pw => decide (q.1 = b) := by
      funext q;by_cases e2 : q.1 = b
      · simp [e2, e]
      · simp [e2]
    rw [this];simp
theorem hdP_but : hdP (butP P a) b = if b = a then none else hdP P b := by
  unfold hdP butP;rw [List.find?_filter];by_cases e : b = a
  · subst e
    rw [if_pos rfl];have : (P.find? fun q => decide (decide (q.1 ≠ b) = true ∧ decide (q.1 = b) = true)) = none := by
      rw [List.find?_eq_none];intro q _ h;have := of_decide_eq_true h;simp at this
    rw [this];rfl
  · rw [if_neg e]
    have : (fun q : Pw => decide (decide (q.1 ≠ a) = true ∧ decide (q.1 = b) = true)) = fun q : Pw => decide (q.1 = b) := by
      funext q;by_cases e2 : q.1 = b
      · simp [e2, e]
      · simp [e2]
    rw [this]
theorem butP_nd (h : (P.map Prod.fst).Nodup) : ((butP P a).map Prod.fst).Nodup := h.sublist (List.filter_sublist.map _)
theorem putP_nd (h : (P.map Prod.fst).Nodup) {c : Int × Int} : ((butP P a ++ [(a, c.1, c.2)]).map Prod.fst).Nodup := by
  rw [List.map_append, List.nodup_append];refine ⟨butP_nd h, by simp, fun y hy z hz e => ?_⟩;simp only [List.map_cons, List.map_nil, List.mem_singleton] at hz;obtain ⟨q, hq, e2⟩ := List.mem_map.1 hy;have : q.1 ≠ a := of_decide_eq_true (List.mem_filter.1 hq).2;exact this (e2.trans (e.trans hz))
theorem RelK.inO (h : RelK S lim t p u sn D K) : ∀ s ∈ D.ord, ∃ q ∈ D.T.O, q.2 = s := h.f.w.oin
theorem RelK.kf (h : RelK S lim t p u sn D K) (hS : S ≤ 4096) (he : K.ev ≤ 4611686018427387904) : KF S lim t p u K := by
  have hl := h.f.w.sf.rlen;have ho := h.f.w.olen;refine ⟨h.f.rr, by rw [h.F, fls_len];omega, ?_, ?_, hS, h.f.l1.2, ?_, fun f hf => ?_, h.nd, fun q hq => ?_, by rw [h.now];exact h.f.w.now, h.ev, he⟩
  · have h1 := nodup_le2 (l1 := K.P.map Prod.fst) (l2 := D.T.R.map Prod.fst) h.nd fun y hy => by
      obtain ⟨q, hq, e⟩ := List.mem_map.1 hy;have h2 := hdP_of h.nd (a := q.1) (c := q.2) hq;rw [h.P] at h2;unfold heldD at h2;cases hv : rcR D.T.R q.1 with
      | none => rw [hv] at h2;cases h2
      | some r => exact List.mem_map.2 ⟨_, rcR_in hv, e⟩
    rw [List.length_map, List.length_map] at h1;omega
  · rw [h.fr]
    have := nodup_len (n := S) h.f.w.ok.nodup fun r hr => (h.f.w.free hr).1;omega
  · rw [h.F, fls_fst];exact h.f.w.sf.nds
  · rw [h.F] at hf
    unfold fls at hf;obtain ⟨q, hq, rfl⟩ := List.mem_map.1 hf;exact h.f.w.sf.lt q hq
  · have h2 := hdP_of h.nd (a := q.1) (c := q.2) hq
    rw [h.P] at h2;cases hv : rcR D.T.R q.1 with
    | none => rw [held_none hv] at h2;cases h2
    | some r =>
      obtain ⟨c, h3, h4, h5⟩ := h.f.bok _ (rcR_in hv);rw [held_some hv h3] at h2;obtain rfl : c = q.2 := Option.some.inj h2;rw [h.now];exact ⟨h4, h5⟩
theorem RelK.sl (h : RelK S lim t p u sn D K) : slF K.F a = slO D.T.O a := by rw [h.F, fls_sl]
theorem RelK.lv (h : RelK S lim t p u sn D K) : lvH t p u (hdP K.P a) n = bkD t p u D.T D.B a n := by rw [h.P, bk_held]
theorem RelK.to (h : RelK S lim t p u sn D K) (hn : D.now ≤ n ∧ n ≤ 1099511627776) : RelK S lim t p u sn (atD D n) (atK K n) :=
  ⟨h.f.to hn, h.F, h.so, h.le, h.ev, h.P, h.nd, h.fr, rfl⟩
theorem RelK.opn (h : RelK S lim t p u sn D K) {fs : List Nat} {c : Int × Int} {as : Bool} (ha : 0 ≤ a ∧ a ≤ 4294967295) (e : D.A.free = s :: fs) (hl : (slO D.T.O a).length < lim) (hc : RB t p u c.1 c.2) (hn : c.2 ≤ D.now) :
    RelK S lim t p u (upd sn s (K.ev + 1)) (putB (bif as then assD (opnD D a s) s else opnD D a s) a c) (opnK K a s c as) := by
  obtain ⟨h1, h2, h3⟩ := h.f.w.free (s := s) (by rw [e];exact List.mem_cons_self);have hO := h.f.w.sf.addO_O (a := a) h1 h2;have hP : ∀ b, heldD (putB (bif as then assD (opnD D a s) s else opnD D a s) a c) b = if b = a then some c else heldD D b := fun b => by
    have := held_put (b := b) (c := c) h.f.w ha e hl;cases as
    · exact this
    · exact this
  have hf : DKF S lim t p u (putB (bif as then assD (opnD D a s) s else opnD D a s) a c) := by
    have h4 := h.f.put ha e hl hc hn;cases as
    · exact h4
    · exact h4.ass (s := s)
  have hT : (putB (bif as then assD (opnD D a s) s else opnD D a s) a c).T.O = D.T.O ++ [(a, s)] := by cases as <;> exact hO
  have hord : (putB (bif as then assD (opnD D a s) s else opnD D a s) a c).ord = if as = true then D.ord else D.ord ++ [s] := by
    cases as
    · rfl
    · show (D.ord ++ [s]).erase s = _
      rw [if_pos rfl, List.erase_append_right _ h3];simp
  have hne : ∀ q ∈ D.T.O, q.2 ≠ s := fun q hq e2 => ofO_none.1 h2 q hq omQ;have hsn : ∀ x ∈ D.ord, upd sn s (K.ev + 1) x = sn x := fun x hx => upd_ne fun e2 => h3 (e2 ▸ hx);refine ⟨hf, ?_, ?_, ?_, by show 0 ≤ K.ev + 1;have := h.ev;omega, fun b => ?_, putP_nd h.nd, ?_, ?_⟩
  · rw [hT, hord, fls_snoc]
    show K.F ++ [(s, K.ev + 1, a, as)] = _;rw [h.F, upd_eq];congr 1
    · refine fls_congr (fun q hq => (upd_ne (hne q hq)).symm) fun q hq => ?_
      cases as
      · rw [if_neg dcQ, List.mem_append]
        exact ⟨.inl, fun h5 => h5.elim id fun h6 => absurd (List.mem_singleton.1 h6) (hne q hq)⟩
      · rw [if_pos rfl]
    · cases as
      · simp
      · simp [h3]
  · rw [hord]
    have h5 : D.ord.Pairwise fun x y => upd sn s (K.ev + 1) x < upd sn s (K.ev + 1) y := h.so.imp_of_mem fun {x y} hx hy hxy => by rw [hsn x hx, hsn y hy];exact hxy
    cases as
    · rw [if_neg dcQ, List.pairwise_append]
      refine ⟨h5, by simp, fun x hx y hy => ?_⟩;obtain rfl := List.mem_singleton.1 hy;rw [hsn x hx, upd_eq];have := h.le x hx;omega
    · rw [if_pos rfl];exact h5
  · rw [hord]
    show ∀ x ∈ _, upd sn s (K.ev + 1) x ≤ K.ev + 1;intro x hx;by_cases e2 : x = s
    · rw [e2, upd_eq];exact Int.le_refl _
    · rw [upd_ne e2]
      have hx2 : x ∈ D.ord := by
        cases as
        · rw [if_neg dcQ] at hx
          exact (List.mem_append.1 hx).elim id fun h6 => absurd (List.mem_singleton.1 h6) e2
        · rwa [if_pos rfl] at hx
      have := h.le x hx2;omega
  · rw [hP]
    show hdP (butP K.P a ++ [(a, c.1, c.2)]) b = _;rw [hdP_put, h.P]
  · show K.fr.drop 1 = _
    have : (putB (bif as then assD (opnD D a s) s else opnD D a s) a c).A = D.A.take := by cases as <;> rfl
    rw [this, h.fr, e];simp [Ar.take, e]
  · show K.now = _
    rw [h.now];cases as <;> rfl
theorem RelK.cls (h : RelK S lim t p u sn D K) (hm : (a, s) ∈ D.T.O) : RelK S lim t p u sn (clsD D a s) (clsK K a s) := by
  have hO : (clsD D a s).T.O = D.T.O.filter fun q => decide (q.2 ≠ s) := remO_O;have hb : butF K.F s = fls sn (D.ord.erase s) (D.T.O.filter fun q => decide (q.2 ≠ s)) := by
    rw [h.F, fls_but];refine fls_congr (fun _ _ => rfl) fun q hq => ?_;have hne : q.2 ≠ s := of_decide_eq_true (List.mem_filter.1 hq).2;rw [h.f.w.ond.mem_erase_iff];exact ⟨fun h5 => ⟨hne, h5⟩, fun h5 => h5.2⟩
  have hsl : slF (butF K.F s) a = slO (clsD D a s).T.O a := by rw [hb, fls_sl, hO]
  refine ⟨h.f.cls hm, ?_, h.so.sublist List.erase_sublist, fun x hx => h.le x (List.mem_of_mem_erase hx), h.ev, fun b => ?_, ?_, ?_, h.now⟩
  · rw [hO];exact hb
  · rw [held_cls h.f.w hm]
    show hdP (if slF (butF K.F s) a = [] then butP K.P a else K.P) b = _;rw [hsl];by_cases he : slO (clsD D a s).T.O a = []
    · rw [if_pos he, hdP_but, h.P]
      by_cases e : b = a
      · rw [if_pos e, if_pos ⟨e, he⟩]
      · rw [if_neg e, if_neg (fun c => e c.1)]
    · rw [if_neg he, if_neg (fun c => he c.2), h.P]
  · show ((if slF (butF K.F s) a = [] then butP K.P a else K.P).map Prod.fst).Nodup
    split
    · exact butP_nd h.nd
    · exact h.nd
  · show s :: K.fr = s :: D.A.free
    rw [h.fr]
theorem RelK.seeIn (h : RelK S lim t p u sn D K) (hi : i < D.T.O.length) (e : D.T.O[i] = (a, s)) (hs : s ∈ D.ord) : RelK S lim t p u (upd sn s (K.ev + 1)) (seeD D s) (seeK K i) := by
  have hm : (a, s) ∈ D.T.O := e ▸ List.getElem_mem hi;have hsn : ∀ x ∈ D.ord.erase s, upd sn s (K.ev + 1) x = sn x := fun x hx => upd_ne (h.f.w.ond.mem_erase_iff.1 hx).1;refine ⟨h.f.see hm, ?_, ?_, ?_, by show 0 ≤ K.ev + 1;have := h.ev;omega, h.P, h.nd, h.fr, h.now⟩
  · show K.F.set i ((atF K.F i).1, K.ev + 1, (atF K.F i).2.2.1, (atF K.F i).2.2.2) = fls _ (D.ord.erase s ++ [s]) D.T.O
    rw [h.F, fls_at hi, e];refine fls_set h.f.w.sf.nds hi e (fun r hr => upd_ne hr) (fun r hr => ?_) upd_eq (by simp [hs]);rw [List.mem_append, h.f.w.ond.mem_erase_iff];exact ⟨fun h5 => h5.elim (fun h6 => h6.2) fun h6 => absurd (List.mem_singleton.1 h6) hr, fun h5 => .inl ⟨hr, h5⟩⟩
  · show (D.ord.erase s ++ [s]).Pairwise _
    rw [List.pairwise_append];refine ⟨(h.so.sublist List.erase_sublist).imp_of_mem fun {x y} hx hy hxy => by rw [hsn x hx, hsn y hy];exact hxy, by simp, fun x hx y hy => ?_⟩;obtain rfl := List.mem_singleton.1 hy;rw [hsn x hx, upd_eq];have := h.le x (List.mem_of_mem_erase hx);omega
  · show ∀ x ∈ D.ord.erase s ++ [s], upd sn s (K.ev + 1) x ≤ K.ev + 1
    intro x hx;rcases List.mem_append.1 hx with hx | hx
    · rw [hsn x hx]
      have := h.le x (List.mem_of_mem_erase hx);omega
    · rw [List.mem_singleton.1 hx, upd_eq];exact Int.le_refl _
theorem RelK.seeNot (h : RelK S lim t p u sn D K) (hi : i < D.T.O.length) (e : D.T.O[i] = (a, s)) (hs : s ∉ D.ord) : RelK S lim t p u (upd sn s (K.ev + 1)) D (seeK K i) := by
  have hsn : ∀ x ∈ D.ord, upd sn s (K.ev + 1) x = sn x := fun x hx => upd_ne fun e2 => hs (e2 ▸ hx);refine ⟨h.f, ?_, h.so.imp_of_mem fun {x y} hx hy hxy => by rw [hsn x hx, hsn y hy];exact hxy, fun x hx => by show _ ≤ K.ev + 1;rw [hsn x hx];have := h.le x hx;omega, by show 0 ≤ K.ev + 1;have := h.ev;omega, h.P, h.nd, h.fr, h.now⟩;show K.F.set i ((atF K.F i).1, K.ev + 1, (atF K.F i).2.2.1, (atF K.F i).2.2.2) = fls _ D.ord D.T.O;rw [h.F, fls_at hi, e];exact fls_set h.f.w.sf.nds hi e (fun r hr => upd_ne hr) (fun r hr => Iff.rfl) upd_eq rfl
theorem RelK.ass (h : RelK S lim t p u sn D K) (hi : i < D.T.O.length) (e : D.T.O[i] = (a, s)) : RelK S lim t p u sn (assD D s) (assK K i) := by
  refine ⟨h.f.ass, ?_, h.so.sublist List.erase_sublist, fun x hx => h.le x (List.mem_of_mem_erase hx), h.ev, h.P, h.nd, h.fr, h.now⟩;show K.F.set i ((atF K.F i).1, (atF K.F i).2.1, (atF K.F i).2.2.1, true) = fls sn (D.ord.erase s) D.T.O;rw [h.F, fls_at hi, e];refine fls_set h.f.w.sf.nds hi e (fun _ _ => rfl) (fun r hr => ?_) rfl ?_
  · rw [h.f.w.ond.mem_erase_iff]
    exact ⟨fun h5 => h5.2, fun h5 => ⟨hr, h5⟩⟩
  · have : s ∉ D.ord.erase s := fun h5 => (h.f.w.ond.mem_erase_iff.1 h5).1 rfl
    simp [this]
theorem RelK.set (h : RelK S lim t p u sn D K) {q : Nat} {c : Int × Int} (hr : rcR D.T.R a = some q) (hc : RB t p u c.1 c.2) (hn : c.2 ≤ D.now) : RelK S lim t p u sn (setB D q c) (setK K a c) := by
  refine ⟨h.f.set hr hc hn, h.F, h.so, h.le, h.ev, fun b => ?_, putP_nd h.nd, h.fr, h.now⟩;rw [held_set h.f.w hr];show hdP (butP K.P a ++ [(a, c.1, c.2)]) b = _;rw [hdP_put, h.P]
theorem RelK.new (h1 : 1 ≤ S) (h2 : S ≤ 4096) (hr : RR t p u) (hl : 1 ≤ lim ∧ lim ≤ 64) : RelK S lim t p u (fun _ => 0) (D0 S) { F := [], P := [], fr := List.range S, now := 0, ev := 0 } :=
  ⟨(MD.new h1 h2 hr hl).f, rfl, by simp [D0], by simp [D0], Int.le_refl _, fun a => by rw [held_none (rcR_none.2 (by simp [D0]))];rfl, by simp, rfl, rfl⟩
theorem RelK.try (h : RelK S lim t p u sn D K) (ha : 0 ≤ a ∧ a ≤ 4294967295) : (tryK lim t p u K n a).1 = (tryD lim t p u D n a).1 ∧ ∃ sn', RelK S lim t p u sn' (tryD lim t p u D n a).2 (tryK lim t p u K n a).2 := by
  have hll := h.f.w.sf.lim a;unfold tryK tryD;rw [h.now, h.sl, h.lv, h.fr];by_cases h1 : n < D.now ∨ 1099511627776 < n
  · rw [if_pos h1, if_pos h1];exact ⟨rfl, sn, h⟩
  have hn : D.now ≤ n ∧ n ≤ 1099511627776 := omQ;have ht := h.to hn;have hB := h.f.bk (a := a) hn;rw [if_neg h1, if_neg h1];by_cases h2 : lim ≤ (slO D.T.O a).length
  · rw [if_pos h2, if_pos omQ];exact ⟨rfl, sn, ht⟩
  rw [if_neg h2, if_neg omQ];by_cases h3 : bkD t p u D.T D.B a n < p
  · rw [if_pos h3, if_pos h3];exact ⟨rfl, sn, ht⟩
  rw [if_neg h3, if_neg h3];have hB2 := hB.less h3;cases hf : D.A.free with
  | cons s fs => exact ⟨rfl, _, ht.opn (as := false) ha hf (by show (slO D.T.O a).length < lim;omega) hB2 (Int.le_refl _)⟩
  | nil =>
    dsimp only;cases ho : D.ord with
    | nil =>
      have : oldF K.F K.F.length = none := by rw [h.F, fls_len, ho];exact old_nil
      rw [this];exact ⟨rfl, sn, ht⟩
    | cons v vs =>
      obtain ⟨m, hm, h4, h5⟩ := old_cons (O := D.T.O) (sn := sn) (v := v) (vs := vs) (by rw [← ho];exact h.inO) (by rw [← ho];exact h.so);have h6 : oldF K.F K.F.length = some m := by rw [h.F, fls_len, ho];exact h4
      have h7 : D.T.O[m] = (D.T.O[m].1, v) := Prod.ext rfl h5;have h8 : (D.T.O[m].1, v) ∈ D.T.O := h7 ▸ List.getElem_mem hm;have h9 : atF K.F m = (v, sn v, D.T.O[m].1, decide (v ∉ D.ord)) := by rw [h.F, fls_at hm, h5]
      rw [h6];dsimp only;rw [h9, ofO_of h.f.w.sf.nds h8];have hc := ht.cls (a := D.T.O[m].1) (s := v) h8;refine ⟨rfl, _, hc.opn (as := false) (fs := D.A.free) ha rfl ?_ hB2 (Int.le_refl _)⟩;have := slO_rem (T := D.T) (a := a) (b := D.T.O[m].1) (s := v);show (slO (remO D.T D.T.O[m].1 v).O a).length < lim;omega
end
section
variable {P : Program} {Q : Exit → Act → World → Prop} {n : Nat} {a : Act} {S : Slots} {l l' : List HP} {w : World} {t : TypeId} {pos : String} {af : Array Edge} {g : Option (Nat × Bool)} {K : Act → World → Prop}
variable {r : Option Addr} {m cap : Nat} {sz : Nat} {cs : List Value}
theorem run_clear {ty e : TypeId} {ik : IntKind} {z : TypeInfo} (hu : P.underlying ty = some (.slice e)) (hi : P.info? e = some z) (hz : z.zero = some (.int ik 0)) (p : Pk (Sx.sls r m cap e 1 cs) l l') (hR : Sep l w) :
    ∃ w', (Builtin.clear_ [ty].toArray t [.slice r m cap].toArray).run P w = .ok (.tuple #[]) w' ∧ Sep l' w' := by
  have hzero : ∀ w, (zeroValue e).run P w = .ok (.int ik 0) w := fun w => by simp [zeroValue, typeInfo, hi, hz]
  rcases (hR.pk p).slsE with ⟨h1, h2, h3, _, h5⟩ | ⟨b, rest, h1, h2, h3, h4, h5⟩
  · subst h1 h2 h3
    exact ⟨w, by simp [Builtin.clear_, run_underlying hu], h5⟩
  · subst h1
    cases m with
    | zero => exact ⟨w, by simp [Builtin.clear_, run_underlying hu], h5.drop⟩
    | succ k =>
      have hc : (Value.int ik 0).cells = #[.int ik 0] := rfl;obtain ⟨vs, hvs⟩ : ∃ vs, (Builtin.zeroCells (Value.int ik 0).cells (k + 1)).toList = vs := ⟨_, rfl⟩;have hone : ∀ v ∈ vs, v.oneCell' = true := by
        intro v hv;rw [← hvs, hc] at hv;simp only [Builtin.zeroCells, Array.toList_map, List.mem_map] at hv;obtain ⟨i, _, rfl⟩ := hv;have : i % (#[Value.int ik 0] : Array Value).size = 0 := by simp [Nat.mod_one]
        rw [this];rfl
      have hlen : vs.length = k + 1 := by
        rw [← hvs, hc];simp [Builtin.zeroCells]
      obtain ⟨w', hr, hs⟩ := run_storeCells (P := P) vs 0 (cs ++ rest) 0 w h5 hone (by simp only [List.length_append];omega);exact ⟨w', by simp [Builtin.clear_, run_underlying hu, hzero, hvs, hr], hs.drop⟩
theorem Bclear0 {ty e : TypeId} {x : Operand} {ik : IntKind} {z : TypeInfo} (hS : Has n a S) (hR : Sep l w) (hx : ev S x = some (.slice r m cap)) (hu : P.underlying ty = some (.slice e)) (hi : P.info? e = some z) (hz : z.zero = some (.int ik 0))
    (p : Pk (Sx.sls r m cap e 1 cs) l l') (k : ∀ w', Sep l' w' → K a w') :
    Oper.wp P ⟨none, .call { callee := .builtin .clear, args := [x].toArray, argTypes := [ty].toArray }, t, pos, af, g⟩ a w K Q := by
  obtain ⟨w', hr, hs⟩ := run_clear (t := t) hu hi hz p hR;have hr' : (execOp a.eval ⟨none, .call { callee := .builtin .clear, args := [x].toArray, argTypes := [ty].toArray }, t, pos, af, g⟩).run P w = .ok (.value (.tuple #[])) w' := by
    simp only [execOp, resolve, List.map_toArray, List.map_cons, List.map_nil, hS.ev hx, Sem.run_bind, Sem.run_pure, Result.andThen_ok, invoke, builtin, hr]
  unfold Oper.wp;rw [hr'];exact k w' hs
end
theorem fil_next {α : Type} {L : List α} {P : α → Bool} {i : Nat} (hi : i < L.length) : (L.take (i + 1)).filter P = if P L[i] = true then (L.take i).filter P ++ [L[i]] else (L.take i).filter P := by
  rw [List.take_succ_eq_append_getElem hi, List.filter_append, List.filter_cons, List.filter_nil]
  split
  · rfl
  · rw [List.append_nil]
theorem Rds.mono {l l' : List HP} {b i : Nat} {vs : List Value} (h : Rds l b i vs) (e : Ex l' l) : Rds l' b i vs := fun w hw => h w (hw.sub e)
def butZ (xs : List Int) (z : Int) : List Int := xs.filter fun x => decide (x ≠ z)
structure DelI (xs : List Int) (z : Int) (i j : Nat) (ys : List Int) : Prop where
  len : ys.length = xs.length
  lt : i < j
  le : j ≤ xs.length
  tk : ys.take i = butZ (xs.take j) z
  dr : ys.drop j = xs.drop j
section
variable {xs ys : List Int} {z : Int} {i j k : Nat}
theorem butZ_self (h : ∀ x ∈ xs, x ≠ z) : butZ xs z = xs := List.filter_eq_self.2 fun x hx => decide_eq_true (h x hx)
theorem butZ_next (hk : k < xs.length) : butZ (xs.take (k + 1)) z = if xs[k] = z then butZ (xs.take k) z else butZ (xs.take k) z ++ [xs[k]] := by
  unfold butZ;rw [fil_next hk];by_cases e : xs[k] = z
  · rw [if_pos e, if_neg (by simpa using e)]
  · rw [if_neg e, if_pos (by simpa using e)]
theorem DelI.start (hk : k < xs.length) (e : xs[k] = z) (hn : ∀ x ∈ xs.take k, x ≠ z) : DelI xs z k (k + 1) xs :=
  ⟨rfl, omQ, omQ, by rw [butZ_next hk, if_pos e, butZ_self hn], rfl⟩
theorem DelI.at (h : DelI xs z i j ys) (hj : j < xs.length) : ys[j]'(by rw [h.len];exact hj) = xs[j] := by
  have h1 := congrArg (fun l => l[0]?) h.dr;simp only [List.getElem?_drop, Nat.add_zero] at h1;rw [List.getElem?_eq_getElem (by rw [h.len];exact hj), List.getElem?_eq_getElem hj] at h1;exact Option.some.inj h1
theorem DelI.skip (h : DelI xs z i j ys) (hj : j < xs.length) (e : xs[j] = z) : DelI xs z i (j + 1) ys :=
  ⟨h.len, by have := h.lt;omega, omQ, by rw [butZ_next hj, if_pos e];exact h.tk, by rw [← List.drop_drop, ← List.drop_drop, h.dr]⟩
theorem DelI.keep (h : DelI xs z i j ys) (hj : j < xs.length) (e : ¬ xs[j] = z) : DelI xs z (i + 1) (j + 1) (ys.set i xs[j]) := by
  have h1 := h.lt;have h2 := h.len;refine ⟨by rw [List.length_set];exact h.len, omQ, omQ, ?_, ?_⟩
  · rw [butZ_next hj, if_neg e, ← h.tk, List.take_succ_eq_append_getElem (by rw [List.length_set];omega), List.getElem_set_self, List.take_set_of_le (Nat.le_refl _)]
  · rw [List.drop_set_of_lt omQ, ← List.drop_drop, ← List.drop_drop, h.dr]
theorem DelI.done (h : DelI xs z i j ys) (hj : xs.length ≤ j) : ys.take i = butZ xs z ∧ i = (butZ xs z).length ∧ i ≤ ys.length := by
  have h1 := h.tk;rw [List.take_of_length_le hj] at h1;have h2 := h.lt;have h3 := h.le;have h4 := h.len;refine ⟨h1, ?_, omQ⟩;rw [← h1, List.length_take];omega
end
abbrev eFw (f : Fw) : List Value := [.int .i64 (f.1 : Int), .int .i64 f.2.1, .int .u32 f.2.2.1, .bool f.2.2.2]
abbrev ePw (q : Pw) : List Value := [.int .u32 q.1, .int .i64 q.2.1, .int .i64 q.2.2]
structure QK where
  r1 : Option Addr
  c1 : Nat
  r2 : Option Addr
  c2 : Nat
  r3 : Option Addr
  c3 : Nat
structure TK where
  F : TypeId
  P : TypeId
  I : TypeId
def refK (t : TK) (q : QK) (K : Rk) : HP := stars [sls q.r1 K.F.length q.c1 t.F 4 (K.F.flatMap eFw), sls q.r2 K.P.length q.c2 t.P 3 (K.P.flatMap ePw), sls q.r3 (cst K.fr).length q.c3 t.I 1 ((cst K.fr).flatMap e1)]
abbrev refKV (S lim : Nat) (x : Int × Int × Int) (q : QK) (K : Rk) : Value := .agg [.int .i64 (S : Int), .int .i64 (lim : Int), .int .i64 K.now, .int .i64 K.ev, .int .i64 x.1, .int .i64 x.2.1, .int .i64 x.2.2, .slice q.r1 K.F.length q.c1, .slice q.r2 K.P.length q.c2, .slice q.r3 (cst K.fr).length q.c3].toArray
theorem Sep.refKE {t : TK} {q : QK} {K : Rk} {l : List HP} {w : World} (h : Sep (refK t q K :: l) w) : Sep (sls q.r1 K.F.length q.c1 t.F 4 (K.F.flatMap eFw) :: sls q.r2 K.P.length q.c2 t.P 3 (K.P.flatMap ePw) :: sls q.r3 (cst K.fr).length q.c3 t.I 1 ((cst K.fr).flatMap e1) :: l) w := h.unpack
theorem Sep.refKI {t : TK} {F : List Fw} {P : List Pw} {fr : List Nat} {now ev : Int} {n1 n2 n3 : Nat} {r1 r2 r3 : Option Addr} {c1 c2 c3 : Nat} {l : List HP} {w : World} (h1 : n1 = F.length) (h2 : n2 = P.length) (h3 : n3 = (cst fr).length)
    (h : Sep (sls r1 n1 c1 t.F 4 (F.flatMap eFw) :: sls r2 n2 c2 t.P 3 (P.flatMap ePw) :: sls r3 n3 c3 t.I 1 ((cst fr).flatMap e1) :: l) w) : Sep (refK t ⟨r1, c1, r2, c2, r3, c3⟩ { F := F, P := P, fr := fr, now := now, ev := ev } :: l) w := by
  subst h1 h2 h3;exact Sep.packL [_, _, _] h
section
variable {S lim : Nat} {t p u : Int} {K : Rk} {a b n x : Int} {F : List Fw} {P : List Pw} {i j s : Nat} {c : Int × Int}
theorem noF_next {α : Type} {R : List α} {Q : α → Prop} (hi : i < R.length) (h : ∀ f ∈ R.take i, Q f) (e : Q R[i]) : ∀ f ∈ R.take (i + 1), Q f := by
  intro f hf;rw [List.take_succ_eq_append_getElem hi] at hf;rcases List.mem_append.1 hf with hf | hf
  · exact h f hf
  · simp only [List.mem_singleton] at hf;subst hf;exact e
theorem noF_all {α : Type} {R : List α} {Q : α → Prop} (hi : R.length ≤ i) (h : ∀ f ∈ R.take i, Q f) : ∀ f ∈ R, Q f := by
  rwa [List.take_of_length_le hi] at h
theorem fdF_at (hi : i < F.length) (e : ((F[i]).1 : Int) = x) (hn : ∀ f ∈ F.take i, (f.1 : Int) ≠ x) : fdF F x = some i := by
  unfold fdF;rw [List.findIdx?_eq_some_iff_getElem];refine ⟨hi, decide_eq_true e, fun j hj => ?_⟩;have := hn (F[j]'omQ) (List.mem_take_iff_getElem.2 ⟨j, omQ, rfl⟩)
  simpa using this
theorem fdF_no (hn : ∀ f ∈ F, (f.1 : Int) ≠ x) : fdF F x = none := by
  unfold fdF;rw [List.findIdx?_eq_none_iff];intro f hf;have := hn f hf;simpa using this
theorem fdE_bad (hx : ¬ (0 ≤ x ∧ x < S)) : fdE S F x = 2 := if_pos hx
theorem fdF_bad (hl : ∀ f ∈ F, f.1 < S) (hx : ¬ (0 ≤ x ∧ x < S)) : fdF F x = none := fdF_no fun f hf e => by
  have := hl f hf;omega
theorem fdE_some (hx : 0 ≤ x ∧ x < S) (h : fdF F x = some i) : fdE S F x = 0 := by unfold fdE;rw [if_neg (fun c => c hx), h];rfl
theorem fdE_none (hx : 0 ≤ x ∧ x < S) (h : fdF F x = none) : fdE S F x = 6 := by unfold fdE;rw [if_neg (fun c => c hx), h];rfl
theorem fdF_in (h : fdF F x = some i) : ∃ hi : i < F.length, ((F[i]).1 : Int) = x := by
  unfold fdF at h;obtain ⟨hi, h1, _⟩ := List.findIdx?_eq_some_iff_getElem.1 h;exact ⟨hi, of_decide_eq_true h1⟩
theorem fdE_zero (hl : ∀ f ∈ F, f.1 < S) (h : fdF F x = some i) : fdE S F x = 0 := by
  obtain ⟨hi, e⟩ := fdF_in h;have := hl _ (List.getElem_mem hi);exact fdE_some ⟨omQ, omQ⟩ h
theorem fdE_not (h : fdF F x = none) : ¬ fdE S F x = 0 := by
  unfold fdE
  split
  · decide
  · rw [h];decide
theorem hdP_next (hi : i < P.length) : hdP (P.take (i + 1)) a = (hdP (P.take i) a).or (if P[i].1 = a then some P[i].2 else none) := by
  unfold hdP;rw [List.take_succ_eq_append_getElem hi, List.find?_append, List.find?_cons, List.find?_nil];by_cases e : P[i].1 = a
  · rw [if_pos e, decide_eq_true e]
    cases (P.take i).find? (fun q => decide (q.1 = a)) <;> rfl
  · rw [if_neg e, decide_eq_false e]
    cases (P.take i).find? (fun q => decide (q.1 = a)) <;> rfl
theorem hdP_skip (hi : i < P.length) (e : ¬ P[i].1 = a) : hdP (P.take (i + 1)) a = hdP (P.take i) a := by rw [hdP_next hi, if_neg e, Option.or_none]
theorem hdP_yes (hd : (P.map Prod.fst).Nodup) (hi : i < P.length) (e : P[i].1 = a) : hdP (P.take (i + 1)) a = some P[i].2 := by
  rw [hdP_next hi, if_pos e];have : hdP (P.take i) a = none := by
    rw [hdP_none];intro q hq e2;obtain ⟨j, hj, e3⟩ := List.mem_take_iff_getElem.1 hq;have h1 : (P.map Prod.fst)[j]'(by rw [List.length_map];omega) = (P.map Prod.fst)[i]'(by rw [List.length_map];exact hi) := by
      rw [List.getElem_map, List.getElem_map, e3, e, e2]
    exact List.pairwise_iff_getElem.1 hd j i _ _ omQ h1
  rw [this];rfl
theorem hdP_at (hi : i < P.length) (e : P[i].1 = a) (hn : ∀ q ∈ P.take i, q.1 ≠ a) : hdP P a = some P[i].2 := by
  have h1 : hdP (P.take (i + 1)) a = some P[i].2 := by
    rw [hdP_next hi, if_pos e, hdP_none.2 hn];rfl
  have h2 : ∀ (A B : List Pw), hdP A a = some P[i].2 → hdP (A ++ B) a = some P[i].2 := fun A B h => by
    unfold hdP at h ⊢;rw [List.find?_append];cases hv : A.find? (fun q => decide (q.1 = a)) with
    | none => rw [hv] at h;cases h
    | some q => rw [hv] at h;exact h
  have := h2 _ (P.drop (i + 1)) h1
  rwa [List.take_append_drop] at this
theorem butP_next (hi : i < P.length) : butP (P.take (i + 1)) a = if P[i].1 = a then butP (P.take i) a else butP (P.take i) a ++ [P[i]] := by
  unfold butP;rw [fil_nextF hi];by_cases e : P[i].1 = a
  · rw [if_pos e, if_neg (by simpa using e)]
  · rw [if_neg e, if_pos (by simpa using e)]
theorem butF_next (hi : i < F.length) : butF (F.take (i + 1)) s = if F[i].1 = s then butF (F.take i) s else butF (F.take i) s ++ [F[i]] := by
  unfold butF;rw [fil_nextF hi];by_cases e : F[i].1 = s
  · rw [if_pos e, if_neg (by simpa using e)]
  · rw [if_neg e, if_pos (by simpa using e)]
theorem ixV_neg {o : Option Nat} (h : ixV o < 0) : o = none := by
  cases o with
  | none => rfl
  | some m => unfold ixV at h;dsimp only at h;omega
theorem ixV_pos {o : Option Nat} (h : ¬ ixV o < 0) : ∃ m, o = some m := by
  cases o with
  | none => exact absurd (show ixV none < 0 by decide) h
  | some m => exact ⟨m, rfl⟩
theorem slot_one (hn : (F.map fun f => f.1).Nodup) (hi : i < F.length) (hj : j < F.length) (e : F[i].1 = F[j].1) : i = j := by
  have h1 : (F.map fun f => f.1)[i]'(by rw [List.length_map];exact hi) = (F.map fun f => f.1)[j]'(by rw [List.length_map];exact hj) := by
    rw [List.getElem_map, List.getElem_map, e]
  rcases Nat.lt_trichotomy i j with h2 | h2 | h2
  · exact absurd h1 (List.pairwise_iff_getElem.1 hn i j _ _ h2)
  · exact h2
  · exact absurd h1.symm (List.pairwise_iff_getElem.1 hn j i _ _ h2)
theorem hdP_RB (hr : RR t p u) (hn : 0 ≤ n ∧ n ≤ 1099511627776) (hb : ∀ q ∈ P, RB t p u q.2.1 q.2.2 ∧ q.2.2 ≤ n) : RB t p u (lvH t p u (hdP P a) n) n := by
  have hm := hr.most;cases hv : hdP P a with
  | none => exact ⟨hr, hm.1, Int.le_refl _, hn.1, hn.2⟩
  | some c =>
    obtain ⟨h1, h2⟩ := hb _ (hdP_in hv);have := lvl_bd (show RT t p u c.1 c.2 n from ⟨h1, h2, hn.2⟩);exact ⟨hr, this.1, this.2.1, hn.1, hn.2⟩
end
section
variable {sn : Nat → Int} {U : List Nat} {O : List (Int × Nat)} {j : Nat}
theorem una_some (hin : ∀ s ∈ U, ∃ q ∈ O, q.2 = s) (hso : U.Pairwise fun x y => sn x < sn y) (hj : j < U.length) :
    ∃ (k : Nat) (hk : k < O.length), oldF (fls sn (U.drop j) O) O.length = some k ∧ O[k].2 = U[j] := by
  have hdr := List.drop_eq_getElem_cons hj;rw [hdr];refine old_cons (fun s hs => ?_) ?_
  · rw [← hdr] at hs;exact hin s (List.mem_of_mem_drop hs)
  · rw [← hdr];exact hso.sublist (List.drop_sublist _ _)
theorem una_step (hin : ∀ s ∈ U, ∃ q ∈ O, q.2 = s) (hso : U.Pairwise fun x y => sn x < sn y) (hnd : (O.map Prod.snd).Nodup) (h : ¬ ixV (oldF (fls sn (U.drop j) O) O.length) < 0) :
    ∃ (k v : Nat) (av : Int) (_ : oldF (fls sn (U.drop j) O) O.length = some k) (_ : j < U.length) (hk : k < O.length), (fls sn (U.drop j) O)[k]'(by rw [fls_len];exact hk) = (v, sn v, av, false) ∧ (fls sn (U.drop j) O).set k (v, sn v, av, true) = fls sn (U.drop (j + 1)) O ∧ U.take (j + 1) = U.take j ++ [v] := by
  obtain ⟨k, hk⟩ := ixV_pos h;have hj : j < U.length := by
    rcases Nat.lt_or_ge j U.length with h1 | h1
    · exact h1
    · rw [List.drop_of_length_le h1, old_nil] at hk;cases hk
  obtain ⟨k2, hk2, h2, h3⟩ := una_some hin hso hj;rw [hk] at h2;obtain rfl : k = k2 := Option.some.inj h2;have hdr := List.drop_eq_getElem_cons hj;have hOk : O[k] = (O[k].1, U[j]) := Prod.ext rfl h3;have hun : U.Nodup := hso.imp fun hxy e => by subst e;omega
  have hnot : U[j] ∉ U.drop (j + 1) := by
    have h4 := hun.sublist (List.drop_sublist j U);rw [hdr] at h4;exact (List.nodup_cons.1 h4).1
  refine ⟨k, U[j], O[k].1, hk, hj, hk2, ?_, ?_, List.take_succ_eq_append_getElem hj⟩
  · rw [fls_get hk2, h3]
    have : U[j] ∈ U.drop j := by rw [hdr];exact List.mem_cons_self
    simp [this]
  · refine fls_set hnd hk2 hOk (fun _ _ => rfl) (fun r hr => ?_) rfl (by simp [hnot])
    rw [hdr, List.mem_cons];exact ⟨.inr, fun h5 => h5.elim (fun e => absurd e hr) id⟩
theorem una_done (hin : ∀ s ∈ U, ∃ q ∈ O, q.2 = s) (hso : U.Pairwise fun x y => sn x < sn y) (h : ixV (oldF (fls sn (U.drop j) O) O.length) < 0) : U.take j = U := by
  rcases Nat.lt_or_ge j U.length with h1 | h1
  · obtain ⟨k, _, h2, _⟩ := una_some hin hso h1
    rw [h2] at h;unfold ixV at h;dsimp only at h;omega
  · exact List.take_of_length_le h1
end
section
def seeQ (K : Rk) (z : Int) : Rk := match fdF K.F z with
  | none => K
  | some i => seeK K i
def assQ (K : Rk) (z : Int) : Rk := match fdF K.F z with
  | none => K
  | some i => assK K i
def cloQ (K : Rk) (z : Int) : Rk := match fdF K.F z with
  | none => K
  | some i => clsK K (atF K.F i).2.2.1 (atF K.F i).1
def ofQ (K : Rk) (z : Int) : Int × Bool × Bool := match fdF K.F z with
  | none => (0, false, false)
  | some i => ((atF K.F i).2.2.1, true, (atF K.F i).2.2.2)
def putQ (lim : Nat) (p u : Int) (K : Rk) (a : Int) (sb : Bool) : (Int × Int) × Rk :=
  if K.fr = [] ∨ (slF K.F a).length = lim then ((0, 4), K)
  else (((K.fr.headD 0 : Nat), 0), opnK K a (K.fr.headD 0) ((hdP K.P a).getD (u * p, K.now)) sb)
def putD (lim : Nat) (p u : Int) (D : Dk) (a : Int) (sb : Bool) : (Int × Int) × Dk :=
  if D.A.free = [] ∨ lim ≤ (slO D.T.O a).length then ((0, 4), D)
  else (((D.A.free.headD 0 : Nat), 0), putF u p D a sb)
open Classical in
def setQ (t p u : Int) (K : Rk) (a : Int) (c : Int × Int) : Int × Rk :=
  if ¬ (RB t p u c.1 c.2 ∧ c.2 ≤ K.now) then (2, K) else if hdP K.P a = none then (6, K) else (0, setK K a c)
open Classical in
def setD (t p u : Int) (D : Dk) (a : Int) (c : Int × Int) : Int × Dk :=
  if ¬ (RB t p u c.1 c.2 ∧ c.2 ≤ D.now) then (2, D) else if heldD D a = none then (6, D) else (0, putB D a c)
def toQ (K : Rk) (z : Int) : Int × Rk := if z < K.now ∨ 1099511627776 < z then (2, K) else (0, atK K z)
def toD (D : Dk) (z : Int) : Int × Dk := if z < D.now ∨ 1099511627776 < z then (2, D) else (0, atD D z)
section
variable {S lim : Nat} {t p u : Int} {D : Dk} {K : Rk} {a b n x z : Int} {i j s : Nat} {sn : Nat → Int} {c : Int × Int} {sb : Bool}
theorem RelK.fd (h : RelK S lim t p u sn D K) : fdE S K.F z = clsE S D.T z := by
  unfold fdE clsE;rw [h.F, fd_is]
theorem RelK.fdNo (h : RelK S lim t p u sn D K) (hz : fdF K.F z = none) : ofO D.T.O z = none ∧ ¬ clsE S D.T z = 0 := by
  have h1 := hz;rw [h.F] at h1;refine ⟨fd_none.1 h1, ?_⟩;rw [← h.fd];exact fdE_not hz
theorem RelK.fdYes (h : RelK S lim t p u sn D K) (hz : fdF K.F z = some i) : ∃ (s : Nat) (a : Int) (hi : i < D.T.O.length), z = (s : Int) ∧ D.T.O[i] = (a, s) ∧ (a, s) ∈ D.T.O ∧ ofO D.T.O (s : Int) = some a ∧ clsE S D.T (s : Int) = 0 ∧ atF K.F i = (s, sn s, a, decide (s ∉ D.ord)) := by
  have h1 := hz;rw [h.F] at h1;obtain ⟨hi, e⟩ := fd_some h1;subst e;obtain ⟨a, hi2, e2, hm, ho⟩ := fd_of h.f.w.sf.nds h1;refine ⟨D.T.O[i].2, a, hi, rfl, e2, hm, ho, (clsE_of h.f.w hm).1, ?_⟩;rw [h.F, fls_at hi, e2]
theorem RelK.see (h : RelK S lim t p u sn D K) : ∃ sn', RelK S lim t p u sn' (seeN' S D z) (seeQ K z) := by
  unfold seeQ;cases hz : fdF K.F z with
  | none =>
    unfold seeN';rw [if_neg (fun c => (h.fdNo hz).2 c.1)];exact ⟨sn, h⟩
  | some i =>
    obtain ⟨s, a, hi, rfl, e, hm, ho, hc, _⟩ := h.fdYes hz;unfold seeN';rw [Int.toNat_natCast];by_cases hs : s ∈ D.ord
    · rw [if_pos ⟨hc, hs⟩];exact ⟨_, h.seeIn hi e hs⟩
    · rw [if_neg (fun c => hs c.2)];exact ⟨_, h.seeNot hi e hs⟩
theorem RelK.assQ (h : RelK S lim t p u sn D K) : ∃ sn', RelK S lim t p u sn' (assN S D z) (assQ K z) := by
  unfold Sx.assQ;cases hz : fdF K.F z with
  | none =>
    unfold assN;rw [if_neg (h.fdNo hz).2];exact ⟨sn, h⟩
  | some i =>
    obtain ⟨s, a, hi, rfl, e, hm, ho, hc, _⟩ := h.fdYes hz;unfold assN;rw [Int.toNat_natCast, if_pos hc];exact ⟨_, h.ass hi e⟩
theorem RelK.cloQ (h : RelK S lim t p u sn D K) : ∃ sn', RelK S lim t p u sn' (cloN D z) (cloQ K z) := by
  unfold Sx.cloQ;cases hz : fdF K.F z with
  | none =>
    unfold cloN;rw [(h.fdNo hz).1];exact ⟨sn, h⟩
  | some i =>
    obtain ⟨s, a, hi, rfl, e, hm, ho, hc, hat⟩ := h.fdYes hz;unfold cloN;rw [ho];dsimp only;rw [Int.toNat_natCast, hat];exact ⟨_, h.cls hm⟩
theorem RelK.ofQ (h : RelK S lim t p u sn D K) : ofQ K z = ((ofO D.T.O z).getD 0, (ofO D.T.O z).isSome, asD S D z) := by
  unfold Sx.ofQ asD;cases hz : fdF K.F z with
  | none =>
    obtain ⟨h1, h2⟩ := h.fdNo hz;rw [h1, decide_eq_false h2];rfl
  | some i =>
    obtain ⟨s, a, hi, rfl, e, hm, ho, hc, hat⟩ := h.fdYes hz;rw [ho, hc, Int.toNat_natCast];dsimp only;rw [hat];simp
theorem RelK.putQ (h : RelK S lim t p u sn D K) (ha : 0 ≤ a ∧ a ≤ 4294967295) : (putQ lim p u K a sb).1 = (putD lim p u D a sb).1 ∧ ∃ sn', RelK S lim t p u sn' (putD lim p u D a sb).2 (putQ lim p u K a sb).2 := by
  have hll := h.f.w.sf.lim a;unfold Sx.putQ putD;rw [h.fr, h.sl, h.P, h.now];by_cases hf : D.A.free = [] ∨ lim ≤ (slO D.T.O a).length
  · rw [if_pos hf, if_pos (by rcases hf with e | e;exact .inl e;exact .inr omQ)]
    exact ⟨rfl, sn, h⟩
  · rw [if_neg hf, if_neg (by rintro (e | e);exact hf (.inl e);exact hf (.inr omQ))]
    refine ⟨rfl, ?_⟩;cases hfr : D.A.free with
    | nil => exact absurd (.inl hfr) hf
    | cons s fs =>
      obtain ⟨hc, hn⟩ := h.f.held (a := a);have h1 := h.opn (as := sb) ha hfr (Nat.lt_of_not_le fun e => hf (.inr e)) hc hn;have h2 : putF u p D a sb = putB (bif sb then assD (opnD D a s) s else opnD D a s) a ((heldD D a).getD (u * p, D.now)) := by unfold putF;rw [hfr]
      show ∃ sn', RelK S lim t p u sn' (putF u p D a sb) (opnK K a s ((heldD D a).getD (u * p, D.now)) sb);rw [h2];exact ⟨_, h1⟩
theorem RelK.setQ (h : RelK S lim t p u sn D K) : (setQ t p u K a c).1 = (setD t p u D a c).1 ∧ ∃ sn', RelK S lim t p u sn' (setD t p u D a c).2 (setQ t p u K a c).2 := by
  unfold Sx.setQ setD;rw [h.P, h.now];by_cases h1 : ¬ (RB t p u c.1 c.2 ∧ c.2 ≤ D.now)
  · rw [if_pos h1, if_pos h1];exact ⟨rfl, sn, h⟩
  rw [if_neg h1, if_neg h1];by_cases h2 : heldD D a = none
  · rw [if_pos h2, if_pos h2];exact ⟨rfl, sn, h⟩
  rw [if_neg h2, if_neg h2];refine ⟨rfl, sn, ?_⟩;obtain ⟨h3, h4⟩ := Decidable.not_not.1 h1;cases hr : rcR D.T.R a with
  | none => exact absurd (held_none hr) h2
  | some q =>
    unfold putB;rw [hr];exact h.set hr h3 h4
theorem RelK.toQ (h : RelK S lim t p u sn D K) : (toQ K z).1 = (toD D z).1 ∧ ∃ sn', RelK S lim t p u sn' (toD D z).2 (toQ K z).2 := by
  unfold Sx.toQ toD;rw [h.now];by_cases h1 : z < D.now ∨ 1099511627776 < z
  · rw [if_pos h1, if_pos h1];exact ⟨rfl, sn, h⟩
  · rw [if_neg h1, if_neg h1];exact ⟨rfl, sn, h.to omQ⟩
theorem seeQ_ev : (seeQ K z).ev ≤ K.ev + 1 := by
  unfold seeQ;split
  · omega
  · exact Int.le_refl _
theorem assQ_ev : (assQ K z).ev ≤ K.ev + 1 := by
  unfold assQ;split
  · omega
  · show K.ev ≤ _;omega
theorem cloQ_ev : (cloQ K z).ev ≤ K.ev + 1 := by
  unfold cloQ;split
  · omega
  · show K.ev ≤ _;omega
theorem putQ_ev : (putQ lim p u K a sb).2.ev ≤ K.ev + 1 := by
  unfold putQ;split
  · show K.ev ≤ _;omega
  · exact Int.le_refl _
theorem setQ_ev : (setQ t p u K a c).2.ev ≤ K.ev + 1 := by
  unfold setQ
  split
  · show K.ev ≤ _;omega
  split
  · show K.ev ≤ _;omega
  · show K.ev ≤ _;omega
theorem toQ_ev : (toQ K z).2.ev ≤ K.ev + 1 := by
  unfold toQ;split
  · show K.ev ≤ _;omega
  · show K.ev ≤ _;omega
theorem tryK_ev : (tryK lim t p u K n a).2.ev ≤ K.ev + 1 := by
  unfold tryK
  split
  · show K.ev ≤ _;omega
  split
  · show K.ev ≤ _;omega
  split
  · show K.ev ≤ _;omega
  split
  · exact Int.le_refl _
  split
  · show K.ev ≤ _;omega
  · exact Int.le_refl _
theorem putF_un : (putF u p D a sb).un ≤ D.un + 1 := by
  unfold putF
  split
  · cases sb
    · exact Int.le_refl _
    · exact Int.le_refl _
  · omega
theorem putD_un : (putD lim p u D a sb).2.un ≤ D.un + 1 := by
  unfold putD;split
  · show D.un ≤ _;omega
  · exact putF_un
theorem setD_un : (setD t p u D a c).2.un ≤ D.un + 1 := by
  unfold setD
  split
  · show D.un ≤ _;omega
  split
  · show D.un ≤ _;omega
  · show D.un ≤ _;omega
theorem toD_un : (toD D z).2.un ≤ D.un + 1 := by
  unfold toD;split
  · show D.un ≤ _;omega
  · show D.un ≤ _;omega
def othD (S : Nat) (D : Dk) (k z : Int) : Dk := if k % 3 = 0 then seeN' S D z else if k % 3 = 1 then assN S D z else cloN D z
def othK (K : Rk) (k z : Int) : Rk := if k % 3 = 0 then seeQ K z else if k % 3 = 1 then assQ K z else cloQ K z
theorem RelK.oth (h : RelK S lim t p u sn D K) {k : Int} : ∃ sn', RelK S lim t p u sn' (othD S D k z) (othK K k z) := by
  unfold othD othK
  split
  · exact h.see
  split
  · exact h.assQ
  · exact h.cloQ
end
end
section
variable {P : Program} {md : Region.Mode} {ops : Array Oper} {Q : Exit → Act → World → Prop} {T : World → Prop} {M : List Nat}
def wpAnyM (P : Program) (md : Region.Mode) (ops : Array Oper) (Q : Exit → Act → World → Prop) (T : World → Prop) (M : List Nat) : Nat → Array Bool → Act → World → Prop
  | 0, listed, a, w => Region.ready md ops listed = [] ∧ Q .normal a w
  | fuel + 1, listed, a, w =>
    (Region.ready md ops listed = [] → Q .normal a w) ∧
    ∀ i ∈ Region.ready md ops listed, wpOp P ops Q i (fun a' w' => (M.contains i = false → T w') ∧ wpAnyM P md ops Q T M fuel (listed.setIfInBounds i true) a' w') a w
theorem wpAny_of_M : ∀ (fuel : Nat) (listed : Array Bool) (a : Act) (w : World), wpAnyM P md ops Q T M fuel listed a w → wpAny P md ops Q fuel listed a w
  | 0, _, _, _, h => h
  | fuel + 1, _, _, _, h => ⟨h.1, fun i hi => wpOp_mono (fun a' w' h' => wpAny_of_M fuel _ a' w' h'.2) (h.2 i hi)⟩
def waitsT (md : Region.Mode) (ops : Array Oper) (i : Nat) : Nat → Nat → Bool
  | 0, _ => false
  | f + 1, j => match ops[j]? with
    | some o => o.after.any fun e => Region.binds md e && (e.on == i || waitsT md ops i f e.on)
    | none => false
def waitsM (md : Region.Mode) (ops : Array Oper) (M : List Nat) (i : Nat) : Bool := M.all fun m => waitsT md ops i ops.size m
def ClM (md : Region.Mode) (ops : Array Oper) (listed : Array Bool) : Prop := ∀ j o, ops[j]? = some o → listed.getD j false = true → ∀ e ∈ o.after, Region.binds md e = true → listed.getD e.on false = true
def closedB (md : Region.Mode) (ops : Array Oper) (listed : Array Bool) : Bool := (List.range ops.size).all fun j => !listed.getD j false || match ops[j]? with
  | some o => o.after.all fun e => !Region.binds md e || listed.getD e.on false
  | none => true
theorem ClM_of {listed : Array Bool} (h : closedB md ops listed = true) : ClM md ops listed := by
  intro j o ho hj e he hb;have hlt : j < ops.size := (Array.getElem?_eq_some_iff.1 ho).1;have h1 := List.all_eq_true.1 h j (List.mem_range.2 hlt);rw [hj, ho] at h1;simp only [Bool.not_true, Bool.false_or] at h1;have h2 := (Array.all_eq_true_iff_forall_mem.1 h1) e he;rw [hb] at h2;simpa using h2
theorem ClM_set {listed : Array Bool} {j : Nat} (h : ClM md ops listed) (hr : j ∈ Region.ready md ops listed) : ClM md ops (listed.setIfInBounds j true) := by
  intro k o ho hk e he hb;obtain ⟨_, oj, hoj, hall⟩ := mem_ready.1 hr;by_cases hjk : j = k
  · subst hjk
    rw [hoj] at ho;obtain rfl : oj = o := Option.some.inj ho;exact getD_set_true (hall e he hb)
  · rw [getD_set_ne false hjk] at hk
    exact getD_set_true (h k o ho hk e he hb)
theorem waits_listed {listed : Array Bool} {i : Nat} (h : ClM md ops listed) : ∀ {f j : Nat} {oj : Oper}, ops[j]? = some oj → (∀ e ∈ oj.after, Region.binds md e = true → listed.getD e.on false = true) → waitsT md ops i f j = true → listed.getD i false = true
  | 0, _, _, _, _, hw => by cases hw
  | f + 1, j, oj, hoj, hall, hw => by
    unfold waitsT at hw;rw [hoj] at hw;obtain ⟨x, hx, hb⟩ := Array.any_eq_true.1 hw;simp only [Bool.and_eq_true, Bool.or_eq_true, beq_iff_eq] at hb;have hl := hall _ (Array.getElem_mem hx) hb.1;rcases hb.2 with e | e
    · rw [e] at hl;exact hl
    · cases ho : ops[oj.after[x].on]? with
      | none =>
        cases f with
        | zero => cases e
        | succ f => unfold waitsT at e;rw [ho] at e;cases e
      | some o2 => exact waits_listed h ho (h _ o2 ho hl) e
theorem wpAnyM_first {i : Nat} {oi : Oper} {v : Value} (hi : ops[i]? = some oi) (hsel : ∀ (j : Nat) (o : Oper) cs b, ops[j]? = some o → o.op ≠ .select cs b) (him : waitsM md ops M i = true)
    (hQ : ∀ c a w, Q (.panic c) (a.put oi.dst v) w → Q (.panic c) a w) :
    ∀ (fuel : Nat) (listed : Array Bool) (a : Act) (w : World),
      (∀ j oj, ops[j]? = some oj → j ≠ i → listed.getD j true = false → (∀ e ∈ oj.after, Region.binds md e = true → e.on ≠ i) → oi.apart ops oj = true) → ClM md ops listed →
      i ∈ Region.ready md ops listed → YieldsIf P ops T oi v a → T w →
      wpAnyM P md ops Q T M fuel (listed.setIfInBounds i true) (a.put oi.dst v) w → wpAnyM P md ops Q T M (fuel + 1) listed a w := by
  intro fuel
  induction fuel with
  | zero =>
    intro listed a w _ _ hr hy hS H;refine ⟨fun h => (by rw [h] at hr;cases hr), fun j hj => ?_⟩;by_cases hji : j = i
    · subst hji;exact hy.wpOp hi hS ⟨fun _ => hS, H⟩
    · have := ready_mono hj hji
      rw [H.1] at this;cases this
  | succ fuel ih =>
    intro listed a w hfree hcl hr hy hS H;refine ⟨fun h => (by rw [h] at hr;cases hr), fun j hj => ?_⟩;by_cases hji : j = i
    · subst hji;exact hy.wpOp hi hS ⟨fun _ => hS, H⟩
    · have h1 := H.2 j (ready_mono hj hji)
      obtain ⟨hjun, oj, hoj, hall⟩ := mem_ready.1 hj;have hnot : ∀ e ∈ oj.after, Region.binds md e = true → e.on ≠ i := fun e he hb heq => by
        have h1 := hall e he hb;have h0 := (mem_ready.1 hr).1;rw [heq] at h1;rcases Nat.lt_or_ge i listed.size with h' | h'
        · simp [h'] at h0 h1;rw [h0] at h1;cases h1
        · simp [Array.getElem?_eq_none h'] at h1
      have hjm : M.contains j = false := by
        cases hc : M.contains j with
        | false => rfl
        | true =>
          have him2 := List.all_eq_true.1 him j (List.contains_iff_mem.1 hc);have h4 := waits_listed hcl hoj hall him2;have h0 := (mem_ready.1 hr).1;rcases Nat.lt_or_ge i listed.size with h' | h'
          · simp [h'] at h0 h4;rw [h0] at h4;cases h4
          · simp [Array.getElem?_eq_none h'] at h4
      have h2 := wpOp_putIf hoj (hfree j oj hoj hji hjun hnot) (fun cs b => hsel i oi cs b hi) (fun cs b => hsel j oj cs b hoj) hQ hy h1;have hfree' : ∀ k ok, ops[k]? = some ok → k ≠ i → (listed.setIfInBounds j true).getD k true = false →
          (∀ e ∈ ok.after, Region.binds md e = true → e.on ≠ i) → oi.apart ops ok = true := fun k ok hk hki hun hno => by
        refine hfree k ok hk hki ?_ hno;by_cases hjk : j = k
        · subst hjk;exact hjun
        · rw [getD_set_ne true hjk] at hun;exact hun
      refine wpOp_mono (fun a' w' h3 => ⟨h3.2.1, ih (listed.setIfInBounds j true) a' w' hfree' (ClM_set hcl hj) (ready_mono hr (Ne.symm hji)) h3.1 (h3.2.1 hjm) ?_⟩) h2;rw [Array.setIfInBounds_comm _ _ hji];exact h3.2.2
theorem wpAnyM_done {listed : Array Bool} {a : Act} {w : World} (hr : Region.ready md ops listed = []) (h : Q .normal a w) :
    ∀ fuel, wpAnyM P md ops Q T M fuel listed a w
  | 0 => ⟨hr, h⟩
  | _ + 1 => ⟨fun _ => h, by rw [hr];simp⟩
end
section
variable {P : Program} {ops : Array Oper} {Q : Exit → Act → World → Prop} {n : Nat} {a : Act} {S : Slots} {l l0 : List HP} {w : World} {fuel : Nat} {listed : Array Bool} {op : Op} {t : TypeId} {pos : String} {af : Array Edge} {d : Nat} {K : Act → World → Prop} {M : List Nat}
theorem drawnM {id : Nat} (M : List Nat) (hm : P.follows .mixedOrders = true) (hR : Sep l w) (ex : Ex l l0)
    (h : ∀ w, Sep l w → Sep l0 w → wpAnyM P .any ops Q (Sep l0) M ops.size (Array.replicate ops.size false) a w) : (Code.region id ops true).wp P Q a w :=
  wp_region_any hm (wpAny_of_M _ _ _ _ (h _ hR.drewN (hR.drewN.sub ex)))
theorem mA {v : Value} (i : Nat) (hi : ops[i]? = some ⟨some d, op, t, pos, af, none⟩) (hs : Region.noSelect ops = true) (hf : Region.free .any ops listed i = true) (hr : (Region.ready .any ops listed).contains i = true) (hw : waitsM .any ops M i = true) (hc : closedB .any ops listed = true)
    (hQ : ∀ c (a : Act) w, Q (.panic c) (a.put (some d) v) w → Q (.panic c) a w) (hS : Has n a S) (hR0 : Sep l0 w) (hy : Yld P a l0 ⟨some d, op, t, pos, af, none⟩ v) (hd : d < n)
    (k : ∀ a', Has n a' ((d, v) :: S) → wpAnyM P .any ops Q (Sep l0) M fuel (listed.setIfInBounds i true) a' w) : wpAnyM P .any ops Q (Sep l0) M (fuel + 1) listed a w :=
  wpAnyM_first hi (Region.noSelect_spec hs) hw hQ fuel listed a w (Region.free_spec hi hf) (ClM_of hc) (by simpa using hr) (.inl ⟨by simp [Region.wanted], fun w hw => hy w hw⟩) hR0 (k _ (hS.put d v hd))
theorem mnext {G : Prop} {i : Nat} (h : Sep l0 w) (k : Sep l0 w → G) : (M.contains i = false → Sep l0 w) ∧ G := ⟨fun _ => h, k h⟩
theorem mend {G : Prop} {i : Nat} (h : M.contains i = true) (k : G) : (M.contains i = false → Sep l0 w) ∧ G := ⟨fun e => (by rw [h] at e;cases e), k⟩
theorem mOne {i : Nat} (hr : Region.ready .any ops listed = [i]) (h : wpOp P ops Q i (fun a' w' => (M.contains i = false → Sep l0 w') ∧ wpAnyM P .any ops Q (Sep l0) M fuel (listed.setIfInBounds i true) a' w') a w) : wpAnyM P .any ops Q (Sep l0) M (fuel + 1) listed a w :=
by
  refine ⟨fun e => (by rw [hr] at e;cases e), fun x hx => ?_⟩;rw [hr] at hx;simp only [List.mem_cons, List.not_mem_nil, or_false] at hx;subst hx;exact h
theorem mTwo {i j : Nat} (hr : Region.ready .any ops listed = [i, j]) (h : wpOp P ops Q i (fun a' w' => (M.contains i = false → Sep l0 w') ∧ wpAnyM P .any ops Q (Sep l0) M fuel (listed.setIfInBounds i true) a' w') a w)
    (h2 : wpOp P ops Q j (fun a' w' => (M.contains j = false → Sep l0 w') ∧ wpAnyM P .any ops Q (Sep l0) M fuel (listed.setIfInBounds j true) a' w') a w) : wpAnyM P .any ops Q (Sep l0) M (fuel + 1) listed a w :=
by
  refine ⟨fun e => (by rw [hr] at e;cases e), fun x hx => ?_⟩;rw [hr] at hx;simp only [List.mem_cons, List.not_mem_nil, or_false] at hx;rcases hx with rfl | rfl
  · exact h
  · exact h2
end
abbrev At3 := Int × Int × Int
abbrev eA3 (r : At3) : List Value := [.int .u8 r.1, .int .u32 r.2.1, .int .i64 r.2.2]
def Ok3 (r : At3) : Prop := (0 ≤ r.1 ∧ r.1 ≤ 255) ∧ 0 ≤ r.2.1 ∧ r.2.1 ≤ 4294967295
theorem rows3 {rs : List At3} {b n c : Nat} {TA : TypeId} {l l' : List HP} (p : Pk (sls (some ⟨b, 0, none⟩) n c TA 3 (rs.flatMap eA3)) l l') (hn : n = rs.length) (hb : ∀ r ∈ rs, Ok3 r) :
    ∀ k, k < n → ∃ ba ia s0 s1 s2, (some ⟨b, 0, none⟩ : Option Addr) = some ⟨ba, ia, none⟩ ∧ 0 ≤ s0 ∧ s0 ≤ 255 ∧ 0 ≤ s1 ∧ s1 ≤ 4294967295 ∧ Rds l ba (ia + k * 3) [.int .u8 s0, .int .u32 s1, .int .i64 s2] := fun k hk => by
  have hk2 : k < rs.length := omQ;obtain ⟨h1, h2⟩ := hb _ (List.getElem_mem hk2);exact ⟨b, 0, _, _, _, rfl, h1.1, h1.2, h2.1, h2.2, Rds.at (Rds.rec (enc := eA3) (xs := rs) (k := k) p (fun _ => rfl) hk2) (by show 0 + k * 3 = k * 3;omega)⟩
end Go.Proofs.YtkhdejjompbklaaGreat.Sx
