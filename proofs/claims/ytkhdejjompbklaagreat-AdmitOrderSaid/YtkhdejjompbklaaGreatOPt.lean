/-
  My plain texts put together into one module.
-/
import Derived.Test.YtkhdejjompbklaaGreatOPe
import Derived.Test.YtkhdejjompbklaaGreatOPl
namespace Go.Proofs.YtkhdejjompbklaaGreat.Sx
open Go
set_option linter.unusedVariables false
set_option linter.unusedSimpArgs false
def trn (k : Ky) : Ky := (k.1, k.2.2.1, k.2.1, k.2.2.2.2, k.2.2.2.1)
theorem trn_trn (k : Ky) : trn (trn k) = k := rfl
theorem trn_inj {a b : Ky} (h : trn a = trn b) : a = b := by rw [← trn_trn a, h, trn_trn]
theorem trn_eq {a b : Ky} : trn a = b ↔ a = trn b := ⟨fun h => by rw [← h]; rfl, fun h => by rw [h]; rfl⟩
theorem trn_wf {k : Ky} (h : WfK k) : WfK (trn k) := ⟨h.p, h.d, h.s, h.b, h.a⟩
structure Fl where
  s : Nat
  u : Int
  k : Ky
  i : Nat
structure Tb where
  F : List Fl
  A : Ar
abbrev ownK (F : List Fl) : List (Ky × Int) := F.map fun f => (f.k, (f.s : Int))
abbrev bakK (F : List Fl) : List (Ky × Int) := F.map fun f => (trn f.k, (f.s : Int))
structure TF (S n : Nat) (T : Tb) : Prop where
  ok : AOk T.A
  size : T.A.turn.length = S
  at' : ∀ s u, T.A.at s = some u ↔ ∃ f ∈ T.F, (f.s : Int) = s ∧ f.u = u
  nds : (T.F.map Fl.s).Nodup
  wf : ∀ f ∈ T.F, WfK f.k
  lt : ∀ f ∈ T.F, f.i < n
  apart : T.F.Pairwise fun f g => f.k ≠ g.k ∧ trn f.k ≠ g.k
structure TI (S n : Nat) (T : Tb) (K1 K2 : List (Ky × Int)) (L : Nat → List Nat) (ky : List Ky) : Prop where
  tf : TF S n T
  len : ky.length = S
  key : ∀ f ∈ T.F, ky[f.s]? = some f.k
  p1 : K1.Perm (ownK T.F)
  p2 : K2.Perm (bakK T.F)
  ls : ∀ i, i < n → L i = (T.F.filter fun f => decide (f.i = i)).map Fl.s
section
variable {S n : Nat} {T : Tb}
theorem at_tk {A : Ar} {s u : Int} : A.at s = some u ↔ 0 ≤ s ∧ A.tk[s.toNat]? = some true ∧ A.turn[s.toNat]?.getD 0 = u := by
  unfold Ar.at
  split
  · rename_i h; simp [h.1, h.2]
  · rename_i h
    constructor
    · intro e; cases e
    · rintro ⟨a, b, _⟩; exact absurd ⟨a, b⟩ h
theorem TF.slot (h : TF S n T) {f : Fl} (hf : f ∈ T.F) : f.s < S ∧ T.A.tk[f.s]? = some true ∧ T.A.turn[f.s]? = some f.u := by
  have h1 := at_tk.1 ((h.at' f.s f.u).2 ⟨f, hf, rfl, rfl⟩)
  rw [Int.toNat_natCast] at h1
  have h2 := (List.getElem?_eq_some_iff.1 h1.2.1).1
  have h3 := h.ok.len
  have h4 := h.size
  refine ⟨by omega, h1.2.1, ?_⟩
  have h5 := h1.2.2
  rw [List.getElem?_eq_getElem (by omega)] at h5 ⊢
  exact congrArg some h5
theorem TF.flow (h : TF S n T) {s : Nat} (ht : T.A.tk[s]? = some true) : ∃ f ∈ T.F, f.s = s := by
  obtain ⟨f, hf, h1, _⟩ := (h.at' (s : Int) (T.A.turn[s]?.getD 0)).1 (at_tk.2 ⟨by omega, by rw [Int.toNat_natCast]; exact ht, by rw [Int.toNat_natCast]⟩)
  exact ⟨f, hf, by omega⟩
theorem nodup_map_inj {α β : Type} {g : α → β} : ∀ {l : List α}, (l.map g).Nodup → ∀ {a b : α}, a ∈ l → b ∈ l → g a = g b → a = b
  | [], _, _, _, h, _, _ => by simp at h
  | x :: t, hn, a, b, ha, hb, e => by
    rw [List.map_cons, List.nodup_cons] at hn
    rcases List.mem_cons.1 ha with h1 | h1 <;> rcases List.mem_cons.1 hb with h2 | h2
    · rw [h1, h2]
    · exact absurd (List.mem_map.2 ⟨b, h2, by rw [← e, h1]⟩) hn.1
    · exact absurd (List.mem_map.2 ⟨a, h1, by rw [e, h2]⟩) hn.1
    · exact nodup_map_inj hn.2 h1 h2 e
theorem TF.one (h : TF S n T) {f g : Fl} (hf : f ∈ T.F) (hg : g ∈ T.F) (e : f.s = g.s) : f = g := nodup_map_inj h.nds hf hg e
theorem pw_ne {α : Type} {R : α → α → Prop} : ∀ {l : List α}, l.Pairwise R → ∀ {a b : α}, a ∈ l → b ∈ l → a ≠ b → R a b ∨ R b a
  | [], _, _, _, h, _, _ => by simp at h
  | x :: t, hp, a, b, ha, hb, e => by
    rw [List.pairwise_cons] at hp
    rcases List.mem_cons.1 ha with h1 | h1 <;> rcases List.mem_cons.1 hb with h2 | h2
    · exact absurd (h1.trans h2.symm) e
    · exact .inl (h1 ▸ hp.1 b h2)
    · exact .inr (h2 ▸ hp.1 a h1)
    · exact pw_ne hp.2 h1 h2 e
theorem TF.far (h : TF S n T) {f g : Fl} (hf : f ∈ T.F) (hg : g ∈ T.F) (e : f.k = g.k ∨ trn f.k = g.k) : f = g := by
  rcases Classical.em (f = g) with h1 | h1
  · exact h1
  · exfalso
    rcases pw_ne h.apart hf hg h1 with h2 | h2
    · rcases e with e | e
      · exact h2.1 e
      · exact h2.2 e
    · rcases e with e | e
      · exact h2.1 e.symm
      · exact h2.2 (trn_eq.2 e.symm)
theorem nodup_of_inj {α β : Type} {g : α → β} : ∀ {l : List α}, l.Nodup → (∀ a ∈ l, ∀ b ∈ l, g a = g b → a = b) → (l.map g).Nodup
  | [], _, _ => by simp
  | x :: t, hn, h => by
    rw [List.nodup_cons] at hn
    rw [List.map_cons, List.nodup_cons]
    refine ⟨fun hm => ?_, nodup_of_inj hn.2 fun a ha b hb => h a (List.mem_cons_of_mem _ ha) b (List.mem_cons_of_mem _ hb)⟩
    obtain ⟨y, hy, e⟩ := List.mem_map.1 hm
    have := h y (List.mem_cons_of_mem _ hy) x List.mem_cons_self e
    subst this
    exact hn.1 hy
theorem TF.nd (h : TF S n T) : T.F.Nodup := by
  have := h.nds
  rw [List.Nodup, List.pairwise_map] at this
  exact this.imp fun h e => h (by rw [e])
theorem TF.own (h : TF S n T) : Good (ownK T.F) := by
  refine ⟨fun e he => ?_, ?_⟩
  · obtain ⟨f, hf, rfl⟩ := List.mem_map.1 he
    exact h.wf f hf
  · rw [List.map_map]
    exact nodup_of_inj h.nd fun a ha b hb e => h.far ha hb (.inl e)
theorem TF.bak (h : TF S n T) : Good (bakK T.F) := by
  refine ⟨fun e he => ?_, ?_⟩
  · obtain ⟨f, hf, rfl⟩ := List.mem_map.1 he
    exact trn_wf (h.wf f hf)
  · rw [List.map_map]
    exact nodup_of_inj h.nd fun a ha b hb e => h.far ha hb (.inl (trn_inj e))
theorem Good.perm {K M : List (Ky × Int)} (h : Good M) (p : K.Perm M) : Good K := ⟨fun e he => h.wf e (p.mem_iff.1 he), (p.map Prod.fst).nodup_iff.2 h.nd⟩
theorem has_perm {K M : List (Ky × Int)} (p : K.Perm M) {k : Ky} : has K k ↔ has M k := ⟨fun ⟨e, he, h⟩ => ⟨e, p.mem_iff.1 he, h⟩, fun ⟨e, he, h⟩ => ⟨e, p.mem_iff.2 he, h⟩⟩
theorem und_perm {K M : List (Ky × Int)} (h : Good M) (p : K.Perm M) (k : Ky) (n : Int) : undK' K k n = undK' M k n := undK_same (h.perm p).wf h.wf fun y => has_perm p
def fndK (F : List Fl) (k : Ky) : Option Fl := F.find? fun f => decide (f.k = k ∨ trn f.k = k)
theorem fndK_none {F : List Fl} {k : Ky} : fndK F k = none ↔ ∀ f ∈ F, f.k ≠ k ∧ trn f.k ≠ k := by
  unfold fndK
  rw [List.find?_eq_none]
  constructor
  · intro h f hf; have := h f hf; simpa using this
  · intro h f hf; simpa using h f hf
theorem own_has {F : List Fl} {k : Ky} : has (ownK F) k ↔ ∃ f ∈ F, f.k = k := by
  constructor
  · rintro ⟨e, he, h⟩
    obtain ⟨f, hf, rfl⟩ := List.mem_map.1 he
    exact ⟨f, hf, h⟩
  · rintro ⟨f, hf, h⟩
    exact ⟨_, List.mem_map.2 ⟨f, hf, rfl⟩, h⟩
theorem bak_has {F : List Fl} {k : Ky} : has (bakK F) k ↔ ∃ f ∈ F, trn f.k = k := by
  constructor
  · rintro ⟨e, he, h⟩
    obtain ⟨f, hf, rfl⟩ := List.mem_map.1 he
    exact ⟨f, hf, h⟩
  · rintro ⟨f, hf, h⟩
    exact ⟨_, List.mem_map.2 ⟨f, hf, rfl⟩, h⟩
abbrev Tb.out (T : Tb) (s : Nat) : Tb := { F := T.F.filter fun f => decide (f.s ≠ s), A := T.A.give s }
abbrev Tb.move (T : Tb) (f : Fl) (i : Nat) : Tb := { F := (T.F.filter fun g => decide (g.s ≠ f.s)) ++ [{ f with i := i }], A := T.A }
theorem AOk.take {A : Ar} (h : AOk A) {i : Nat} {fs : List Nat} (e : A.free = i :: fs) : AOk A.take := by
  have hnd := h.nodup
  rw [e, List.nodup_cons] at hnd
  have hi : i < A.tk.length := (List.getElem?_eq_some_iff.1 ((h.free i).1 (by rw [e]; exact List.mem_cons_self))).1
  have hf : A.take.free = fs := by simp [Ar.take, e]
  have ht : A.take.tk = A.tk.set i true := by simp [Ar.take, e]
  have hu : A.take.turn = A.turn := by simp [Ar.take, e]
  refine ⟨?_, by rw [hu]; exact h.pos, by rw [hf]; exact hnd.2, ?_⟩
  · rw [ht, hu, List.length_set]; exact h.len
  · intro j
    rw [hf, ht]
    by_cases hij : i = j
    · subst hij
      rw [List.getElem?_set_self hi]
      constructor
      · intro h'; exact absurd h' hnd.1
      · intro h'; simp at h'
    · rw [List.getElem?_set_ne hij, ← h.free j, e, List.mem_cons]
      constructor
      · intro h'; exact .inr h'
      · rintro (h' | h')
        · exact absurd h'.symm hij
        · exact h'
theorem AOk.give {A : Ar} (h : AOk A) {i : Nat} (ht : A.tk[i]? = some true) : AOk (A.give i) := by
  have hi : i < A.tk.length := (List.getElem?_eq_some_iff.1 ht).1
  have hni : i ∉ A.free := fun hm => by rw [h.free i, ht] at hm; simp at hm
  refine ⟨?_, ?_, ?_, ?_⟩
  · simp [Ar.give, h.len]
  · simp [Ar.give, h.pos]
  · simp only [Ar.give, List.nodup_cons]; exact ⟨hni, h.nodup⟩
  · intro j
    simp only [Ar.give, List.mem_cons]
    by_cases hij : i = j
    · subst hij; rw [List.getElem?_set_self hi]; simp
    · rw [List.getElem?_set_ne hij, ← h.free j]
      constructor
      · rintro (h' | h')
        · exact absurd h'.symm hij
        · exact h'
      · intro h'; exact .inr h'
theorem TF.free (h : TF S n T) {s : Nat} (hs : s ∈ T.A.free) : s < S ∧ ∀ f ∈ T.F, f.s ≠ s := by
  have h1 := (h.ok.free s).1 hs
  have h2 := (List.getElem?_eq_some_iff.1 h1).1
  have h3 := h.ok.len
  have h4 := h.size
  refine ⟨by omega, fun f hf e => ?_⟩
  have := (h.slot hf).2.1
  rw [e, h1] at this; cases this
theorem TF.add (h : TF S n T) {s : Nat} {fs : List Nat} {k : Ky} {i : Nat} (e : T.A.free = s :: fs) (hk : WfK k) (hi : i < n) (hn : fndK T.F k = none) : TF S n { F := T.F ++ [⟨s, T.A.turn[s]?.getD 0, k, i⟩], A := T.A.take } := by
  obtain ⟨hs, hne⟩ := h.free (s := s) (by rw [e]; exact List.mem_cons_self)
  have hn' := fndK_none.1 hn
  have ht : T.A.take.tk = T.A.tk.set s true := by simp [Ar.take, e]
  have hu : T.A.take.turn = T.A.turn := by simp [Ar.take, e]
  have hl := h.ok.len
  have hsz := h.size
  refine ⟨h.ok.take e, by rw [hu]; exact hsz, fun s' u' => ?_, ?_, ?_, ?_, ?_⟩
  · rw [at_tk, ht, hu]
    constructor
    · rintro ⟨h1, h2, h3⟩
      by_cases hss : s = s'.toNat
      · exact ⟨_, List.mem_append.2 (.inr List.mem_cons_self), by dsimp only; omega, by dsimp only; rw [hss]; exact h3⟩
      · rw [List.getElem?_set_ne hss] at h2
        obtain ⟨f, hf, h4⟩ := (h.at' s' u').1 (at_tk.2 ⟨h1, h2, h3⟩)
        exact ⟨f, List.mem_append.2 (.inl hf), h4⟩
    · rintro ⟨f, hf, h1, h2⟩
      rcases List.mem_append.1 hf with hf | hf
      · have h3 := at_tk.1 ((h.at' s' u').2 ⟨f, hf, h1, h2⟩)
        refine ⟨h3.1, ?_, h3.2.2⟩
        rw [List.getElem?_set_ne (fun e2 => hne f hf (by omega))]; exact h3.2.1
      · simp only [List.mem_singleton] at hf; subst hf
        dsimp only at h1 h2
        subst h1
        rw [Int.toNat_natCast]
        exact ⟨by omega, List.getElem?_set_self (by omega), h2⟩
  · rw [List.map_append, List.nodup_append]
    refine ⟨h.nds, by simp, fun a ha b hb e2 => ?_⟩
    simp only [List.map_cons, List.map_nil, List.mem_singleton] at hb
    obtain ⟨f, hf, h9⟩ := List.mem_map.1 ha
    exact hne f hf (by omega)
  · intro f hf
    rcases List.mem_append.1 hf with hf | hf
    · exact h.wf f hf
    · simp only [List.mem_singleton] at hf; subst hf; exact hk
  · intro f hf
    rcases List.mem_append.1 hf with hf | hf
    · exact h.lt f hf
    · simp only [List.mem_singleton] at hf; subst hf; exact hi
  · rw [List.pairwise_append]
    refine ⟨h.apart, by simp, fun a ha b hb => ?_⟩
    simp only [List.mem_singleton] at hb; subst hb
    exact hn' a ha
theorem TF.out (h : TF S n T) {f : Fl} (hf : f ∈ T.F) : TF S n (T.out f.s) := by
  obtain ⟨hs, ht, hu⟩ := h.slot hf
  have hl := h.ok.len
  have hsz := h.size
  refine ⟨h.ok.give ht, by simp [Tb.out, Ar.give, hsz], fun s' u' => ?_, h.nds.sublist (List.filter_sublist.map _), fun g hg => h.wf g (List.mem_filter.1 hg).1, fun g hg => h.lt g (List.mem_filter.1 hg).1, h.apart.sublist List.filter_sublist⟩
  rw [at_tk]
  simp only [Tb.out, Ar.give]
  constructor
  · rintro ⟨h1, h2, h3⟩
    by_cases hss : f.s = s'.toNat
    · rw [← hss, List.getElem?_set_self (by omega)] at h2; cases h2
    · rw [List.getElem?_set_ne hss] at h2 h3
      obtain ⟨g, hg, h4⟩ := (h.at' s' u').1 (at_tk.2 ⟨h1, h2, h3⟩)
      exact ⟨g, List.mem_filter.2 ⟨hg, decide_eq_true (by omega)⟩, h4⟩
  · rintro ⟨g, hg, h1, h2⟩
    obtain ⟨hg1, hg2⟩ := List.mem_filter.1 hg
    have hg3 := of_decide_eq_true hg2
    have h3 := at_tk.1 ((h.at' s' u').2 ⟨g, hg1, h1, h2⟩)
    refine ⟨h3.1, ?_, ?_⟩
    · rw [List.getElem?_set_ne (by omega)]; exact h3.2.1
    · rw [List.getElem?_set_ne (by omega)]; exact h3.2.2
theorem perm_move {F : List Fl} (hn : (F.map Fl.s).Nodup) {f : Fl} (hf : f ∈ F) : F.Perm ((F.filter fun g => decide (g.s ≠ f.s)) ++ [f]) := by
  obtain ⟨a, b, rfl⟩ := List.append_of_mem hf
  have h1 : ∀ g ∈ a ++ b, g.s ≠ f.s := fun g hg e => by
    rw [List.map_append, List.map_cons, List.nodup_append, List.nodup_cons] at hn
    rcases List.mem_append.1 hg with hg | hg
    · exact hn.2.2 g.s (List.mem_map.2 ⟨g, hg, rfl⟩) f.s List.mem_cons_self e
    · exact hn.2.1.1 (e ▸ List.mem_map.2 ⟨g, hg, rfl⟩)
  have h2 : (a ++ f :: b).filter (fun g => decide (g.s ≠ f.s)) = a ++ b := by
    rw [List.filter_append, List.filter_cons, if_neg (by simp)]
    rw [← List.filter_append, List.filter_eq_self]
    intro g hg; exact decide_eq_true (h1 g hg)
  rw [h2, List.append_assoc]
  refine List.Perm.append_left a ?_
  exact (List.perm_append_singleton f b).symm
theorem TF.move (h : TF S n T) {f : Fl} (hf : f ∈ T.F) {i : Nat} (hi : i < n) : TF S n (T.move f i) := by
  have hp := perm_move h.nds hf
  have key : ∀ g, g ∈ (T.move f i).F → ∃ g' ∈ T.F, g'.s = g.s ∧ g'.u = g.u ∧ g'.k = g.k := fun g hg => by
    rcases List.mem_append.1 hg with hg | hg
    · exact ⟨g, (List.mem_filter.1 hg).1, rfl, rfl, rfl⟩
    · simp only [List.mem_singleton] at hg; subst hg; exact ⟨f, hf, rfl, rfl, rfl⟩
  refine ⟨h.ok, h.size, fun s' u' => ?_, ?_, ?_, ?_, ?_⟩
  · rw [show (T.move f i).A = T.A from rfl, h.at' s' u']
    constructor
    · rintro ⟨g, hg, h1, h2⟩
      rcases List.mem_append.1 (hp.mem_iff.1 hg) with h3 | h3
      · exact ⟨g, List.mem_append.2 (.inl h3), h1, h2⟩
      · simp only [List.mem_singleton] at h3; subst h3
        exact ⟨_, List.mem_append.2 (.inr List.mem_cons_self), h1, h2⟩
    · rintro ⟨g, hg, h1, h2⟩
      obtain ⟨g', hg', e1, e2, _⟩ := key g hg
      exact ⟨g', hg', by omega, by rw [e2, h2]⟩
  · have h1 : ((T.move f i).F.map Fl.s) = ((T.F.filter fun g : Fl => decide (g.s ≠ f.s)) ++ [f]).map Fl.s := by simp [Tb.move]
    rw [h1]
    exact (hp.map Fl.s).nodup_iff.1 h.nds
  · intro g hg
    obtain ⟨g', hg', _, _, e⟩ := key g hg
    rw [← e]; exact h.wf g' hg'
  · intro g hg
    rcases List.mem_append.1 hg with hg | hg
    · exact h.lt g (List.mem_filter.1 hg).1
    · simp only [List.mem_singleton] at hg; subst hg; exact hi
  · show ((T.F.filter fun g : Fl => decide (g.s ≠ f.s)) ++ [({ f with i := i } : Fl)]).Pairwise _
    rw [List.pairwise_append]
    refine ⟨h.apart.sublist List.filter_sublist, by simp, fun a ha b hb => ?_⟩
    simp only [List.mem_singleton] at hb; subst hb
    obtain ⟨ha1, ha2⟩ := List.mem_filter.1 ha
    have ha3 := of_decide_eq_true ha2
    refine ⟨fun e => ha3 ?_, fun e => ha3 ?_⟩
    · exact congrArg Fl.s (h.far ha1 hf (.inl e))
    · exact congrArg Fl.s (h.far ha1 hf (.inr e))
end
end Go.Proofs.YtkhdejjompbklaaGreat.Sx
namespace Go.Proofs.YtkhdejjompbklaaGreat.Sx
open Go
set_option linter.unusedVariables false
set_option linter.unusedSimpArgs false
section
variable {S n : Nat} {T : Tb}
theorem TF.len (h : TF S n T) : T.F.length ≤ S := by
  have h1 := nodup_len (n := S) h.nds fun x hx => by
    obtain ⟨f, hf, rfl⟩ := List.mem_map.1 hx
    exact (h.slot hf).1
  rwa [List.length_map] at h1
theorem TF.room (h : TF S n T) {s : Nat} (hs : s ∈ T.A.free) : T.F.length < S := by
  obtain ⟨h1, h2⟩ := h.free hs
  have h3 := nodup_len (n := S) (l := s :: T.F.map Fl.s) (by
    rw [List.nodup_cons]
    exact ⟨fun hm => by obtain ⟨f, hf, e⟩ := List.mem_map.1 hm; exact h2 f hf e, h.nds⟩) fun x hx => by
    rcases List.mem_cons.1 hx with rfl | hx
    · exact h1
    · obtain ⟨f, hf, rfl⟩ := List.mem_map.1 hx
      exact (h.slot hf).1
  rw [List.length_cons, List.length_map] at h3
  exact h3
theorem cnt_eq : ∀ (bs : List Bool), cnt bs = (((List.range bs.length).filter fun i => decide (bs[i]? = some true)).length : Int)
  | [] => rfl
  | b :: bs => by
    have ih := cnt_eq bs
    rw [cnt, ih, List.length_cons, List.range_succ_eq_map, List.filter_cons, List.filter_map]
    have e : ((fun i => decide ((b :: bs)[i]? = some true)) ∘ Nat.succ) = fun i => decide (bs[i]? = some true) := by
      funext i; simp
    rw [e]
    cases b <;> simp <;> omega
theorem TF.cnt (h : TF S n T) : Sx.cnt T.A.tk = (T.F.length : Int) := by
  rw [cnt_eq]
  congr 1
  have hl := h.ok.len
  have hs := h.size
  have e1 : ∀ x, x ∈ (List.range T.A.tk.length).filter (fun i => decide (T.A.tk[i]? = some true)) ↔ x ∈ T.F.map Fl.s := fun x => by
    rw [List.mem_filter, List.mem_range, List.mem_map, decide_eq_true_iff]
    constructor
    · rintro ⟨_, h1⟩; obtain ⟨f, hf, e⟩ := h.flow h1; exact ⟨f, hf, e⟩
    · rintro ⟨f, hf, rfl⟩
      have := h.slot hf
      exact ⟨by omega, this.2.1⟩
  have h1 := nodup_le2 (l2 := T.F.map Fl.s) ((List.nodup_range (n := T.A.tk.length)).filter (fun i => decide (T.A.tk[i]? = some true))) fun x hx => (e1 x).1 hx
  have h2 := nodup_le2 (l2 := (List.range T.A.tk.length).filter fun i => decide (T.A.tk[i]? = some true)) h.nds fun x hx => (e1 x).2 hx
  rw [List.length_map] at h1 h2
  omega
variable {K1 K2 : List (Ky × Int)} {L : Nat → List Nat} {ky : List Ky}
theorem TI.g1 (h : TI S n T K1 K2 L ky) : Good K1 := h.tf.own.perm h.p1
theorem TI.g2 (h : TI S n T K1 K2 L ky) : Good K2 := h.tf.bak.perm h.p2
theorem TI.l1 (h : TI S n T K1 K2 L ky) : K1.length = T.F.length := by rw [h.p1.length_eq, List.length_map]
theorem TI.l2 (h : TI S n T K1 K2 L ky) : K2.length = T.F.length := by rw [h.p2.length_eq, List.length_map]
theorem TI.no1 (h : TI S n T K1 K2 L ky) {k : Ky} (hn : fndK T.F k = none) : ¬ has K1 k := fun hh => by
  obtain ⟨f, hf, e⟩ := own_has.1 ((has_perm h.p1).1 hh)
  exact (fndK_none.1 hn f hf).1 e
theorem TI.no2 (h : TI S n T K1 K2 L ky) {k : Ky} (hn : fndK T.F k = none) : ¬ has K2 (trn k) := fun hh => by
  obtain ⟨f, hf, e⟩ := bak_has.1 ((has_perm h.p2).1 hh)
  exact (fndK_none.1 hn f hf).1 (trn_inj e)
theorem TI.inL (h : TI S n T K1 K2 L ky) {i s : Nat} (hi : i < n) : s ∈ L i ↔ ∃ f ∈ T.F, f.i = i ∧ f.s = s := by
  rw [h.ls i hi, List.mem_map]
  constructor
  · rintro ⟨f, hf, e⟩
    obtain ⟨h1, h2⟩ := List.mem_filter.1 hf
    exact ⟨f, h1, of_decide_eq_true h2, e⟩
  · rintro ⟨f, hf, h1, e⟩
    exact ⟨f, List.mem_filter.2 ⟨hf, decide_eq_true h1⟩, e⟩
theorem TI.ofL (h : TI S n T K1 K2 L ky) (hw : WL S n L) {f : Fl} (hf : f ∈ T.F) : Sx.ofL n L f.s = some f.i := hw.ofL (h.tf.lt f hf) ((h.inL (h.tf.lt f hf)).2 ⟨f, hf, rfl, rfl⟩)
theorem TI.ofNo (h : TI S n T K1 K2 L ky) {s : Nat} (hs : ∀ f ∈ T.F, f.s ≠ s) : Sx.ofL n L s = none := ofL_none.2 fun i hi hm => by
  obtain ⟨f, hf, _, e⟩ := (h.inL hi).1 hm
  exact hs f hf e
theorem erase_map {l : List Fl} (hn : (l.map Fl.s).Nodup) (x : Nat) : (l.map Fl.s).erase x = (l.filter fun g => decide (g.s ≠ x)).map Fl.s := by
  rw [hn.erase_eq_filter, List.filter_map]
  congr 1
  refine List.filter_congr fun g _ => ?_
  by_cases e : g.s = x <;> simp [e]
theorem nds_filter {F : List Fl} (h : (F.map Fl.s).Nodup) (p : Fl → Bool) : ((F.filter p).map Fl.s).Nodup := h.sublist (List.filter_sublist.map _)
theorem TI.lsOut (h : TI S n T K1 K2 L ky) {f : Fl} (hf : f ∈ T.F) {i : Nat} (hi : i < n) : upd L f.i ((L f.i).erase f.s) i = ((T.F.filter fun g => decide (g.s ≠ f.s)).filter fun g => decide (g.i = i)).map Fl.s := by
  have hc : (T.F.filter fun g => decide (g.s ≠ f.s)).filter (fun g => decide (g.i = i)) = (T.F.filter fun g => decide (g.i = i)).filter (fun g => decide (g.s ≠ f.s)) := by
    rw [List.filter_filter, List.filter_filter]
    refine List.filter_congr fun g _ => ?_
    rw [Bool.and_comm]
  rw [hc, ← erase_map (nds_filter h.tf.nds _)]
  by_cases e : i = f.i
  · subst e
    rw [upd_eq, h.ls _ hi]
  · rw [upd_ne e, h.ls i hi, List.erase_of_not_mem]
    intro hm
    obtain ⟨g, hg, e2⟩ := List.mem_map.1 hm
    obtain ⟨h1, h2⟩ := List.mem_filter.1 hg
    have := h.tf.one h1 hf e2
    subst this
    exact e (of_decide_eq_true h2).symm
theorem TI.add (h : TI S n T K1 K2 L ky) (hS : S ≤ 4096) {s : Nat} {fs : List Nat} {k : Ky} {i : Nat} (e : T.A.free = s :: fs) (hk : WfK k) (hi : i < n) (hn : fndK T.F k = none) :
    TI S n { F := T.F ++ [⟨s, T.A.turn[s]?.getD 0, k, i⟩], A := T.A.take } (putK K1 k (s : Int) (S : Int)) (putK K2 (trn k) (s : Int) (S : Int)) (addS S n L 1 (i : Int) (s : Int)) (ky.set s k) := by
  have hsf : s ∈ T.A.free := by rw [e]; exact List.mem_cons_self
  obtain ⟨hs, hne⟩ := h.tf.free hsf
  have hr := h.tf.room hsf
  have hl := h.len
  refine ⟨h.tf.add e hk hi hn, by rw [List.length_set]; exact hl, fun f hf => ?_, ?_, ?_, fun j hj => ?_⟩
  · rcases List.mem_append.1 hf with hf | hf
    · rw [List.getElem?_set_ne (fun e2 => hne f hf e2.symm)]; exact h.key f hf
    · simp only [List.mem_singleton] at hf; subst hf
      exact List.getElem?_set_self (by omega)
  · rw [putK_new (h.no1 hn) (by rw [h.l1]; omega)]
    show (K1 ++ [(k, (s : Int))]).Perm (List.map _ (T.F ++ [_]))
    rw [List.map_append]
    exact h.p1.append_right _
  · rw [putK_new (h.no2 hn) (by rw [h.l2]; omega)]
    show (K2 ++ [(trn k, (s : Int))]).Perm (List.map _ (T.F ++ [_]))
    rw [List.map_append]
    exact h.p2.append_right _
  · rw [addS_new hi hs (h.ofNo hne), List.filter_append, List.map_append, List.filter_cons, List.filter_nil, ← h.ls j hj]
    by_cases hij : i = j
    · subst hij
      rw [upd_eq, if_pos (decide_eq_true rfl)]; rfl
    · rw [upd_ne (fun e2 => hij e2.symm), if_neg (by simpa using hij)]; simp
theorem out_own {F : List Fl} {f : Fl} {g : Fl → Ky} (hinj : ∀ a ∈ F, g a = g f → a.s = f.s) (hinj2 : ∀ a ∈ F, a.s = f.s → g a = g f) : outK (F.map fun a => (g a, (a.s : Int))) (g f) = (F.filter fun a => decide (a.s ≠ f.s)).map fun a => (g a, (a.s : Int)) := by
  unfold outK
  rw [List.filter_map]
  congr 1
  refine List.filter_congr fun a ha => ?_
  by_cases e : a.s = f.s
  · have := hinj2 a ha e
    simp [e, this]
  · have : ¬ g a = g f := fun e2 => e (hinj a ha e2)
    simp [e, this]
theorem TI.out (h : TI S n T K1 K2 L ky) {f : Fl} (hf : f ∈ T.F) (hw : WL S n L) : TI S n (T.out f.s) (outK K1 f.k) (outK K2 (trn f.k)) (outS S n L (f.s : Int)) ky := by
  have hs := (h.tf.slot hf).1
  refine ⟨h.tf.out hf, h.len, fun g hg => h.key g (List.mem_filter.1 hg).1, ?_, ?_, fun j hj => ?_⟩
  · have h1 : (outK K1 f.k).Perm (outK (ownK T.F) f.k) := h.p1.filter _
    rw [out_own (g := fun a => a.k) (fun a ha e => congrArg Fl.s (h.tf.far ha hf (.inl e))) (fun a ha e => congrArg Fl.k (h.tf.one ha hf e))] at h1
    exact h1
  · have h1 : (outK K2 (trn f.k)).Perm (outK (bakK T.F) (trn f.k)) := h.p2.filter _
    rw [out_own (g := fun a => trn a.k) (fun a ha e => congrArg Fl.s (h.tf.far ha hf (.inl (trn_inj e)))) (fun a ha e => congrArg (fun x => trn x.k) (h.tf.one ha hf e))] at h1
    exact h1
  · rw [outS_has hs (h.ofL hw hf)]
    exact h.lsOut hf hj
theorem TI.move (h : TI S n T K1 K2 L ky) {f : Fl} (hf : f ∈ T.F) (hw : WL S n L) {i : Nat} (hi : i < n) :
    addE S n (outS S n L (f.s : Int)) (i : Int) (f.s : Int) = 0 ∧ TI S n (T.move f i) K1 K2 (addS S n (outS S n L (f.s : Int)) 1 (i : Int) (f.s : Int)) ky := by
  have hs := (h.tf.slot hf).1
  have hp := perm_move h.tf.nds hf
  rw [outS_has hs (h.ofL hw hf)]
  have hno : Sx.ofL n (upd L f.i ((L f.i).erase f.s)) f.s = none := ofL_none.2 fun j hj hm => by
    rw [h.lsOut hf hj] at hm
    obtain ⟨g, hg, e⟩ := List.mem_map.1 hm
    exact of_decide_eq_true (List.mem_filter.1 (List.mem_filter.1 hg).1).2 e
  refine ⟨addE_new hi hs hno, h.tf.move hf hi, h.len, fun g hg => ?_, ?_, ?_, fun j hj => ?_⟩
  · rcases List.mem_append.1 hg with hg | hg
    · exact h.key g (List.mem_filter.1 hg).1
    · simp only [List.mem_singleton] at hg; subst hg; exact h.key f hf
  · refine h.p1.trans ?_
    have := hp.map (fun a : Fl => (a.k, (a.s : Int)))
    simpa [Tb.move] using this
  · refine h.p2.trans ?_
    have := hp.map (fun a : Fl => (trn a.k, (a.s : Int)))
    simpa [Tb.move] using this
  · rw [addS_new hi hs hno]
    show _ = (((T.F.filter fun g : Fl => decide (g.s ≠ f.s)) ++ [({ f with i := i } : Fl)]).filter fun g => decide (g.i = j)).map Fl.s
    rw [List.filter_append, List.map_append, List.filter_cons, List.filter_nil, ← h.lsOut hf hj]
    by_cases hij : i = j
    · subst hij
      rw [upd_eq, if_pos (decide_eq_true rfl)]; rfl
    · rw [upd_ne (fun e2 => hij e2.symm), if_neg (by simpa using hij)]; simp
end
end Go.Proofs.YtkhdejjompbklaaGreat.Sx
namespace Go.Proofs.YtkhdejjompbklaaGreat.Sx
open Go
set_option linter.unusedVariables false
set_option linter.unusedSimpArgs false
section
variable {S n : Nat} {T : Tb} {K1 K2 : List (Ky × Int)} {L : Nat → List Nat} {ky : List Ky}
def inF (F : List Fl) (i : Int) : List Fl := F.filter fun f => decide ((f.i : Int) = i)
theorem inF_nat (F : List Fl) (i : Nat) : inF F (i : Int) = F.filter fun f => decide (f.i = i) := by
  unfold inF
  refine List.filter_congr fun f _ => ?_
  by_cases e : f.i = i
  · simp [e]
  · have : ¬ ((f.i : Int) = (i : Int)) := by omega
    simp [e, this]
theorem TF.inOff (h : TF S n T) {i : Int} (hi : ¬ (0 ≤ i ∧ i < n)) : inF T.F i = [] := by
  unfold inF
  rw [List.filter_eq_nil_iff]
  intro f hf
  have := h.lt f hf
  simp only [decide_eq_true_eq]
  omega
theorem TI.all (h : TI S n T K1 K2 L ky) (i : Int) : allS n L i = (inF T.F i).map Fl.s := by
  unfold allS
  by_cases hi : 0 ≤ i ∧ i < n
  · rw [if_pos hi]
    obtain ⟨j, rfl⟩ : ∃ j : Nat, i = j := ⟨i.toNat, by omega⟩
    rw [Int.toNat_natCast, h.ls j (by omega), inF_nat]
  · rw [if_neg hi, h.tf.inOff hi]; rfl
theorem TI.fst (h : TI S n T K1 K2 L ky) (i : Int) : endS n L 0 i = (inF T.F i).head?.map Fl.s := by
  unfold endS
  by_cases hi : 0 ≤ i ∧ i < n
  · rw [if_pos hi]
    obtain ⟨j, rfl⟩ : ∃ j : Nat, i = j := ⟨i.toNat, by omega⟩
    rw [Int.toNat_natCast, show dirL 0 (L j) = L j from rfl, h.ls j (by omega), inF_nat, List.head?_map]
  · rw [if_neg hi, h.tf.inOff hi]; rfl
abbrev hd2 (f : Fl) : Int × Int := ((f.s : Int), f.u)
theorem TI.srt (h : TI S n T K1 K2 L ky) : undK' K1 (0, 0, 0, 0, 0) 0 = Sx.srt (ownK T.F) := und_perm h.tf.own h.p1 _ _
theorem Ar.top_eq {A : Ar} {s : Nat} {fs : List Nat} (e : A.free = s :: fs) : A.top = ((s : Int), A.turn[s]?.getD 0, 0) := by unfold Ar.top; split <;> simp_all
end
end Go.Proofs.YtkhdejjompbklaaGreat.Sx
