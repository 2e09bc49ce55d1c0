/-
  My plain texts put together into one module.
-/
import Derived.Test.YthhndmlfgjcgpaaZPe
import Derived.Test.YthhndmlfgjcgpaaZPl
namespace Go.Proofs.Ythhndmlfgjcgpaa.Sx
open Go
set_option linter.unusedVariables false
set_option linter.unusedSimpArgs false
def trn (k : Ky) : Ky := (k.1, k.2.2.1, k.2.1, k.2.2.2.2, k.2.2.2.1)
theorem trn_trn (k : Ky) : trn (trn k) = k := rfl
theorem trn_inj {a b : Ky} (h : trn a = trn b) : a = b := by rw [← trn_trn a, h, trn_trn]
theorem trn_eq {a b : Ky} : trn a = b ↔ a = trn b := ⟨fun h => by rw [← h]; rfl, fun h => by rw [h]; rfl⟩
theorem trn_wf {k : Ky} (h : WfK k) : WfK (trn k) := ⟨h.p, h.d, h.s, h.b, h.a⟩
structure Fl where
  s : Nat
  u : Int
  k : Ky
  i : Nat
structure Tb where
  F : List Fl
  A : Ar
abbrev ownK (F : List Fl) : List (Ky × Int) := F.map fun f => (f.k, (f.s : Int))
abbrev bakK (F : List Fl) : List (Ky × Int) := F.map fun f => (trn f.k, (f.s : Int))
structure TF (S n : Nat) (T : Tb) : Prop where
  ok : AOk T.A
  size : T.A.turn.length = S
  at' : ∀ s u, T.A.at s = some u ↔ ∃ f ∈ T.F, (f.s : Int) = s ∧ f.u = u
  nds : (T.F.map Fl.s).Nodup
  wf : ∀ f ∈ T.F, WfK f.k
  lt : ∀ f ∈ T.F, f.i < n
  apart : T.F.Pairwise fun f g => f.k ≠ g.k ∧ trn f.k ≠ g.k
structure TI (S n : Nat) (T : Tb) (K1 K2 : List (Ky × Int)) (L : Nat → List Nat) (ky : List Ky) : Prop where
  tf : TF S n T
  len : ky.length = S
  key : ∀ f ∈ T.F, ky[f.s]? = some f.k
  p1 : K1.Perm (ownK T.F)
  p2 : K2.Perm (bakK T.F)
  ls : ∀ i, i < n → L i = (T.F.filter fun f => decide (f.i = i)).map Fl.s
section
variable {S n : Nat} {T : Tb}
theorem at_tk {A : Ar} {s u : Int} : A.at s = some u ↔ 0 ≤ s ∧ A.tk[s.toNat]? = some true ∧ A.turn[s.toNat]?.getD 0 = u := by
  unfold Ar.at
  split
  · rename_i h; simp [h.1, h.2]
  · rename_i h
    constructor
    · intro e; cases e
    · rintro ⟨a, b, _⟩; exact absurd ⟨a, b⟩ h
theorem TF.slot (h : TF S n T) {f : Fl} (hf : f ∈ T.F) : f.s < S ∧ T.A.tk[f.s]? = some true ∧ T.A.turn[f.s]? = some f.u := by
  have h1 := at_tk.1 ((h.at' f.s f.u).2 ⟨f, hf, rfl, rfl⟩)
  rw [Int.toNat_natCast] at h1
  have h2 := (List.getElem?_eq_some_iff.1 h1.2.1).1
  have h3 := h.ok.len
  have h4 := h.size
  refine ⟨by omega, h1.2.1, ?_⟩
  have h5 := h1.2.2
  rw [List.getElem?_eq_getElem (by omega)] at h5 ⊢
  exact congrArg some h5
theorem TF.flow (h : TF S n T) {s : Nat} (ht : T.A.tk[s]? = some true) : ∃ f ∈ T.F, f.s = s := by
  obtain ⟨f, hf, h1, _⟩ := (h.at' (s : Int) (T.A.turn[s]?.getD 0)).1 (at_tk.2 ⟨by omega, by rw [Int.toNat_natCast]; exact ht, by rw [Int.toNat_natCast]⟩)
  exact ⟨f, hf, by omega⟩
theorem nodup_map_inj {α β : Type} {g : α → β} : ∀ {l : List α}, (l.map g).Nodup → ∀ {a b : α}, a ∈ l → b ∈ l → g a = g b → a = b
  | [], _, _, _, h, _, _ => by simp at h
  | x :: t, hn, a, b, ha, hb, e => by
    rw [List.map_cons, List.nodup_cons] at hn
    rcases List.mem_cons.1 ha with h1 | h1 <;> rcases List.mem_cons.1 hb with h2 | h2
    · rw [h1, h2]
    · exact absurd (List.mem_map.2 ⟨b, h2, by rw [← e, h1]⟩) hn.1
    · exact absurd (List.mem_map.2 ⟨a, h1, by rw [e, h2]⟩) hn.1
    · exact nodup_map_inj hn.2 h1 h2 e
theorem TF.one (h : TF S n T) {f g : Fl} (hf : f ∈ T.F) (hg : g ∈ T.F) (e : f.s = g.s) : f = g := nodup_map_inj h.nds hf hg e
theorem pw_ne {α : Type} {R : α → α → Prop} : ∀ {l : List α}, l.Pairwise R → ∀ {a b : α}, a ∈ l → b ∈ l → a ≠ b → R a b ∨ R b a
  | [], _, _, _, h, _, _ => by simp at h
  | x :: t, hp, a, b, ha, hb, e => by
    rw [List.pairwise_cons] at hp
    rcases List.mem_cons.1 ha with h1 | h1 <;> rcases List.mem_cons.1 hb with h2 | h2
    · exact absurd (h1.trans h2.symm) e
    · exact .inl (h1 ▸ hp.1 b h2)
    · exact .inr (h2 ▸ hp.1 a h1)
    · exact pw_ne hp.2 h1 h2 e
theorem TF.far (h : TF S n T) {f g : Fl} (hf : f ∈ T.F) (hg : g ∈ T.F) (e : f.k = g.k ∨ trn f.k = g.k) : f = g := by
  rcases Classical.em (f = g) with h1 | h1
  · exact h1
  · exfalso
    rcases pw_ne h.apart hf hg h1 with h2 | h2
    · rcases e with e | e
      · exact h2.1 e
      · exact h2.2 e
    · rcases e with e | e
      · exact h2.1 e.symm
      · exact h2.2 (trn_eq.2 e.symm)
theorem nodup_of_inj {α β : Type} {g : α → β} : ∀ {l : List α}, l.Nodup → (∀ a ∈ l, ∀ b ∈ l, g a = g b → a = b) → (l.map g).Nodup
  | [], _, _ => by simp
  | x :: t, hn, h => by
    rw [List.nodup_cons] at hn
    rw [List.map_cons, List.nodup_cons]
    refine ⟨fun hm => ?_, nodup_of_inj hn.2 fun a ha b hb => h a (List.mem_cons_of_mem _ ha) b (List.mem_cons_of_mem _ hb)⟩
    obtain ⟨y, hy, e⟩ := List.mem_map.1 hm
    have := h y (List.mem_cons_of_mem _ hy) x List.mem_cons_self e
    subst this
    exact hn.1 hy
theorem TF.nd (h : TF S n T) : T.F.Nodup := by
  have := h.nds
  rw [List.Nodup, List.pairwise_map] at this
  exact this.imp fun h e => h (by rw [e])
theorem TF.own (h : TF S n T) : Good (ownK T.F) := by
  refine ⟨fun e he => ?_, ?_⟩
  · obtain ⟨f, hf, rfl⟩ := List.mem_map.1 he
    exact h.wf f hf
  · rw [List.map_map]
    exact nodup_of_inj h.nd fun a ha b hb e => h.far ha hb (.inl e)
theorem TF.bak (h : TF S n T) : Good (bakK T.F) := by
  refine ⟨fun e he => ?_, ?_⟩
  · obtain ⟨f, hf, rfl⟩ := List.mem_map.1 he
    exact trn_wf (h.wf f hf)
  · rw [List.map_map]
    exact nodup_of_inj h.nd fun a ha b hb e => h.far ha hb (.inl (trn_inj e))
theorem Good.perm {K M : List (Ky × Int)} (h : Good M) (p : K.Perm M) : Good K := ⟨fun e he => h.wf e (p.mem_iff.1 he), (p.map Prod.fst).nodup_iff.2 h.nd⟩
theorem has_perm {K M : List (Ky × Int)} (p : K.Perm M) {k : Ky} : has K k ↔ has M k := ⟨fun ⟨e, he, h⟩ => ⟨e, p.mem_iff.1 he, h⟩, fun ⟨e, he, h⟩ => ⟨e, p.mem_iff.2 he, h⟩⟩
theorem findV_mem {K : List (Ky × Int)} (h : Good K) {k : Ky} {x : Int} : findV K k = some x ↔ (k, x) ∈ K := by
  unfold findV
  constructor
  · intro e
    obtain ⟨a, ha, hx⟩ := Option.map_eq_some_iff.1 e
    have h1 := List.find?_some ha
    have h2 := List.mem_of_find?_eq_some ha
    have h3 : a.1 = k := by simpa using h1
    have : a = (k, x) := by rw [← h3, ← hx]
    rw [← this]; exact h2
  · intro hm
    cases hf : K.find? (fun e => e.1 == k) with
    | none => exact absurd (List.find?_eq_none.1 hf (k, x) hm) (by simp)
    | some a =>
      have h1 := List.find?_some hf
      have h2 := List.mem_of_find?_eq_some hf
      have h3 : a.1 = k := by simpa using h1
      have := nodup_map_inj h.nd h2 hm h3
      rw [this]; rfl
theorem findV_perm {K M : List (Ky × Int)} (h : Good M) (p : K.Perm M) (k : Ky) : findV K k = findV M k := by
  cases hv : findV M k with
  | none =>
    refine findV_no fun hh => ?_
    obtain ⟨e, he, h9⟩ := (has_perm p).1 hh
    have := (findV_mem h (k := k) (x := e.2)).2 (by rw [← h9]; exact he)
    rw [hv] at this; cases this
  | some x => exact (findV_mem (h.perm p)).2 (p.mem_iff.2 ((findV_mem h).1 hv))
theorem und_perm {K M : List (Ky × Int)} (h : Good M) (p : K.Perm M) (k : Ky) (n : Int) : undK' K k n = undK' M k n := undK_same (h.perm p).wf h.wf fun y => has_perm p
theorem cK_perm {K M : List (Ky × Int)} (p : K.Perm M) (q : List Int) : cK K q = cK M q := p.countP_eq _
def fndK (F : List Fl) (k : Ky) : Option Fl := F.find? fun f => decide (f.k = k ∨ trn f.k = k)
theorem fndK_mem (h : TF S n T) {f : Fl} {k : Ky} : fndK T.F k = some f ↔ f ∈ T.F ∧ (f.k = k ∨ trn f.k = k) := by
  constructor
  · intro e
    exact ⟨List.mem_of_find?_eq_some e, of_decide_eq_true (List.find?_some (p := fun f : Fl => decide (f.k = k ∨ trn f.k = k)) e)⟩
  · rintro ⟨hf, hk⟩
    cases hv : fndK T.F k with
    | none => exact absurd (decide_eq_true hk) (List.find?_eq_none.1 hv f hf)
    | some g =>
      have hg := List.mem_of_find?_eq_some hv
      have hgk : g.k = k ∨ trn g.k = k := of_decide_eq_true (List.find?_some (p := fun f : Fl => decide (f.k = k ∨ trn f.k = k)) hv)
      congr 1
      refine h.far hg hf ?_
      rcases hgk with h1 | h1 <;> rcases hk with h2 | h2
      · exact .inl (h1.trans h2.symm)
      · exact .inr (by rw [h1, ← h2]; rfl)
      · exact .inr (h1.trans h2.symm)
      · exact .inl (trn_inj (h1.trans h2.symm))
theorem fndK_none {F : List Fl} {k : Ky} : fndK F k = none ↔ ∀ f ∈ F, f.k ≠ k ∧ trn f.k ≠ k := by
  unfold fndK
  rw [List.find?_eq_none]
  constructor
  · intro h f hf; have := h f hf; simpa using this
  · intro h f hf; simpa using h f hf
theorem own_has {F : List Fl} {k : Ky} : has (ownK F) k ↔ ∃ f ∈ F, f.k = k := by
  constructor
  · rintro ⟨e, he, h⟩
    obtain ⟨f, hf, rfl⟩ := List.mem_map.1 he
    exact ⟨f, hf, h⟩
  · rintro ⟨f, hf, h⟩
    exact ⟨_, List.mem_map.2 ⟨f, hf, rfl⟩, h⟩
theorem bak_has {F : List Fl} {k : Ky} : has (bakK F) k ↔ ∃ f ∈ F, trn f.k = k := by
  constructor
  · rintro ⟨e, he, h⟩
    obtain ⟨f, hf, rfl⟩ := List.mem_map.1 he
    exact ⟨f, hf, h⟩
  · rintro ⟨f, hf, h⟩
    exact ⟨_, List.mem_map.2 ⟨f, hf, rfl⟩, h⟩
theorem own_find (h : TF S n T) {f : Fl} (hf : f ∈ T.F) : findV (ownK T.F) f.k = some (f.s : Int) := (findV_mem h.own).2 (List.mem_map.2 ⟨f, hf, rfl⟩)
theorem bak_find (h : TF S n T) {f : Fl} (hf : f ∈ T.F) : findV (bakK T.F) (trn f.k) = some (f.s : Int) := (findV_mem h.bak).2 (List.mem_map.2 ⟨f, hf, rfl⟩)
def getF (F : List Fl) (s u : Int) : Option Fl := F.find? fun f => decide ((f.s : Int) = s ∧ f.u = u)
theorem getF_mem (h : TF S n T) {f : Fl} {s u : Int} : getF T.F s u = some f ↔ f ∈ T.F ∧ (f.s : Int) = s ∧ f.u = u := by
  constructor
  · intro e
    exact ⟨List.mem_of_find?_eq_some e, of_decide_eq_true (List.find?_some (p := fun f : Fl => decide ((f.s : Int) = s ∧ f.u = u)) e)⟩
  · rintro ⟨hf, hk⟩
    cases hv : getF T.F s u with
    | none => exact absurd (decide_eq_true hk) (List.find?_eq_none.1 hv f hf)
    | some g =>
      have hg := List.mem_of_find?_eq_some hv
      have hgk : (g.s : Int) = s ∧ g.u = u := of_decide_eq_true (List.find?_some (p := fun f : Fl => decide ((f.s : Int) = s ∧ f.u = u)) hv)
      congr 1
      exact h.one hg hf (by omega)
theorem getF_at (h : TF S n T) {s u : Int} : (getF T.F s u).isSome = true ↔ T.A.at s = some u := by
  rw [h.at' s u]
  constructor
  · intro e
    obtain ⟨f, hf⟩ := Option.isSome_iff_exists.1 e
    exact ⟨f, (getF_mem h).1 hf⟩
  · rintro ⟨f, hf⟩
    rw [(getF_mem h).2 hf]; rfl
def addT (T : Tb) (k : Ky) (i : Nat) : Tb :=
  match T.A.free with
  | [] => T
  | s :: _ => { F := T.F ++ [⟨s, T.A.turn[s]?.getD 0, k, i⟩], A := T.A.take }
abbrev Tb.out (T : Tb) (s : Nat) : Tb := { F := T.F.filter fun f => decide (f.s ≠ s), A := T.A.give s }
abbrev Tb.move (T : Tb) (f : Fl) (i : Nat) : Tb := { F := (T.F.filter fun g => decide (g.s ≠ f.s)) ++ [{ f with i := i }], A := T.A }
theorem AOk.take {A : Ar} (h : AOk A) {i : Nat} {fs : List Nat} (e : A.free = i :: fs) : AOk A.take := by
  have hnd := h.nodup
  rw [e, List.nodup_cons] at hnd
  have hi : i < A.tk.length := (List.getElem?_eq_some_iff.1 ((h.free i).1 (by rw [e]; exact List.mem_cons_self))).1
  have hf : A.take.free = fs := by simp [Ar.take, e]
  have ht : A.take.tk = A.tk.set i true := by simp [Ar.take, e]
  have hu : A.take.turn = A.turn := by simp [Ar.take, e]
  refine ⟨?_, by rw [hu]; exact h.pos, by rw [hf]; exact hnd.2, ?_⟩
  · rw [ht, hu, List.length_set]; exact h.len
  · intro j
    rw [hf, ht]
    by_cases hij : i = j
    · subst hij
      rw [List.getElem?_set_self hi]
      constructor
      · intro h'; exact absurd h' hnd.1
      · intro h'; simp at h'
    · rw [List.getElem?_set_ne hij, ← h.free j, e, List.mem_cons]
      constructor
      · intro h'; exact .inr h'
      · rintro (h' | h')
        · exact absurd h'.symm hij
        · exact h'
theorem AOk.give {A : Ar} (h : AOk A) {i : Nat} (ht : A.tk[i]? = some true) : AOk (A.give i) := by
  have hi : i < A.tk.length := (List.getElem?_eq_some_iff.1 ht).1
  have hni : i ∉ A.free := fun hm => by rw [h.free i, ht] at hm; simp at hm
  refine ⟨?_, ?_, ?_, ?_⟩
  · simp [Ar.give, h.len]
  · simp [Ar.give, h.pos]
  · simp only [Ar.give, List.nodup_cons]; exact ⟨hni, h.nodup⟩
  · intro j
    simp only [Ar.give, List.mem_cons]
    by_cases hij : i = j
    · subst hij; rw [List.getElem?_set_self hi]; simp
    · rw [List.getElem?_set_ne hij, ← h.free j]
      constructor
      · rintro (h' | h')
        · exact absurd h'.symm hij
        · exact h'
      · intro h'; exact .inr h'
theorem TF.free (h : TF S n T) {s : Nat} (hs : s ∈ T.A.free) : s < S ∧ ∀ f ∈ T.F, f.s ≠ s := by
  have h1 := (h.ok.free s).1 hs
  have h2 := (List.getElem?_eq_some_iff.1 h1).1
  have h3 := h.ok.len
  have h4 := h.size
  refine ⟨by omega, fun f hf e => ?_⟩
  have := (h.slot hf).2.1
  rw [e, h1] at this; cases this
theorem TF.add (h : TF S n T) {s : Nat} {fs : List Nat} {k : Ky} {i : Nat} (e : T.A.free = s :: fs) (hk : WfK k) (hi : i < n) (hn : fndK T.F k = none) : TF S n { F := T.F ++ [⟨s, T.A.turn[s]?.getD 0, k, i⟩], A := T.A.take } := by
  obtain ⟨hs, hne⟩ := h.free (s := s) (by rw [e]; exact List.mem_cons_self)
  have hn' := fndK_none.1 hn
  have ht : T.A.take.tk = T.A.tk.set s true := by simp [Ar.take, e]
  have hu : T.A.take.turn = T.A.turn := by simp [Ar.take, e]
  have hl := h.ok.len
  have hsz := h.size
  refine ⟨h.ok.take e, by rw [hu]; exact hsz, fun s' u' => ?_, ?_, ?_, ?_, ?_⟩
  · rw [at_tk, ht, hu]
    constructor
    · rintro ⟨h1, h2, h3⟩
      by_cases hss : s = s'.toNat
      · exact ⟨_, List.mem_append.2 (.inr List.mem_cons_self), by dsimp only; omega, by dsimp only; rw [hss]; exact h3⟩
      · rw [List.getElem?_set_ne hss] at h2
        obtain ⟨f, hf, h4⟩ := (h.at' s' u').1 (at_tk.2 ⟨h1, h2, h3⟩)
        exact ⟨f, List.mem_append.2 (.inl hf), h4⟩
    · rintro ⟨f, hf, h1, h2⟩
      rcases List.mem_append.1 hf with hf | hf
      · have h3 := at_tk.1 ((h.at' s' u').2 ⟨f, hf, h1, h2⟩)
        refine ⟨h3.1, ?_, h3.2.2⟩
        rw [List.getElem?_set_ne (fun e2 => hne f hf (by omega))]; exact h3.2.1
      · simp only [List.mem_singleton] at hf; subst hf
        dsimp only at h1 h2
        subst h1
        rw [Int.toNat_natCast]
        exact ⟨by omega, List.getElem?_set_self (by omega), h2⟩
  · rw [List.map_append, List.nodup_append]
    refine ⟨h.nds, by simp, fun a ha b hb e2 => ?_⟩
    simp only [List.map_cons, List.map_nil, List.mem_singleton] at hb
    obtain ⟨f, hf, h9⟩ := List.mem_map.1 ha
    exact hne f hf (by omega)
  · intro f hf
    rcases List.mem_append.1 hf with hf | hf
    · exact h.wf f hf
    · simp only [List.mem_singleton] at hf; subst hf; exact hk
  · intro f hf
    rcases List.mem_append.1 hf with hf | hf
    · exact h.lt f hf
    · simp only [List.mem_singleton] at hf; subst hf; exact hi
  · rw [List.pairwise_append]
    refine ⟨h.apart, by simp, fun a ha b hb => ?_⟩
    simp only [List.mem_singleton] at hb; subst hb
    exact hn' a ha
theorem TF.out (h : TF S n T) {f : Fl} (hf : f ∈ T.F) : TF S n (T.out f.s) := by
  obtain ⟨hs, ht, hu⟩ := h.slot hf
  have hl := h.ok.len
  have hsz := h.size
  refine ⟨h.ok.give ht, by simp [Tb.out, Ar.give, hsz], fun s' u' => ?_, h.nds.sublist (List.filter_sublist.map _), fun g hg => h.wf g (List.mem_filter.1 hg).1, fun g hg => h.lt g (List.mem_filter.1 hg).1, h.apart.sublist List.filter_sublist⟩
  rw [at_tk]
  simp only [Tb.out, Ar.give]
  constructor
  · rintro ⟨h1, h2, h3⟩
    by_cases hss : f.s = s'.toNat
    · rw [← hss, List.getElem?_set_self (by omega)] at h2; cases h2
    · rw [List.getElem?_set_ne hss] at h2 h3
      obtain ⟨g, hg, h4⟩ := (h.at' s' u').1 (at_tk.2 ⟨h1, h2, h3⟩)
      exact ⟨g, List.mem_filter.2 ⟨hg, decide_eq_true (by omega)⟩, h4⟩
  · rintro ⟨g, hg, h1, h2⟩
    obtain ⟨hg1, hg2⟩ := List.mem_filter.1 hg
    have hg3 := of_decide_eq_true hg2
    have h3 := at_tk.1 ((h.at' s' u').2 ⟨g, hg1, h1, h2⟩)
    refine ⟨h3.1, ?_, ?_⟩
    · rw [List.getElem?_set_ne (by omega)]; exact h3.2.1
    · rw [List.getElem?_set_ne (by omega)]; exact h3.2.2
theorem perm_move {F : List Fl} (hn : (F.map Fl.s).Nodup) {f : Fl} (hf : f ∈ F) : F.Perm ((F.filter fun g => decide (g.s ≠ f.s)) ++ [f]) := by
  obtain ⟨a, b, rfl⟩ := List.append_of_mem hf
  have h1 : ∀ g ∈ a ++ b, g.s ≠ f.s := fun g hg e => by
    rw [List.map_append, List.map_cons, List.nodup_append, List.nodup_cons] at hn
    rcases List.mem_append.1 hg with hg | hg
    · exact hn.2.2 g.s (List.mem_map.2 ⟨g, hg, rfl⟩) f.s List.mem_cons_self e
    · exact hn.2.1.1 (e ▸ List.mem_map.2 ⟨g, hg, rfl⟩)
  have h2 : (a ++ f :: b).filter (fun g => decide (g.s ≠ f.s)) = a ++ b := by
    rw [List.filter_append, List.filter_cons, if_neg (by simp)]
    rw [← List.filter_append, List.filter_eq_self]
    intro g hg; exact decide_eq_true (h1 g hg)
  rw [h2, List.append_assoc]
  refine List.Perm.append_left a ?_
  exact (List.perm_append_singleton f b).symm
theorem TF.move (h : TF S n T) {f : Fl} (hf : f ∈ T.F) {i : Nat} (hi : i < n) : TF S n (T.move f i) := by
  have hp := perm_move h.nds hf
  have key : ∀ g, g ∈ (T.move f i).F → ∃ g' ∈ T.F, g'.s = g.s ∧ g'.u = g.u ∧ g'.k = g.k := fun g hg => by
    rcases List.mem_append.1 hg with hg | hg
    · exact ⟨g, (List.mem_filter.1 hg).1, rfl, rfl, rfl⟩
    · simp only [List.mem_singleton] at hg; subst hg; exact ⟨f, hf, rfl, rfl, rfl⟩
  refine ⟨h.ok, h.size, fun s' u' => ?_, ?_, ?_, ?_, ?_⟩
  · rw [show (T.move f i).A = T.A from rfl, h.at' s' u']
    constructor
    · rintro ⟨g, hg, h1, h2⟩
      rcases List.mem_append.1 (hp.mem_iff.1 hg) with h3 | h3
      · exact ⟨g, List.mem_append.2 (.inl h3), h1, h2⟩
      · simp only [List.mem_singleton] at h3; subst h3
        exact ⟨_, List.mem_append.2 (.inr List.mem_cons_self), h1, h2⟩
    · rintro ⟨g, hg, h1, h2⟩
      obtain ⟨g', hg', e1, e2, _⟩ := key g hg
      exact ⟨g', hg', by omega, by rw [e2, h2]⟩
  · have h1 : ((T.move f i).F.map Fl.s) = ((T.F.filter fun g : Fl => decide (g.s ≠ f.s)) ++ [f]).map Fl.s := by simp [Tb.move]
    rw [h1]
    exact (hp.map Fl.s).nodup_iff.1 h.nds
  · intro g hg
    obtain ⟨g', hg', _, _, e⟩ := key g hg
    rw [← e]; exact h.wf g' hg'
  · intro g hg
    rcases List.mem_append.1 hg with hg | hg
    · exact h.lt g (List.mem_filter.1 hg).1
    · simp only [List.mem_singleton] at hg; subst hg; exact hi
  · show ((T.F.filter fun g : Fl => decide (g.s ≠ f.s)) ++ [({ f with i := i } : Fl)]).Pairwise _
    rw [List.pairwise_append]
    refine ⟨h.apart.sublist List.filter_sublist, by simp, fun a ha b hb => ?_⟩
    simp only [List.mem_singleton] at hb; subst hb
    obtain ⟨ha1, ha2⟩ := List.mem_filter.1 ha
    have ha3 := of_decide_eq_true ha2
    refine ⟨fun e => ha3 ?_, fun e => ha3 ?_⟩
    · exact congrArg Fl.s (h.far ha1 hf (.inl e))
    · exact congrArg Fl.s (h.far ha1 hf (.inr e))
end
end Go.Proofs.Ythhndmlfgjcgpaa.Sx
namespace Go.Proofs.Ythhndmlfgjcgpaa.Sx
open Go
set_option linter.unusedVariables false
set_option linter.unusedSimpArgs false
section
variable {S n : Nat} {T : Tb}
theorem TF.len (h : TF S n T) : T.F.length ≤ S := by
  have h1 := nodup_len (n := S) h.nds fun x hx => by
    obtain ⟨f, hf, rfl⟩ := List.mem_map.1 hx
    exact (h.slot hf).1
  rwa [List.length_map] at h1
theorem TF.room (h : TF S n T) {s : Nat} (hs : s ∈ T.A.free) : T.F.length < S := by
  obtain ⟨h1, h2⟩ := h.free hs
  have h3 := nodup_len (n := S) (l := s :: T.F.map Fl.s) (by
    rw [List.nodup_cons]
    exact ⟨fun hm => by obtain ⟨f, hf, e⟩ := List.mem_map.1 hm; exact h2 f hf e, h.nds⟩) fun x hx => by
    rcases List.mem_cons.1 hx with rfl | hx
    · exact h1
    · obtain ⟨f, hf, rfl⟩ := List.mem_map.1 hx
      exact (h.slot hf).1
  rw [List.length_cons, List.length_map] at h3
  exact h3
theorem cnt_eq : ∀ (bs : List Bool), cnt bs = (((List.range bs.length).filter fun i => decide (bs[i]? = some true)).length : Int)
  | [] => rfl
  | b :: bs => by
    have ih := cnt_eq bs
    rw [cnt, ih, List.length_cons, List.range_succ_eq_map, List.filter_cons, List.filter_map]
    have e : ((fun i => decide ((b :: bs)[i]? = some true)) ∘ Nat.succ) = fun i => decide (bs[i]? = some true) := by
      funext i; simp
    rw [e]
    cases b <;> simp <;> omega
theorem TF.cnt (h : TF S n T) : Sx.cnt T.A.tk = (T.F.length : Int) := by
  rw [cnt_eq]
  congr 1
  have hl := h.ok.len
  have hs := h.size
  have e1 : ∀ x, x ∈ (List.range T.A.tk.length).filter (fun i => decide (T.A.tk[i]? = some true)) ↔ x ∈ T.F.map Fl.s := fun x => by
    rw [List.mem_filter, List.mem_range, List.mem_map, decide_eq_true_iff]
    constructor
    · rintro ⟨_, h1⟩; obtain ⟨f, hf, e⟩ := h.flow h1; exact ⟨f, hf, e⟩
    · rintro ⟨f, hf, rfl⟩
      have := h.slot hf
      exact ⟨by omega, this.2.1⟩
  have h1 := nodup_le2 (l2 := T.F.map Fl.s) ((List.nodup_range (n := T.A.tk.length)).filter (fun i => decide (T.A.tk[i]? = some true))) fun x hx => (e1 x).1 hx
  have h2 := nodup_le2 (l2 := (List.range T.A.tk.length).filter fun i => decide (T.A.tk[i]? = some true)) h.nds fun x hx => (e1 x).2 hx
  rw [List.length_map] at h1 h2
  omega
variable {K1 K2 : List (Ky × Int)} {L : Nat → List Nat} {ky : List Ky}
theorem TI.g1 (h : TI S n T K1 K2 L ky) : Good K1 := h.tf.own.perm h.p1
theorem TI.g2 (h : TI S n T K1 K2 L ky) : Good K2 := h.tf.bak.perm h.p2
theorem TI.l1 (h : TI S n T K1 K2 L ky) : K1.length = T.F.length := by rw [h.p1.length_eq, List.length_map]
theorem TI.l2 (h : TI S n T K1 K2 L ky) : K2.length = T.F.length := by rw [h.p2.length_eq, List.length_map]
theorem TI.get1 (h : TI S n T K1 K2 L ky) (k : Ky) : findV K1 k = findV (ownK T.F) k := findV_perm h.tf.own h.p1 k
theorem TI.get2 (h : TI S n T K1 K2 L ky) (k : Ky) : findV K2 k = findV (bakK T.F) k := findV_perm h.tf.bak h.p2 k
theorem TI.no1 (h : TI S n T K1 K2 L ky) {k : Ky} (hn : fndK T.F k = none) : ¬ has K1 k := fun hh => by
  obtain ⟨f, hf, e⟩ := own_has.1 ((has_perm h.p1).1 hh)
  exact (fndK_none.1 hn f hf).1 e
theorem TI.no2 (h : TI S n T K1 K2 L ky) {k : Ky} (hn : fndK T.F k = none) : ¬ has K2 (trn k) := fun hh => by
  obtain ⟨f, hf, e⟩ := bak_has.1 ((has_perm h.p2).1 hh)
  exact (fndK_none.1 hn f hf).1 (trn_inj e)
theorem TI.inL (h : TI S n T K1 K2 L ky) {i s : Nat} (hi : i < n) : s ∈ L i ↔ ∃ f ∈ T.F, f.i = i ∧ f.s = s := by
  rw [h.ls i hi, List.mem_map]
  constructor
  · rintro ⟨f, hf, e⟩
    obtain ⟨h1, h2⟩ := List.mem_filter.1 hf
    exact ⟨f, h1, of_decide_eq_true h2, e⟩
  · rintro ⟨f, hf, h1, e⟩
    exact ⟨f, List.mem_filter.2 ⟨hf, decide_eq_true h1⟩, e⟩
theorem TI.ofL (h : TI S n T K1 K2 L ky) (hw : WL S n L) {f : Fl} (hf : f ∈ T.F) : Sx.ofL n L f.s = some f.i := hw.ofL (h.tf.lt f hf) ((h.inL (h.tf.lt f hf)).2 ⟨f, hf, rfl, rfl⟩)
theorem TI.ofNo (h : TI S n T K1 K2 L ky) {s : Nat} (hs : ∀ f ∈ T.F, f.s ≠ s) : Sx.ofL n L s = none := ofL_none.2 fun i hi hm => by
  obtain ⟨f, hf, _, e⟩ := (h.inL hi).1 hm
  exact hs f hf e
theorem erase_map {l : List Fl} (hn : (l.map Fl.s).Nodup) (x : Nat) : (l.map Fl.s).erase x = (l.filter fun g => decide (g.s ≠ x)).map Fl.s := by
  rw [hn.erase_eq_filter, List.filter_map]
  congr 1
  refine List.filter_congr fun g _ => ?_
  by_cases e : g.s = x <;> simp [e]
theorem nds_filter {F : List Fl} (h : (F.map Fl.s).Nodup) (p : Fl → Bool) : ((F.filter p).map Fl.s).Nodup := h.sublist (List.filter_sublist.map _)
theorem TI.lsOut (h : TI S n T K1 K2 L ky) {f : Fl} (hf : f ∈ T.F) {i : Nat} (hi : i < n) : upd L f.i ((L f.i).erase f.s) i = ((T.F.filter fun g => decide (g.s ≠ f.s)).filter fun g => decide (g.i = i)).map Fl.s := by
  have hc : (T.F.filter fun g => decide (g.s ≠ f.s)).filter (fun g => decide (g.i = i)) = (T.F.filter fun g => decide (g.i = i)).filter (fun g => decide (g.s ≠ f.s)) := by
    rw [List.filter_filter, List.filter_filter]
    refine List.filter_congr fun g _ => ?_
    rw [Bool.and_comm]
  rw [hc, ← erase_map (nds_filter h.tf.nds _)]
  by_cases e : i = f.i
  · subst e
    rw [upd_eq, h.ls _ hi]
  · rw [upd_ne e, h.ls i hi, List.erase_of_not_mem]
    intro hm
    obtain ⟨g, hg, e2⟩ := List.mem_map.1 hm
    obtain ⟨h1, h2⟩ := List.mem_filter.1 hg
    have := h.tf.one h1 hf e2
    subst this
    exact e (of_decide_eq_true h2).symm
theorem TI.add (h : TI S n T K1 K2 L ky) (hS : S ≤ 4096) {s : Nat} {fs : List Nat} {k : Ky} {i : Nat} (e : T.A.free = s :: fs) (hk : WfK k) (hi : i < n) (hn : fndK T.F k = none) :
    TI S n { F := T.F ++ [⟨s, T.A.turn[s]?.getD 0, k, i⟩], A := T.A.take } (putK K1 k (s : Int) (S : Int)) (putK K2 (trn k) (s : Int) (S : Int)) (addS S n L 1 (i : Int) (s : Int)) (ky.set s k) := by
  have hsf : s ∈ T.A.free := by rw [e]; exact List.mem_cons_self
  obtain ⟨hs, hne⟩ := h.tf.free hsf
  have hr := h.tf.room hsf
  have hl := h.len
  refine ⟨h.tf.add e hk hi hn, by rw [List.length_set]; exact hl, fun f hf => ?_, ?_, ?_, fun j hj => ?_⟩
  · rcases List.mem_append.1 hf with hf | hf
    · rw [List.getElem?_set_ne (fun e2 => hne f hf e2.symm)]; exact h.key f hf
    · simp only [List.mem_singleton] at hf; subst hf
      exact List.getElem?_set_self (by omega)
  · rw [putK_new (h.no1 hn) (by rw [h.l1]; omega)]
    show (K1 ++ [(k, (s : Int))]).Perm (List.map _ (T.F ++ [_]))
    rw [List.map_append]
    exact h.p1.append_right _
  · rw [putK_new (h.no2 hn) (by rw [h.l2]; omega)]
    show (K2 ++ [(trn k, (s : Int))]).Perm (List.map _ (T.F ++ [_]))
    rw [List.map_append]
    exact h.p2.append_right _
  · rw [addS_new hi hs (h.ofNo hne), List.filter_append, List.map_append, List.filter_cons, List.filter_nil, ← h.ls j hj]
    by_cases hij : i = j
    · subst hij
      rw [upd_eq, if_pos (decide_eq_true rfl)]; rfl
    · rw [upd_ne (fun e2 => hij e2.symm), if_neg (by simpa using hij)]; simp
theorem out_own {F : List Fl} {f : Fl} {g : Fl → Ky} (hinj : ∀ a ∈ F, g a = g f → a.s = f.s) (hinj2 : ∀ a ∈ F, a.s = f.s → g a = g f) : outK (F.map fun a => (g a, (a.s : Int))) (g f) = (F.filter fun a => decide (a.s ≠ f.s)).map fun a => (g a, (a.s : Int)) := by
  unfold outK
  rw [List.filter_map]
  congr 1
  refine List.filter_congr fun a ha => ?_
  by_cases e : a.s = f.s
  · have := hinj2 a ha e
    simp [e, this]
  · have : ¬ g a = g f := fun e2 => e (hinj a ha e2)
    simp [e, this]
theorem TI.out (h : TI S n T K1 K2 L ky) {f : Fl} (hf : f ∈ T.F) (hw : WL S n L) : TI S n (T.out f.s) (outK K1 f.k) (outK K2 (trn f.k)) (outS S n L (f.s : Int)) ky := by
  have hs := (h.tf.slot hf).1
  refine ⟨h.tf.out hf, h.len, fun g hg => h.key g (List.mem_filter.1 hg).1, ?_, ?_, fun j hj => ?_⟩
  · have h1 : (outK K1 f.k).Perm (outK (ownK T.F) f.k) := h.p1.filter _
    rw [out_own (g := fun a => a.k) (fun a ha e => congrArg Fl.s (h.tf.far ha hf (.inl e))) (fun a ha e => congrArg Fl.k (h.tf.one ha hf e))] at h1
    exact h1
  · have h1 : (outK K2 (trn f.k)).Perm (outK (bakK T.F) (trn f.k)) := h.p2.filter _
    rw [out_own (g := fun a => trn a.k) (fun a ha e => congrArg Fl.s (h.tf.far ha hf (.inl (trn_inj e)))) (fun a ha e => congrArg (fun x => trn x.k) (h.tf.one ha hf e))] at h1
    exact h1
  · rw [outS_has hs (h.ofL hw hf)]
    exact h.lsOut hf hj
theorem TI.move (h : TI S n T K1 K2 L ky) {f : Fl} (hf : f ∈ T.F) (hw : WL S n L) {i : Nat} (hi : i < n) :
    addE S n (outS S n L (f.s : Int)) (i : Int) (f.s : Int) = 0 ∧ TI S n (T.move f i) K1 K2 (addS S n (outS S n L (f.s : Int)) 1 (i : Int) (f.s : Int)) ky := by
  have hs := (h.tf.slot hf).1
  have hp := perm_move h.tf.nds hf
  rw [outS_has hs (h.ofL hw hf)]
  have hno : Sx.ofL n (upd L f.i ((L f.i).erase f.s)) f.s = none := ofL_none.2 fun j hj hm => by
    rw [h.lsOut hf hj] at hm
    obtain ⟨g, hg, e⟩ := List.mem_map.1 hm
    exact of_decide_eq_true (List.mem_filter.1 (List.mem_filter.1 hg).1).2 e
  refine ⟨addE_new hi hs hno, h.tf.move hf hi, h.len, fun g hg => ?_, ?_, ?_, fun j hj => ?_⟩
  · rcases List.mem_append.1 hg with hg | hg
    · exact h.key g (List.mem_filter.1 hg).1
    · simp only [List.mem_singleton] at hg; subst hg; exact h.key f hf
  · refine h.p1.trans ?_
    have := hp.map (fun a : Fl => (a.k, (a.s : Int)))
    simpa [Tb.move] using this
  · refine h.p2.trans ?_
    have := hp.map (fun a : Fl => (trn a.k, (a.s : Int)))
    simpa [Tb.move] using this
  · rw [addS_new hi hs hno]
    show _ = (((T.F.filter fun g : Fl => decide (g.s ≠ f.s)) ++ [({ f with i := i } : Fl)]).filter fun g => decide (g.i = j)).map Fl.s
    rw [List.filter_append, List.map_append, List.filter_cons, List.filter_nil, ← h.lsOut hf hj]
    by_cases hij : i = j
    · subst hij
      rw [upd_eq, if_pos (decide_eq_true rfl)]; rfl
    · rw [upd_ne (fun e2 => hij e2.symm), if_neg (by simpa using hij)]; simp
end
structure TX where
  bo : Nat
  bb : Nat
  ba : Nat
  bl : Nat
  r : Option Addr
  c : Nat
  K1 : List (Ky × Int)
  K2 : List (Ky × Int)
  L : Nat → List Nat
  ky : List Ky
structure TT where
  T : TypeId
  A : TypeId
  N : TypeId
  I : TypeId
  R : TypeId
  S : TypeId
  L : TypeId
  M : TypeId
  K : TypeId
abbrev tblL (t : TT) (b S n : Nat) (T : Tb) (x : TX) : List HP :=
  [blk b [.pointer (some ⟨x.bo, 0, none⟩), .pointer (some ⟨x.bb, 0, none⟩), .pointer (some ⟨x.ba, 0, none⟩), .pointer (some ⟨x.bl, 0, none⟩), .slice x.r S x.c, .int .i64 (n : Int)] t.T,
   trieA t.A t.N t.I x.bo x.K1 (S : Int), trieA t.A t.N t.I x.bb x.K2 (S : Int), arena t.R t.S x.ba T.A, linksA t.L t.M t.I x.bl S n x.L, sls x.r S x.c t.K 5 (x.ky.flatMap eK)]
def tableA (t : TT) (b S n : Nat) (T : Tb) : HP := box (fun x : TX => TI S n T x.K1 x.K2 x.L x.ky ∧ S ≤ 4096) (tblL t b S n T)
theorem Sep.tableE {t : TT} {b S n : Nat} {T : Tb} {l : List HP} {w : World} (h : Sep (tableA t b S n T :: l) w) :
    ∃ bo bb ba bl r c K1 K2 L ky, TI S n T K1 K2 L ky ∧ S ≤ 4096 ∧ Sep (blk b [.pointer (some ⟨bo, 0, none⟩), .pointer (some ⟨bb, 0, none⟩), .pointer (some ⟨ba, 0, none⟩), .pointer (some ⟨bl, 0, none⟩), .slice r S c, .int .i64 (n : Int)] t.T ::
      trieA t.A t.N t.I bo K1 (S : Int) :: trieA t.A t.N t.I bb K2 (S : Int) :: arena t.R t.S ba T.A :: linksA t.L t.M t.I bl S n L :: sls r S c t.K 5 (ky.flatMap eK) :: l) w := by
  obtain ⟨x, h1, h2⟩ := h.boxE
  exact ⟨x.bo, x.bb, x.ba, x.bl, x.r, x.c, x.K1, x.K2, x.L, x.ky, h1.1, h1.2, h2⟩
theorem Sep.tableI {t : TT} {b S n bo bb ba bl c : Nat} {T : Tb} {r : Option Addr} {K1 K2 : List (Ky × Int)} {L : Nat → List Nat} {ky : List Ky} {l : List HP} {w : World} (hT : TI S n T K1 K2 L ky) (hS : S ≤ 4096)
    (h : Sep (blk b [.pointer (some ⟨bo, 0, none⟩), .pointer (some ⟨bb, 0, none⟩), .pointer (some ⟨ba, 0, none⟩), .pointer (some ⟨bl, 0, none⟩), .slice r S c, .int .i64 (n : Int)] t.T ::
      trieA t.A t.N t.I bo K1 (S : Int) :: trieA t.A t.N t.I bb K2 (S : Int) :: arena t.R t.S ba T.A :: linksA t.L t.M t.I bl S n L :: sls r S c t.K 5 (ky.flatMap eK) :: l) w) : Sep (tableA t b S n T :: l) w :=
  Sep.boxI (⟨bo, bb, ba, bl, r, c, K1, K2, L, ky⟩ : TX) ⟨hT, hS⟩ h
abbrev vH (s u : Int) : Value := .agg [.int .i64 s, .int .i64 u].toArray
def hOf (o : Option Fl) : Int × Int := match o with
  | some f => ((f.s : Int), f.u)
  | none => (0, 0)
def fndV (F : List Fl) (k : Ky) : Value := .tuple [vH (hOf (fndK F k)).1 (hOf (fndK F k)).2, .bool (match fndK F k with | some f => decide (f.k ≠ k) | none => false), .bool (fndK F k).isSome].toArray
theorem fndV_none {F : List Fl} {k : Ky} (h : fndK F k = none) : fndV F k = .tuple [vH 0 0, .bool false, .bool false].toArray := by unfold fndV; rw [h]; rfl
theorem fndV_some {F : List Fl} {k : Ky} {f : Fl} (h : fndK F k = some f) : fndV F k = .tuple [vH f.s f.u, .bool (decide (f.k ≠ k)), .bool true].toArray := by unfold fndV; rw [h]; rfl
theorem new_TI {S n : Nat} (h1 : 1 ≤ S) (h2 : S ≤ 4096) : TI S n { F := [], A := Ar.new S } [] [] (fun _ => []) (List.replicate S k0) := by
  refine ⟨⟨⟨by simp [Ar.new], by simp [Ar.new]; omega, by simp [Ar.new, List.nodup_range], fun i => ?_⟩, by simp [Ar.new], fun s u => ?_, by simp, by simp, by simp, by simp⟩, by simp, by simp, List.Perm.refl _, List.Perm.refl _, fun i _ => rfl⟩
  · simp only [Ar.new, List.mem_range, List.getElem?_replicate]
    by_cases h : i < S <;> simp [h]
  · rw [at_tk]
    constructor
    · rintro ⟨_, h, _⟩
      simp only [Ar.new, List.getElem?_replicate] at h
      by_cases h9 : s.toNat < S
      · rw [if_pos h9] at h; cases h
      · rw [if_neg h9] at h; cases h
    · rintro ⟨f, hf, _⟩; simp at hf
end Go.Proofs.Ythhndmlfgjcgpaa.Sx
namespace Go.Proofs.Ythhndmlfgjcgpaa.Sx
open Go
set_option linter.unusedVariables false
set_option linter.unusedSimpArgs false
section
variable {S n : Nat} {T : Tb} {K1 K2 : List (Ky × Int)} {L : Nat → List Nat} {ky : List Ky}
theorem TF.atf (h : TF S n T) {f : Fl} (hf : f ∈ T.F) : T.A.at (f.s : Int) = some f.u := (h.at' _ _).2 ⟨f, hf, rfl, rfl⟩
theorem TF.fNone (h : TF S n T) {k : Ky} (hn : fndK T.F k = none) : findV (ownK T.F) k = none ∧ findV (bakK T.F) k = none := by
  have h1 := fndK_none.1 hn
  refine ⟨findV_no fun hh => ?_, findV_no fun hh => ?_⟩
  · obtain ⟨f, hf, e⟩ := own_has.1 hh; exact (h1 f hf).1 e
  · obtain ⟨f, hf, e⟩ := bak_has.1 hh; exact (h1 f hf).2 e
theorem TF.fOwn (h : TF S n T) {k : Ky} {f : Fl} (hf : fndK T.F k = some f) (hk : f.k = k) : f ∈ T.F ∧ findV (ownK T.F) k = some (f.s : Int) := by
  have h1 := (fndK_mem h).1 hf
  exact ⟨h1.1, by rw [← hk]; exact own_find h h1.1⟩
theorem TF.fTurn (h : TF S n T) {k : Ky} {f : Fl} (hf : fndK T.F k = some f) (hk : ¬ f.k = k) : f ∈ T.F ∧ findV (ownK T.F) k = none ∧ findV (bakK T.F) k = some (f.s : Int) := by
  obtain ⟨h1, h2⟩ := (fndK_mem h).1 hf
  have h3 := h2.resolve_left hk
  refine ⟨h1, findV_no fun hh => ?_, by rw [← h3]; exact bak_find h h1⟩
  obtain ⟨g, hg, e⟩ := own_has.1 hh
  have := h.far h1 hg (.inr (h3.trans e.symm))
  subst this
  exact hk e
def inF (F : List Fl) (i : Int) : List Fl := F.filter fun f => decide ((f.i : Int) = i)
theorem inF_nat (F : List Fl) (i : Nat) : inF F (i : Int) = F.filter fun f => decide (f.i = i) := by
  unfold inF
  refine List.filter_congr fun f _ => ?_
  by_cases e : f.i = i
  · simp [e]
  · have : ¬ ((f.i : Int) = (i : Int)) := by omega
    simp [e, this]
theorem TF.inOff (h : TF S n T) {i : Int} (hi : ¬ (0 ≤ i ∧ i < n)) : inF T.F i = [] := by
  unfold inF
  rw [List.filter_eq_nil_iff]
  intro f hf
  have := h.lt f hf
  simp only [decide_eq_true_eq]
  omega
theorem TI.all (h : TI S n T K1 K2 L ky) (i : Int) : allS n L i = (inF T.F i).map Fl.s := by
  unfold allS
  by_cases hi : 0 ≤ i ∧ i < n
  · rw [if_pos hi]
    obtain ⟨j, rfl⟩ : ∃ j : Nat, i = j := ⟨i.toNat, by omega⟩
    rw [Int.toNat_natCast, h.ls j (by omega), inF_nat]
  · rw [if_neg hi, h.tf.inOff hi]; rfl
theorem TI.fst (h : TI S n T K1 K2 L ky) (i : Int) : endS n L 0 i = (inF T.F i).head?.map Fl.s := by
  unfold endS
  by_cases hi : 0 ≤ i ∧ i < n
  · rw [if_pos hi]
    obtain ⟨j, rfl⟩ : ∃ j : Nat, i = j := ⟨i.toNat, by omega⟩
    rw [Int.toNat_natCast, show dirL 0 (L j) = L j from rfl, h.ls j (by omega), inF_nat, List.head?_map]
  · rw [if_neg hi, h.tf.inOff hi]; rfl
theorem inF_mem {F : List Fl} {i : Int} {f : Fl} (h : f ∈ inF F i) : f ∈ F := (List.mem_filter.1 h).1
theorem inF_len {F : List Fl} {i : Int} : (inF F i).length ≤ F.length := List.length_filter_le _ _
abbrev hd2 (f : Fl) : Int × Int := ((f.s : Int), f.u)
def hOfK (F : List Fl) (k : Ky) : Int × Int := hOf (F.find? fun f => decide (f.k = k))
theorem TF.hOfK (h : TF S n T) {f : Fl} (hf : f ∈ T.F) : Sx.hOfK T.F f.k = hd2 f := by
  unfold Sx.hOfK
  cases hv : T.F.find? (fun g => decide (g.k = f.k)) with
  | none => exact absurd (decide_eq_true rfl) (List.find?_eq_none.1 hv f hf)
  | some g =>
    have h1 := List.mem_of_find?_eq_some hv
    have h2 : g.k = f.k := of_decide_eq_true (List.find?_some (p := fun g : Fl => decide (g.k = f.k)) hv)
    rw [h.far h1 hf (.inl h2)]; rfl
def allF (F : List Fl) : List (Int × Int) := (srt (ownK F)).map (hOfK F)
def frmF (F : List Fl) (src : Int) : List (Int × Int) := (undK' (ownK F) (0, src, 0, 0, 0) 8).map (hOfK F)
theorem TI.srt (h : TI S n T K1 K2 L ky) : undK' K1 (0, 0, 0, 0, 0) 0 = Sx.srt (ownK T.F) := und_perm h.tf.own h.p1 _ _
theorem TI.und (h : TI S n T K1 K2 L ky) (k : Ky) (m : Int) : undK' K1 k m = undK' (ownK T.F) k m := und_perm h.tf.own h.p1 _ _
theorem TI.cnt1 (h : TI S n T K1 K2 L ky) (q : List Int) : cK K1 q = cK (ownK T.F) q := cK_perm h.p1 q
theorem TF.undIn (h : TF S n T) {k y : Ky} {m : Int} (hy : y ∈ undK' (ownK T.F) k m) : ∃ f ∈ T.F, f.k = y := own_has.1 (und_has h.own.wf hy).1
theorem TF.undLen (h : TF S n T) {k : Ky} {m : Int} : (undK' (ownK T.F) k m).length ≤ S := by
  have h1 := und_len (k := k) (n := m) h.own.wf
  rw [List.length_map] at h1
  have := h.len
  omega
theorem TF.srtIn (h : TF S n T) {y : Ky} (hy : y ∈ Sx.srt (ownK T.F)) : ∃ f ∈ T.F, f.k = y := h.undIn hy
theorem TF.srtLen (h : TF S n T) : (Sx.srt (ownK T.F)).length = T.F.length := by rw [srt_len h.own, List.length_map]
def addR (T : Tb) (n : Nat) (k : Ky) (i : Int) : (Int × Int) × Int :=
  if ¬ (0 ≤ i ∧ i < n) then ((0, 0), 2) else if (fndK T.F k).isSome = true then ((0, 0), 160) else ((T.A.top.1, T.A.top.2.1), T.A.top.2.2)
def addN (T : Tb) (n : Nat) (k : Ky) (i : Int) : Tb := if ¬ (0 ≤ i ∧ i < n) then T else if (fndK T.F k).isSome = true then T else addT T k i.toNat
theorem addR_bad {k : Ky} {i : Int} (h : ¬ (0 ≤ i ∧ i < n)) : addR T n k i = ((0, 0), 2) ∧ addN T n k i = T := by unfold addR addN; rw [if_pos h, if_pos h]; exact ⟨rfl, rfl⟩
theorem addR_has {k : Ky} {i : Int} {f : Fl} (h : 0 ≤ i ∧ i < n) (hf : fndK T.F k = some f) : addR T n k i = ((0, 0), 160) ∧ addN T n k i = T := by
  have hc : ¬ ¬ (0 ≤ i ∧ i < n) := fun x => x h
  unfold addR addN; rw [if_neg hc, if_neg hc, hf]; exact ⟨rfl, rfl⟩
theorem addR_full {k : Ky} {i : Int} (h : 0 ≤ i ∧ i < n) (hf : fndK T.F k = none) (he : T.A.free = []) : addR T n k i = ((0, 0), 4) ∧ addN T n k i = T := by
  have hc : ¬ ¬ (0 ≤ i ∧ i < n) := fun x => x h
  unfold addR addN; rw [if_neg hc, if_neg hc, hf, if_neg (by simp), if_neg (by simp), Ar.top_nil he]
  unfold addT
  split
  · exact ⟨rfl, rfl⟩
  · rename_i e; rw [he] at e; cases e
theorem Ar.top_eq {A : Ar} {s : Nat} {fs : List Nat} (e : A.free = s :: fs) : A.top = ((s : Int), A.turn[s]?.getD 0, 0) := by unfold Ar.top; split <;> simp_all
theorem addR_new {k : Ky} {i : Nat} {s : Nat} {fs : List Nat} (h : i < n) (hf : fndK T.F k = none) (he : T.A.free = s :: fs) : addR T n k (i : Int) = (((s : Int), T.A.turn[s]?.getD 0), 0) ∧ addN T n k (i : Int) = { F := T.F ++ [⟨s, T.A.turn[s]?.getD 0, k, i⟩], A := T.A.take } := by
  have h0 : 0 ≤ (i : Int) ∧ (i : Int) < n := by omega
  have hc : ¬ ¬ (0 ≤ (i : Int) ∧ (i : Int) < n) := fun x => x h0
  unfold addR addN; rw [if_neg hc, if_neg hc, hf, if_neg (by simp), if_neg (by simp), Ar.top_eq he]
  refine ⟨rfl, ?_⟩
  unfold addT
  split
  · rename_i e; rw [he] at e; cases e
  · rename_i s' fs' e; rw [he] at e; cases e; rfl
def outR (T : Tb) (s u : Int) : Ky × Int := match getF T.F s u with
  | some f => (f.k, 0)
  | none => (k0, 6)
def outN (T : Tb) (s u : Int) : Tb := match getF T.F s u with
  | some f => T.out f.s
  | none => T
def movR (T : Tb) (n : Nat) (s u i : Int) : Int := if ¬ (0 ≤ i ∧ i < n) then 2 else if (getF T.F s u).isSome = true then 0 else 6
def movN (T : Tb) (n : Nat) (s u i : Int) : Tb := if ¬ (0 ≤ i ∧ i < n) then T else match getF T.F s u with
  | some f => T.move f i.toNat
  | none => T
theorem TF.addN (h : TF S n T) {k : Ky} {i : Int} (hk : WfK k) : TF S n (Sx.addN T n k i) := by
  by_cases hi : 0 ≤ i ∧ i < n
  · cases hf : fndK T.F k with
    | some f => rw [(addR_has hi hf).2]; exact h
    | none =>
      obtain ⟨j, rfl⟩ : ∃ j : Nat, i = j := ⟨i.toNat, by omega⟩
      cases he : T.A.free with
      | nil => rw [(addR_full hi hf he).2]; exact h
      | cons s fs => rw [(addR_new (by omega) hf he).2]; exact h.add he hk (by omega) hf
  · rw [(addR_bad hi).2]; exact h
theorem TF.outN (h : TF S n T) (s u : Int) : TF S n (Sx.outN T s u) := by
  unfold Sx.outN
  cases hg : getF T.F s u with
  | none => exact h
  | some f => exact h.out ((getF_mem h).1 hg).1
theorem TF.movN (h : TF S n T) (s u i : Int) : TF S n (Sx.movN T n s u i) := by
  unfold Sx.movN
  split
  · exact h
  · cases hg : getF T.F s u with
    | none => exact h
    | some f => exact h.move ((getF_mem h).1 hg).1 (by omega)
end
end Go.Proofs.Ythhndmlfgjcgpaa.Sx
