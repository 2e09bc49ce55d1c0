/-
  What the laws of the arena say of its states: live handles, free slots, turns. Nothing of a program stands here.
-/
import Derived.Test.YtmlebadfedleoaaRar
import Derived.Test.YtmlebadfedleoaaAr3
namespace Go.Proofs.Ytmlebadfedleoaa.Sx
open Go
set_option linter.unusedVariables false
theorem nodup_le {α : Type} [DecidableEq α] : ∀ {l1 l2 : List α}, l1.Nodup → (∀ x ∈ l1, x ∈ l2) → l1.length ≤ l2.length
  | [], _, _, _ => by simp
  | x :: l1, l2, h, hs => by
    rw [List.nodup_cons] at h
    have hx : x ∈ l2 := hs x List.mem_cons_self
    have h1 := nodup_le (l1 := l1) (l2 := l2.erase x) h.2 fun y hy => by
      have hne : y ≠ x := fun e => h.1 (e ▸ hy)
      exact (List.mem_erase_of_ne hne).2 (hs y (List.mem_cons_of_mem _ hy))
    have h2 := List.length_erase_of_mem hx
    have h3 : 0 < l2.length := List.length_pos_of_mem hx
    simp only [List.length_cons]; omega
structure Lv (A : Ar) (n : Nat) (live : List (Int × Int)) : Prop where
  ok : AOk A
  len : A.turn.length = n
  mem : ∀ s u, (s, u) ∈ live ↔ A.at s = some u
  nodup : (live.map Prod.fst).Nodup
theorem at_bd {A : Ar} (h : ROk A) {s u : Int} (e : A.at s = some u) : 0 ≤ s ∧ s < A.turn.length := by
  obtain ⟨h1, h2, h3⟩ := (Ar.at_iff h).1 e
  have := (List.getElem?_eq_some_iff.1 h3).1
  omega
theorem livesTo_mem {A : Ar} : ∀ {k : Nat} {s u : Int}, (s, u) ∈ A.livesTo k ↔ 0 ≤ s ∧ s < k ∧ A.at s = some u
  | 0, s, u => by simp [Ar.livesTo]; omega
  | k + 1, s, u => by
    have ih := livesTo_mem (A := A) (k := k) (s := s) (u := u)
    cases hk : A.at (k : Int) with
    | none =>
      rw [livesTo_no hk, ih]
      constructor
      · rintro ⟨h1, h2, h3⟩; exact ⟨h1, by omega, h3⟩
      · rintro ⟨h1, h2, h3⟩
        refine ⟨h1, ?_, h3⟩
        rcases Int.lt_or_eq_of_le (show s ≤ k by omega) with h | h
        · exact h
        · subst h; rw [hk] at h3; cases h3
    | some v =>
      rw [livesTo_yes hk, List.mem_append, ih]
      constructor
      · rintro (⟨h1, h2, h3⟩ | h)
        · exact ⟨h1, by omega, h3⟩
        · simp only [List.mem_singleton, Prod.mk.injEq] at h
          obtain ⟨rfl, rfl⟩ := h
          exact ⟨by omega, by omega, hk⟩
      · rintro ⟨h1, h2, h3⟩
        rcases Int.lt_or_eq_of_le (show s ≤ k by omega) with h | h
        · exact .inl ⟨h1, h, h3⟩
        · subst h; rw [hk] at h3; cases h3; exact .inr (by simp)
theorem livesTo_nodup {A : Ar} : ∀ k : Nat, ((A.livesTo k).map Prod.fst).Nodup
  | 0 => by simp [Ar.livesTo]
  | k + 1 => by
    have ih := livesTo_nodup (A := A) k
    cases hk : A.at (k : Int) with
    | none => rw [livesTo_no hk]; exact ih
    | some v =>
      rw [livesTo_yes hk, List.map_append, List.nodup_append]
      refine ⟨ih, by simp, ?_⟩
      intro x hx y hy
      simp only [List.map_cons, List.map_nil, List.mem_singleton] at hy
      subst hy
      obtain ⟨p, hp, rfl⟩ := List.mem_map.1 hx
      have := (livesTo_mem (A := A) (k := k) (s := p.1) (u := p.2)).1 hp
      intro e; omega
theorem Lv.lives {A : Ar} {n : Nat} (h : AOk A) (e : A.turn.length = n) : Lv A n A.lives := by
  refine ⟨h, e, fun s u => ?_, livesTo_nodup _⟩
  rw [Ar.lives, livesTo_mem]
  constructor
  · exact fun h' => h'.2.2
  · intro h'
    have := at_bd h.rok h'
    exact ⟨this.1, this.2, h'⟩
/-- Free slots and live handles are all slots. -/
theorem Lv.all {A : Ar} {n : Nat} {live : List (Int × Int)} (h : Lv A n live) : live.length + A.free.length = n := by
  have hk := h.ok.rok
  have hnd : (live.map (fun p => p.1.toNat) ++ A.free).Nodup := by
    rw [List.nodup_append]
    refine ⟨?_, h.ok.nodup, ?_⟩
    · have e : live.map (fun p => p.1.toNat) = (live.map Prod.fst).map Int.toNat := by simp
      rw [e]
      have hn := h.nodup
      have hpos : ∀ x ∈ live.map Prod.fst, 0 ≤ x := by
        intro x hx
        obtain ⟨p, hp, rfl⟩ := List.mem_map.1 hx
        exact (at_bd hk ((h.mem p.1 p.2).1 hp)).1
      revert hn hpos
      generalize live.map Prod.fst = L
      intro hn hpos
      induction L with
      | nil => simp
      | cons x L ih =>
        rw [List.nodup_cons] at hn
        rw [List.map_cons, List.nodup_cons]
        refine ⟨fun hm => ?_, ih hn.2 fun y hy => hpos y (List.mem_cons_of_mem _ hy)⟩
        obtain ⟨y, hy, e⟩ := List.mem_map.1 hm
        have h1 := hpos x List.mem_cons_self
        have h2 := hpos y (List.mem_cons_of_mem _ hy)
        have : y = x := by omega
        exact hn.1 (this ▸ hy)
    · intro a ha b hb e
      subst e
      obtain ⟨p, hp, rfl⟩ := List.mem_map.1 ha
      have h1 := ((Ar.at_iff hk).1 ((h.mem p.1 p.2).1 hp)).2.1
      rw [(h.ok.free _).1 hb] at h1; cases h1
  have h1 : (live.map (fun p => p.1.toNat) ++ A.free).length ≤ (List.range n).length := nodup_le hnd fun x hx => by
    rw [List.mem_range, ← h.len]
    rcases List.mem_append.1 hx with hx | hx
    · obtain ⟨p, hp, rfl⟩ := List.mem_map.1 hx
      have := at_bd hk ((h.mem p.1 p.2).1 hp)
      omega
    · exact hk.lt hx
  have h2 : (List.range n).length ≤ (live.map (fun p => p.1.toNat) ++ A.free).length := nodup_le List.nodup_range fun x hx => by
    rw [List.mem_range, ← h.len] at hx
    have hl := h.ok.len
    rw [List.mem_append]
    by_cases ht : A.tk[x]'(by omega) = true
    · exact .inl (List.mem_map.2 ⟨((x : Int), A.turn[x]), (h.mem _ _).2 (Ar.at_here hk (by omega) hx ht), by simp⟩)
    · exact .inr ((h.ok.free x).2 (by rw [List.getElem?_eq_getElem (by omega)]; simpa using ht))
  simp only [List.length_append, List.length_map, List.length_range] at h1 h2
  omega
theorem Lv.count {A : Ar} {n : Nat} {live : List (Int × Int)} (h : Lv A n live) : A.lives.length = live.length ∧ cnt A.tk = live.length := by
  have h1 := h.all
  have h2 := (Lv.lives h.ok h.len).all
  have h3 := cnt_lives h.ok.rok
  omega
theorem ROk.aok {A : Ar} (h : ROk A) (h1 : 1 ≤ A.turn.length) : AOk A := ⟨h.len, ⟨h1, h.most⟩, h.nodup, h.free⟩
theorem Lv.new {n : Nat} (h1 : 1 ≤ n) (h2 : n ≤ 4096) : Lv (Ar.new n) n [] := by
  refine ⟨(new_rok h2).aok (by simpa [Ar.new] using h1), by simp [Ar.new], fun s u => ?_, by simp⟩
  simp only [List.not_mem_nil, false_iff]
  intro e
  have := ((Ar.at_iff (new_rok h2)).1 e).2.1
  simp only [Ar.new, List.getElem?_replicate] at this
  split at this <;> cases this
theorem take_size (A : Ar) : A.take.turn.length = A.turn.length := by
  unfold Ar.take; split <;> rfl
theorem AOk.take {A : Ar} (h : AOk A) : AOk A.take := h.rok.take.aok (by rw [take_size]; exact h.pos.1)
theorem AOk.giveH {A : Ar} (h : AOk A) (s u : Int) : AOk (A.giveH s u) := by
  by_cases e : A.at s = some u
  · have h2 := ((Ar.at_iff h.rok).1 e).2.1
    rw [Ar.giveH, if_pos e]
    exact (h.rok.give h2).aok (by simpa [Ar.give] using h.pos.1)
  · rw [Ar.giveH_no e]; exact h
/-- What At says behind a taking. -/
theorem at_take {A : Ar} (h : AOk A) {i : Nat} {fs : List Nat} (e : A.free = i :: fs) (s : Int) : A.take.at s = if s = i then some (A.turn[i]?.getD 0) else A.at s := by
  have hi : i ∈ A.free := by rw [e]; exact List.mem_cons_self
  have hlt := h.rok.lt hi
  have htk := (h.free i).1 hi
  obtain ⟨htl, _⟩ := List.getElem?_eq_some_iff.1 htk
  rw [Ar.take_cons e]
  unfold Ar.at
  dsimp only
  by_cases hs : s = i
  · subst hs
    rw [if_pos rfl, if_pos ⟨by omega, by rw [Int.toNat_natCast, List.getElem?_set_self htl]⟩]; simp
  · rw [if_neg hs]
    by_cases h0 : 0 ≤ s
    · have hne : i ≠ s.toNat := by omega
      rw [List.getElem?_set_ne hne]
    · rw [if_neg (fun x => h0 x.1), if_neg (fun x => h0 x.1)]
theorem Lv.take {A : Ar} {n : Nat} {live : List (Int × Int)} (h : Lv A n live) {i : Nat} {fs : List Nat} (e : A.free = i :: fs) : Lv A.take n (live ++ [((i : Int), A.turn[i]?.getD 0)]) := by
  have hi : i ∈ A.free := by rw [e]; exact List.mem_cons_self
  have hno : A.at (i : Int) = none := by
    have := (h.ok.free i).1 hi
    obtain ⟨h1, h2⟩ := List.getElem?_eq_some_iff.1 this
    exact Ar.at_free h1 h2
  refine ⟨h.ok.take, by rw [take_size]; exact h.len, fun s u => ?_, ?_⟩
  · rw [at_take h.ok e, List.mem_append, h.mem]
    by_cases hs : s = i
    · subst hs
      rw [if_pos rfl, hno]
      simp [eq_comm]
    · rw [if_neg hs]
      simp [hs]
  · rw [List.map_append, List.nodup_append]
    refine ⟨h.nodup, by simp, fun x hx y hy => ?_⟩
    simp only [List.map_cons, List.map_nil, List.mem_singleton] at hy
    subst hy
    rintro rfl
    obtain ⟨p, hp, e2⟩ := List.mem_map.1 hx
    have := (h.mem p.1 p.2).1 hp
    rw [e2, hno] at this; cases this
theorem Ar.top_of {A : Ar} {i : Nat} {fs : List Nat} (e : A.free = i :: fs) : A.top = ((i : Int), A.turn[i]?.getD 0, 0) := by
  unfold Ar.top; split <;> simp_all
theorem at_give {A : Ar} {i : Nat} (h : A.tk[i]? = some true) (s : Int) : (A.give i).at s = if s = i then none else A.at s := by
  obtain ⟨htl, _⟩ := List.getElem?_eq_some_iff.1 h
  have e : A.give i = { free := i :: A.free, turn := A.turn.set i (IntKind.i64.wrap (A.turn[i]?.getD 0 + 1)), tk := A.tk.set i false } := rfl
  rw [e]
  unfold Ar.at
  dsimp only
  by_cases hs : s = i
  · subst hs
    rw [if_pos rfl, if_neg]
    rintro ⟨_, h2⟩
    rw [Int.toNat_natCast, List.getElem?_set_self htl] at h2; cases h2
  · rw [if_neg hs]
    by_cases h0 : 0 ≤ s
    · have hne : i ≠ s.toNat := by omega
      rw [List.getElem?_set_ne hne, List.getElem?_set_ne hne]
    · rw [if_neg (fun x => h0 x.1), if_neg (fun x => h0 x.1)]
theorem Lv.give {A : Ar} {n : Nat} {live : List (Int × Int)} (h : Lv A n live) {k : Nat} (hk : k < live.length) :
    A.at live[k].1 = some live[k].2 ∧ Lv (A.giveH live[k].1 live[k].2) n (live.take k ++ live.drop (k + 1)) := by
  have hat := (h.mem _ _).1 (show (live[k].1, live[k].2) ∈ live from List.getElem_mem hk)
  refine ⟨hat, ?_⟩
  obtain ⟨h1, h2, h3⟩ := (Ar.at_iff h.ok.rok).1 hat
  have hsplit : live = live.take k ++ live[k] :: live.drop (k + 1) := by rw [List.getElem_cons_drop, List.take_append_drop]
  have hnd := h.nodup
  rw [hsplit, List.map_append, List.map_cons, List.nodup_append, List.nodup_cons] at hnd
  refine ⟨h.ok.giveH _ _, by rw [giveH_size]; exact h.len, fun s u => ?_, ?_⟩
  · rw [Ar.giveH, if_pos hat, at_give h2]
    have e : ((live[k].1.toNat : Nat) : Int) = live[k].1 := by omega
    rw [e]
    have hm := h.mem s u
    rw [hsplit, List.mem_append, List.mem_cons] at hm
    rw [List.mem_append]
    by_cases hs : s = live[k].1
    · rw [if_pos hs]
      simp only [reduceCtorEq, iff_false, not_or]
      constructor
      · intro hin
        exact hnd.2.2 _ (List.mem_map_of_mem hin) _ List.mem_cons_self hs
      · intro hin
        exact hnd.2.1.1 (hs ▸ List.mem_map_of_mem hin)
    · rw [if_neg hs, ← hm]
      constructor
      · rintro (h' | h')
        · exact .inl h'
        · exact .inr (.inr h')
      · rintro (h' | h' | h')
        · exact .inl h'
        · exact absurd (congrArg Prod.fst h') hs
        · exact .inr h'
  · rw [List.map_append, List.nodup_append]
    exact ⟨hnd.1, hnd.2.1.2, fun x hx y hy => hnd.2.2 x hx y (List.mem_cons_of_mem _ hy)⟩
theorem giveE_yes {A : Ar} {s u : Int} (h : A.at s = some u) : A.giveE s u = 0 := if_pos h
theorem giveE_no {A : Ar} {s u : Int} (h : ¬ A.at s = some u) : A.giveE s u = 6 := if_neg h
end Go.Proofs.Ytmlebadfedleoaa.Sx
