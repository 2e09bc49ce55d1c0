/-
  What the laws of the arena say of its states, continued. Nothing of a program stands here.
-/
import Derived.Test.YtmlebadfedleoaaArLaw
namespace Go.Proofs.Ytmlebadfedleoaa.Sx
open Go
set_option linter.unusedVariables false
/-! ### turns; handles that were given back -/
def Gn (A : Ar) (m : Nat) (gone : List (Int × Int)) : Prop := (∀ u ∈ A.turn, 0 ≤ u ∧ u ≤ m) ∧ ∀ h ∈ gone, ∃ (i : Nat) (u : Int), h.1 = i ∧ A.turn[i]? = some u ∧ h.2 < u
theorem Gn.new {n : Nat} : Gn (Ar.new n) 0 [] := by
  refine ⟨fun u hu => ?_, by simp⟩
  simp only [Ar.new, List.mem_replicate] at hu
  omega
theorem take_turn (A : Ar) : A.take.turn = A.turn := by unfold Ar.take; split <;> rfl
theorem Gn.take {A : Ar} {m : Nat} {gone : List (Int × Int)} (h : Gn A m gone) : Gn A.take m gone := by
  unfold Gn; rw [take_turn]; exact h
theorem Gn.mono {A : Ar} {m m' : Nat} {gone : List (Int × Int)} (h : Gn A m gone) (hm : m ≤ m') : Gn A m' gone :=
  ⟨fun u hu => by have := h.1 u hu; omega, h.2⟩
theorem Gn.give {A : Ar} (hA : AOk A) {m : Nat} {gone : List (Int × Int)} (h : Gn A m gone) (hm : m < 1000000) {s u : Int} (e : A.at s = some u) : Gn (A.giveH s u) (m + 1) (gone ++ [(s, u)]) := by
  obtain ⟨h1, h2, h3⟩ := (Ar.at_iff hA.rok).1 e
  obtain ⟨hl, hu⟩ := List.getElem?_eq_some_iff.1 h3
  have hub := h.1 u (by rw [← hu]; exact List.getElem_mem hl)
  have hw : IntKind.i64.wrap (u + 1) = u + 1 := IntWalk.i64_in _ (by omega)
  have ht : (A.giveH s u).turn = A.turn.set s.toNat (u + 1) := by
    rw [Ar.giveH, if_pos e]
    simp only [Ar.give, h3, Option.getD_some, hw]
  unfold Gn
  rw [ht]
  constructor
  · intro v hv
    rcases List.mem_or_eq_of_mem_set hv with hv | hv
    · have := h.1 v hv; omega
    · omega
  · intro p hp
    rcases List.mem_append.1 hp with hp | hp
    · obtain ⟨i, v, e1, e2, e3⟩ := h.2 p hp
      by_cases hi : s.toNat = i
      · subst hi
        rw [e2] at h3; cases h3
        exact ⟨_, u + 1, e1, List.getElem?_set_self hl, by omega⟩
      · exact ⟨i, v, e1, by rw [List.getElem?_set_ne hi]; exact e2, e3⟩
    · simp only [List.mem_singleton] at hp
      subst hp
      exact ⟨s.toNat, u + 1, by dsimp only; omega, List.getElem?_set_self hl, by dsimp only; omega⟩
theorem Gn.not {A : Ar} (hA : AOk A) {m : Nat} {gone : List (Int × Int)} (h : Gn A m gone) {p : Int × Int} (hp : p ∈ gone) : ¬ A.at p.1 = some p.2 := by
  intro e
  obtain ⟨i, v, e1, e2, e3⟩ := h.2 p hp
  have := ((Ar.at_iff hA.rok).1 e).2.2
  rw [e1, Int.toNat_natCast, e2] at this
  cases this; omega
/-! ### the slots that were seen -/
def Seen (sn : List Bool) (n : Nat) (p : Nat → Prop) : Prop := sn.length = n ∧ ∀ i, i < n → (sn[i]? = some true ↔ p i)
theorem Seen.none (n : Nat) : Seen (List.replicate n false) n (fun _ => False) := by
  refine ⟨by simp, fun i hi => ?_⟩
  rw [List.getElem?_replicate, if_pos hi]; simp
theorem Seen.set {sn : List Bool} {n k : Nat} {p q : Nat → Prop} (h : Seen sn n p) (hk : k < n) (hq : ∀ i, i < n → (q i ↔ p i ∨ i = k)) : Seen (sn.set k true) n q := by
  refine ⟨by simpa using h.1, fun i hi => ?_⟩
  rw [hq i hi]
  by_cases e : k = i
  · subst e
    rw [List.getElem?_set_self (by rw [h.1]; exact hk)]; simp
  · rw [List.getElem?_set_ne e, h.2 i hi]
    exact ⟨.inl, fun h' => h'.elim id (fun h'' => absurd h''.symm e)⟩
theorem Seen.mono {sn : List Bool} {n : Nat} {p q : Nat → Prop} (h : Seen sn n p) (hq : ∀ i, i < n → (q i ↔ p i)) : Seen sn n q := ⟨h.1, fun i hi => by rw [hq i hi]; exact h.2 i hi⟩
theorem Seen.no {sn : List Bool} {n k : Nat} {p : Nat → Prop} (h : Seen sn n p) (hk : k < sn.length) (hp : ¬ p k) : sn[k] = false := by
  have := h.2 k (by rw [← h.1]; exact hk)
  rw [List.getElem?_eq_getElem hk] at this
  cases hv : sn[k] with
  | false => rfl
  | true => rw [hv] at this; exact absurd (this.1 rfl) hp
theorem Seen.yes {sn : List Bool} {n k : Nat} {p : Nat → Prop} (h : Seen sn n p) (hk : k < sn.length) (hp : p k) : sn[k] = true := by
  have := (h.2 k (by rw [← h.1]; exact hk)).2 hp
  rw [List.getElem?_eq_getElem hk] at this
  simpa using this
theorem mem_take_succ {α : Type} {l : List α} {j : Nat} (h : j < l.length) (x : α) : x ∈ l.take (j + 1) ↔ x ∈ l.take j ∨ x = l[j] := by
  rw [List.take_succ_eq_append_getElem h, List.mem_append, List.mem_singleton]
def P1 (live : List (Int × Int)) (j : Nat) (i : Nat) : Prop := ∃ u, ((i : Int), u) ∈ live.take j
def P2 (live : List (Int × Int)) (fr : List Nat) (j : Nat) (i : Nat) : Prop := (∃ u, ((i : Int), u) ∈ live) ∨ i ∈ fr.take j
theorem seen1 {A : Ar} {n j : Nat} {live : List (Int × Int)} {sn : List Bool} (hv : Lv A n live) (hj : j < live.length) (hs : Seen sn n (P1 live j)) :
    ∃ k : Nat, live[j].1 = k ∧ k < n ∧ k < sn.length ∧ (∀ h : k < sn.length, sn[k] = false) ∧ Seen (sn.set k true) n (P1 live (j + 1)) ∧ A.at live[j].1 = some live[j].2 := by
  have hat := (hv.mem live[j].1 live[j].2).1 (List.getElem_mem hj)
  have hbd := at_bd hv.ok.rok hat
  rw [hv.len] at hbd
  obtain ⟨k, hk⟩ : ∃ k : Nat, live[j].1 = k := ⟨live[j].1.toNat, by omega⟩
  have hkn : k < n := by omega
  have hkl : k < sn.length := by rw [hs.1]; exact hkn
  refine ⟨k, hk, hkn, hkl, fun h => hs.no h ?_, hs.set hkn fun i hi => ?_, hat⟩
  · rintro ⟨u, hu⟩
    have hnd := hv.nodup
    have hsplit : live = live.take j ++ live[j] :: live.drop (j + 1) := by rw [List.getElem_cons_drop, List.take_append_drop]
    rw [hsplit, List.map_append, List.map_cons, List.nodup_append] at hnd
    exact hnd.2.2 _ (List.mem_map_of_mem hu) _ List.mem_cons_self hk.symm
  · unfold P1
    constructor
    · rintro ⟨u, hu⟩
      rcases (mem_take_succ hj _).1 hu with h | h
      · exact .inl ⟨u, h⟩
      · right
        have : (i : Int) = live[j].1 := by rw [← h]
        omega
    · rintro (⟨u, hu⟩ | rfl)
      · exact ⟨u, (mem_take_succ hj _).2 (.inl hu)⟩
      · exact ⟨live[j].2, (mem_take_succ hj _).2 (.inr (by rw [← hk]))⟩
theorem seen1_all {A : Ar} {n : Nat} {live : List (Int × Int)} {sn : List Bool} (hs : Seen sn n (P1 live live.length)) : Seen sn n (P2 live A.free 0) :=
  hs.mono fun i hi => by simp [P1, P2]
theorem seen2 {A : Ar} {n j : Nat} {live : List (Int × Int)} {sn : List Bool} (hv : Lv A n live) (hj : j < A.free.length) (hs : Seen sn n (P2 live A.free j)) :
    A.free[j] < n ∧ (∀ h : A.free[j] < sn.length, sn[A.free[j]] = false) ∧ Seen (sn.set A.free[j] true) n (P2 live A.free (j + 1)) := by
  have hm := List.getElem_mem hj
  have hlt := hv.ok.rok.lt hm
  rw [hv.len] at hlt
  refine ⟨hlt, fun h => hs.no h ?_, hs.set hlt fun i hi => ?_⟩
  · rintro (⟨u, hu⟩ | hin)
    · have h1 := ((Ar.at_iff hv.ok.rok).1 ((hv.mem _ _).1 hu)).2.1
      rw [Int.toNat_natCast, (hv.ok.free _).1 hm] at h1; cases h1
    · have hnd := hv.ok.nodup
      have hsplit : A.free = A.free.take j ++ A.free[j] :: A.free.drop (j + 1) := by rw [List.getElem_cons_drop, List.take_append_drop]
      rw [hsplit, List.nodup_append] at hnd
      exact hnd.2.2 _ hin _ List.mem_cons_self rfl
  · unfold P2
    rw [mem_take_succ hj, or_assoc]
theorem seen3 {A : Ar} {n : Nat} {live : List (Int × Int)} {sn : List Bool} (hv : Lv A n live) (hs : Seen sn n (P2 live A.free A.free.length)) {k : Nat} (hk : k < sn.length) : sn[k] = true := by
  refine hs.yes hk ?_
  have hkn : k < n := by rw [← hs.1]; exact hk
  have hl := hv.ok.len
  have hn := hv.len
  by_cases ht : A.tk[k]'(by omega) = true
  · exact .inl ⟨A.turn[k], (hv.mem _ _).2 (Ar.at_here hv.ok.rok (by omega) (by omega) ht)⟩
  · right
    rw [List.take_length, hv.ok.free, List.getElem?_eq_getElem (by omega)]
    simpa using ht
/-! ### all taken, and some given back -/
theorem top_yes {A : Ar} (h : A.top.2.2 = 0) : ∃ i fs, A.free = i :: fs := by
  cases e : A.free with
  | nil => rw [Ar.top_nil e] at h; simp at h
  | cons i fs => exact ⟨i, fs, rfl⟩
theorem top_no {A : Ar} (h : ¬ A.top.2.2 = 0) : A.free = [] ∧ A.top = (0, 0, 4) := by
  cases e : A.free with
  | nil => exact ⟨rfl, Ar.top_nil e⟩
  | cons i fs => rw [Ar.top_of e] at h; simp at h
def hs1 (k : Nat) : List (Int × Int) := (List.range k).map fun i : Nat => ((i : Int), (0 : Int))
theorem hs1_succ (k : Nat) : hs1 (k + 1) = hs1 k ++ [((k : Int), (0 : Int))] := by simp [hs1, List.range_succ]
structure Gv (A : Ar) (n : Nat) (live given : List (Int × Int)) : Prop where
  lv : Lv A n live
  free : A.free = (given.map fun p => p.1.toNat).reverse
  pos : ∀ p ∈ given, 0 ≤ p.1
  zero : ∀ p ∈ live, p.2 = 0
  one : ∀ i ∈ A.free, A.turn[i]? = some 1
theorem tkn_at {n k : Nat} (hn : n ≤ 4096) (hk : k ≤ n) (s u : Int) : ((Ar.new n).takes k).at s = some u ↔ 0 ≤ s ∧ s < k ∧ u = 0 := by
  rw [takes_new hk]
  unfold Ar.at Ar.tkn
  dsimp only
  by_cases h0 : 0 ≤ s
  · by_cases h1 : s < k
    · have e1 : (List.replicate k true ++ List.replicate (n - k) false)[s.toNat]? = some true := by
        rw [List.getElem?_append_left (by simp; omega), List.getElem?_replicate, if_pos (by omega)]
      have e2 : (List.replicate n (0 : Int))[s.toNat]? = some 0 := by rw [List.getElem?_replicate, if_pos (by omega)]
      simp only [e1, e2, Option.getD_some]
      simp [h0, h1, eq_comm]
    · have e1 : (List.replicate k true ++ List.replicate (n - k) false)[s.toNat]? ≠ some true := by
        rw [List.getElem?_append_right (by simp; omega), List.getElem?_replicate]
        split <;> simp
      simp only [e1, and_false, if_false]
      simp; omega
  · simp [h0]
theorem tkn_ok {n : Nat} (h1 : 1 ≤ n) (hn : n ≤ 4096) : ∀ {k : Nat}, k ≤ n → AOk ((Ar.new n).takes k)
  | 0, _ => (new_rok hn).aok (by simpa [Ar.takes, Ar.new] using h1)
  | k + 1, hk => (tkn_ok h1 hn (k := k) (by omega)).take
theorem takes_size (A : Ar) : ∀ k, (A.takes k).turn.length = A.turn.length
  | 0 => rfl
  | k + 1 => by rw [Ar.takes, take_size, takes_size A k]
theorem Gv.start {n : Nat} (h1 : 1 ≤ n) (hn : n ≤ 4096) : Gv ((Ar.new n).takes n) n (hs1 n) [] := by
  refine ⟨⟨tkn_ok h1 hn (Nat.le_refl _), by rw [takes_size]; simp [Ar.new], fun s u => ?_, ?_⟩, ?_, by simp, ?_, ?_⟩
  · rw [tkn_at hn (Nat.le_refl _)]
    simp only [hs1, List.mem_map, List.mem_range, Prod.mk.injEq]
    constructor
    · rintro ⟨i, hi, rfl, rfl⟩; exact ⟨by omega, by omega, rfl⟩
    · rintro ⟨h2, h3, rfl⟩; exact ⟨s.toNat, by omega, by omega, rfl⟩
  · simp only [hs1, List.map_map]
    rw [List.nodup_iff_pairwise_ne, List.pairwise_map]
    refine List.Pairwise.imp ?_ (List.nodup_iff_pairwise_ne.1 (List.nodup_range (n := n)))
    intro a b hab h
    simp only [Function.comp] at h
    exact hab (by omega)
  · rw [takes_new (Nat.le_refl _)]; simp [Ar.tkn]
  · intro p hp
    simp only [hs1, List.mem_map] at hp
    obtain ⟨i, _, rfl⟩ := hp; rfl
  · rw [takes_new (Nat.le_refl _)]; simp [Ar.tkn]
theorem Gv.give {A : Ar} {n k : Nat} {live given : List (Int × Int)} (h : Gv A n live given) (hk : k < live.length) :
    A.at live[k].1 = some live[k].2 ∧ Gv (A.giveH live[k].1 live[k].2) n (live.take k ++ live.drop (k + 1)) (given ++ [live[k]]) := by
  obtain ⟨hat, hlv⟩ := h.lv.give hk
  obtain ⟨h1, h2, h3⟩ := (Ar.at_iff h.lv.ok.rok).1 hat
  obtain ⟨hl, hu⟩ := List.getElem?_eq_some_iff.1 h3
  have hz := h.zero _ (List.getElem_mem hk)
  have e : A.giveH live[k].1 live[k].2 = A.give live[k].1.toNat := by rw [Ar.giveH, if_pos hat]
  have hw : IntKind.i64.wrap (1 : Int) = 1 := IntWalk.i64_in _ (by omega)
  refine ⟨hat, hlv, ?_, ?_, ?_, ?_⟩
  · rw [e]; simp [Ar.give, h.free]
  · intro p hp
    rcases List.mem_append.1 hp with hp | hp
    · exact h.pos p hp
    · simp only [List.mem_singleton] at hp; subst hp; exact h1
  · intro p hp
    rcases List.mem_append.1 hp with hp | hp
    · exact h.zero p (List.mem_of_mem_take hp)
    · exact h.zero p (List.mem_of_mem_drop hp)
  · rw [e]
    intro i hi
    simp only [Ar.give, List.mem_cons] at hi ⊢
    by_cases hij : live[k].1.toNat = i
    · subst hij
      rw [List.getElem?_set_self hl, h3, hz]; simp [hw]
    · rw [List.getElem?_set_ne hij]
      rcases hi with hi | hi
      · exact absurd hi.symm hij
      · exact h.one i hi
theorem rev_take {α : Type} {l : List α} {i : Nat} (h : i < l.length) : (l.take (i + 1)).reverse = l[i] :: (l.take i).reverse := by
  rw [List.take_succ_eq_append_getElem h]; simp
/-- What was given back last is taken next. -/
structure Bk (A : Ar) (given : List (Int × Int)) (i : Nat) : Prop where
  ok : AOk A
  free : A.free = ((given.take i).map fun p => p.1.toNat).reverse
  pos : ∀ p ∈ given, 0 ≤ p.1
  one : ∀ i ∈ A.free, A.turn[i]? = some 1
theorem Gv.bk {A : Ar} {n : Nat} {live given : List (Int × Int)} (h : Gv A n live given) : Bk A given given.length :=
  ⟨h.lv.ok, by rw [List.take_length]; exact h.free, h.pos, h.one⟩
theorem Bk.take {A : Ar} {given : List (Int × Int)} {i : Nat} (h : Bk A given (i + 1)) (hi : i < given.length) : A.top = (given[i].1, 1, 0) ∧ Bk A.take given i := by
  have hf : A.free = given[i].1.toNat :: ((given.take i).map fun p => p.1.toNat).reverse := by
    rw [h.free, List.map_take, rev_take (by simpa using hi)]; simp [List.map_take]
  have h0 := h.pos _ (List.getElem_mem hi)
  constructor
  · rw [Ar.top_of hf, h.one _ (by rw [hf]; exact List.mem_cons_self)]
    simp; omega
  · refine ⟨h.ok.take, ?_, h.pos, ?_⟩
    · rw [Ar.take_cons hf]
    · rw [Ar.take_cons hf]
      intro j hj
      exact h.one j (by rw [hf]; exact List.mem_cons_of_mem _ hj)
theorem Bk.done {A : Ar} {given : List (Int × Int)} (h : Bk A given 0) : A.top = (0, 0, 4) := Ar.top_nil (by rw [h.free]; simp)
/-! ### Clear -/
theorem clrs_inv {A : Ar} (hA : AOk A) : ∀ {j : Nat}, j ≤ A.turn.length → ∃ X : List (Int × Int), A.lives = A.livesTo (A.turn.length - j) ++ X ∧ (A.clrs j).free = X.map (fun p => p.1.toNat) ++ A.free ∧
    (∀ s, (A.clrs j).at s = if s < ((A.turn.length - j : Nat) : Int) then A.at s else none) ∧ AOk (A.clrs j)
  | 0, _ => by
    refine ⟨[], by simp [Ar.lives], by simp [Ar.clrs], fun s => ?_, hA⟩
    simp only [Ar.clrs, Nat.sub_zero]
    split
    · rfl
    · exact Ar.at_off (by have := hA.len; omega)
  | j + 1, hj => by
    obtain ⟨X, h1, h2, h3, h4⟩ := clrs_inv hA (j := j) (by omega)
    obtain ⟨i, hi⟩ : ∃ i, A.turn.length - 1 - j = i := ⟨_, rfl⟩
    have e1 : A.turn.length - j = i + 1 := by omega
    have e2 : A.turn.length - (j + 1) = i := by omega
    have hat : (A.clrs j).at (i : Int) = A.at i := by rw [h3, if_pos (by omega)]
    rw [e1] at h1 h3
    rw [e2]
    cases hu : A.at (i : Int) with
    | none =>
      have hc : A.clrs (j + 1) = A.clrs j := clrs_no (by rw [hi, hat, hu])
      rw [hc]
      rw [livesTo_no hu] at h1
      refine ⟨X, h1, h2, fun s => ?_, h4⟩
      rw [h3]
      by_cases hs : s < (i : Int)
      · rw [if_pos (by omega), if_pos hs]
      · rw [if_neg hs]
        split
        · have : s = i := by omega
          subst this; exact hu
        · rfl
    | some u =>
      have hg : (A.clrs j).at (i : Int) = some u := by rw [hat, hu]
      have hc : A.clrs (j + 1) = (A.clrs j).giveH (i : Int) u := by
        have := clrs_yes (A := A) (j := j) (u := u) (by rw [hi]; exact hg)
        rw [hi] at this; exact this
      have hgv : (A.clrs j).giveH (i : Int) u = (A.clrs j).give i := by rw [Ar.giveH, if_pos hg]; simp
      rw [livesTo_yes hu] at h1
      refine ⟨((i : Int), u) :: X, by rw [h1]; simp, ?_, fun s => ?_, ?_⟩
      · rw [hc, hgv]; simp [Ar.give, h2]
      · rw [hc, hgv, at_give (by simpa using ((Ar.at_iff h4.rok).1 hg).2.1), h3]
        by_cases hs : s < (i : Int)
        · rw [if_neg (by omega), if_pos (by omega), if_pos hs]
        · rw [if_neg hs]
          split
          · rfl
          · rw [if_neg (by omega)]
      · rw [hc]; exact h4.giveH _ _
/-- Behind Clear nothing is live, and the slots that were are the first of the free ones. -/
theorem clrs_all {A : Ar} (hA : AOk A) : (A.clrs A.turn.length).frees = A.lives.map Prod.fst ++ A.frees ∧ Lv (A.clrs A.turn.length) A.turn.length [] := by
  obtain ⟨X, h1, h2, h3, h4⟩ := clrs_inv hA (Nat.le_refl _)
  rw [Nat.sub_self] at h1 h3
  have h1' : A.lives = X := h1
  constructor
  · rw [Ar.frees, h2, h1', List.map_append, List.map_map]
    congr 1
    apply List.map_congr_left
    intro p hp
    rw [← h1'] at hp
    have := (livesTo_mem (A := A) (k := A.turn.length) (s := p.1) (u := p.2)).1 hp
    simp; omega
  · refine ⟨h4, clrs_size _ _, fun s u => ?_, by simp⟩
    rw [h3]
    simp only [List.not_mem_nil, false_iff]
    split
    · have : A.at s = none := Ar.at_off (.inl (by simpa using ‹_›))
      rw [this]; simp
    · simp
end Go.Proofs.Ytmlebadfedleoaa.Sx
