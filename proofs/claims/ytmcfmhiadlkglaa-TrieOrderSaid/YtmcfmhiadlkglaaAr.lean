/-
  Arenas: what an arena is in memory, what it says, and what taking and giving back make of it. No condition. Nothing of a program stands here but the numbers of two types, which are given.
-/
import Derived.Test.YtmcfmhiadlkglaaMore2
namespace Go.Proofs.Ytmcfmhiadlkglaa.Sx
open Go
set_option linter.unusedVariables false
/-! ### records in a block, one of them changed -/
theorem lay_left : ∀ (vs xs ys : List Value) (i : Nat), i + vs.length ≤ xs.length → lay (xs ++ ys) i vs = lay xs i vs ++ ys
  | [], _, _, _, _ => rfl
  | v :: vs, xs, ys, i, h => by
    simp only [List.length_cons] at h
    simp only [lay]
    rw [List.set_append_left _ _ (by omega), lay_left vs _ ys (i + 1) (by simp; omega)]
theorem lay_right : ∀ (vs xs ys : List Value) (i : Nat), lay (xs ++ ys) (xs.length + i) vs = xs ++ lay ys i vs
  | [], _, _, _ => rfl
  | v :: vs, xs, ys, i => by
    simp only [lay]
    rw [List.set_append_right _ _ (by omega), show xs.length + i - xs.length = i from by omega, show xs.length + i + 1 = xs.length + (i + 1) from by omega, lay_right vs xs _ (i + 1)]
theorem lay_flat {α : Type} {enc : α → List Value} {m : Nat} (hm : ∀ x, (enc x).length = m) {vs : List Value} {j : Nat} {r' : α} : ∀ {rs : List α} {k : Nat} (hk : k < rs.length), j + vs.length ≤ m → lay (enc rs[k]) j vs = enc r' →
    lay (rs.flatMap enc) (k * m + j) vs = (rs.set k r').flatMap enc
  | [], k, hk, _, _ => by simp at hk
  | r :: rs, 0, _, hj, e => by
    simp only [List.getElem_cons_zero] at e
    simp only [List.flatMap_cons, List.set_cons_zero, Nat.zero_mul, Nat.zero_add]
    rw [lay_left _ _ _ _ (by rw [hm]; exact hj), e]
  | r :: rs, k + 1, hk, hj, e => by
    simp only [List.getElem_cons_succ] at e
    have ih := lay_flat hm (rs := rs) (k := k) (by simpa using hk) hj e
    simp only [List.flatMap_cons, List.set_cons_succ]
    rw [← ih, Nat.succ_mul, show k * m + m + j = (enc r).length + (k * m + j) from by rw [hm]; omega, lay_right]
theorem Sep.flatSet {α : Type} {enc : α → List Value} {m b i k j : Nat} {T : TypeId} {vs : List Value} {rs : List α} (r' : α) {l : List HP} {w : World} (h : Sep (blk b (lay (rs.flatMap enc) i vs) T :: l) w) (hm : ∀ x, (enc x).length = m) (hk : k < rs.length)
    (hi : i = k * m + j) (hj : j + vs.length ≤ m) (e : lay (enc rs[k]) j vs = enc r') : Sep (blk b ((rs.set k r').flatMap enc) T :: l) w := by
  subst hi; rw [lay_flat hm hk hj e] at h; exact h
theorem Rds.part {l : List HP} {b i j : Nat} {vs us : List Value} (h : Rds l b i vs) (e : (vs.drop j).take us.length = us) : Rds l b (i + j) us := by
  intro w hw k v hk
  have := h w hw (j + k) v (by
    have hkl : k < us.length := (List.getElem?_eq_some_iff.1 hk).1
    rw [← e] at hk
    rw [List.getElem?_take_of_lt hkl, List.getElem?_drop] at hk
    exact hk)
  rw [Nat.add_assoc]; exact this
theorem Rd.flat {α : Type} {l l' : List HP} {b k m j : Nat} {xs : List α} {T : TypeId} {enc : α → List Value} {v : Value} (p : Pk (Sx.blk b (xs.flatMap enc) T) l l') (hm : ∀ x, (enc x).length = m) (hk : k < xs.length) (hj : (enc xs[k])[j]? = some v) : Rd l b (k * m + j) v := by
  intro w hw
  have hjm : j < m := by rw [← hm xs[k]]; exact (List.getElem?_eq_some_iff.1 hj).1
  refine Rd.blk p ?_ w hw
  have := flat_get hm xs [] k j hk hjm
  rw [List.append_nil] at this
  rw [this, hj]
/-! ### how many are taken -/
def cnt : List Bool → Int
  | [] => 0
  | b :: bs => (if b then 1 else 0) + cnt bs
theorem cnt_set : ∀ {bs : List Bool} {i : Nat} (h : i < bs.length) (b : Bool), cnt (bs.set i b) = cnt bs + (if b then 1 else 0) - (if bs[i] then 1 else 0)
  | [], i, h, _ => by simp at h
  | x :: xs, 0, _, b => by simp only [List.set_cons_zero, cnt, List.getElem_cons_zero]; omega
  | x :: xs, i + 1, h, b => by
    have := cnt_set (bs := xs) (i := i) (by simpa using h) b
    simp only [List.set_cons_succ, cnt, List.getElem_cons_succ, this]; omega
theorem cnt_bd : ∀ bs : List Bool, 0 ≤ cnt bs ∧ cnt bs ≤ bs.length
  | [] => by simp [cnt]
  | b :: bs => by have := cnt_bd bs; simp only [cnt, List.length_cons]; split <;> omega
/-! ### the state -/
structure Ar where
  free : List Nat
  turn : List Int
  tk : List Bool
def hd : List Nat → Int
  | [] => -1
  | i :: _ => i
abbrev Srow := Int × Int × Bool × Int
def eS (r : Srow) : List Value := [.int .i64 r.1, .int .i64 r.2.1, .bool r.2.2.1, .int .i64 r.2.2.2]
theorem eS_len (r : Srow) : (eS r).length = 4 := rfl
/-- The free list, as the slots link it. -/
def Chn (rs : List Srow) : List Nat → Prop
  | [] => True
  | i :: fs => (∃ r, rs[i]? = some r ∧ r.2.2.2 = hd fs) ∧ Chn rs fs
structure AOk (A : Ar) : Prop where
  len : A.tk.length = A.turn.length
  pos : 1 ≤ A.turn.length ∧ A.turn.length ≤ 4096
  nodup : A.free.Nodup
  free : ∀ i, i ∈ A.free ↔ A.tk[i]? = some false
structure Rep (A : Ar) (rs : List Srow) : Prop where
  ok : AOk A
  len : rs.length = A.turn.length
  row : ∀ (i : Nat) (r : Srow), rs[i]? = some r → r.1 = i ∧ A.turn[i]? = some r.2.1 ∧ A.tk[i]? = some r.2.2.1
  chn : Chn rs A.free
def arenaAt (TA TS b br : Nat) (A : Ar) (rs : List Srow) : HP := star (pure' (Rep A rs)) (star (blk b [.slice (some ⟨br, 0, none⟩) rs.length rs.length, .int .i64 (hd A.free), .int .i64 (cnt A.tk)] TA) (blk br (rs.flatMap eS) TS))
def arena (TA TS b : Nat) (A : Ar) : HP := ex fun br : Nat => ex fun rs : List Srow => arenaAt TA TS b br A rs
theorem Sep.arenaE {TA TS b : Nat} {A : Ar} {l : List HP} {w : World} (h : Sep (arena TA TS b A :: l) w) :
    ∃ br rs, Rep A rs ∧ Sep (blk b [.slice (some ⟨br, 0, none⟩) rs.length rs.length, .int .i64 (hd A.free), .int .i64 (cnt A.tk)] TA :: blk br (rs.flatMap eS) TS :: l) w := by
  obtain ⟨br, h⟩ := h.exE
  obtain ⟨rs, h⟩ := h.exE
  obtain ⟨h1, h2⟩ := h.split.pureE
  exact ⟨br, rs, h1, h2.split⟩
theorem Sep.arenaI {TA TS b br n : Nat} {A : Ar} {rs : List Srow} {l : List HP} {w : World} {f c : Int} (hA : Rep A rs) (hn : n = rs.length) (hf : f = hd A.free) (hc : c = cnt A.tk)
    (h : Sep (blk b [.slice (some ⟨br, 0, none⟩) n n, .int .i64 f, .int .i64 c] TA :: blk br (rs.flatMap eS) TS :: l) w) : Sep (arena TA TS b A :: l) w := by
  subst hn hf hc
  exact Sep.exI br (Sep.exI rs (Sep.join (Sep.pureI hA (Sep.join h))))
theorem Chn.set {rs : List Srow} {i : Nat} {r' : Srow} : ∀ {fs : List Nat}, Chn rs fs → i ∉ fs → Chn (rs.set i r') fs
  | [], _, _ => trivial
  | j :: fs, ⟨⟨r, h1, h2⟩, h3⟩, hi => by
    simp only [List.mem_cons, not_or] at hi
    exact ⟨⟨r, by rw [List.getElem?_set_ne hi.1]; exact h1, h2⟩, Chn.set h3 hi.2⟩
/-! ### taking and giving back -/
def Ar.take (A : Ar) : Ar :=
  match A.free with
  | [] => A
  | i :: fs => { A with free := fs, tk := A.tk.set i true }
def Ar.top (A : Ar) : Int × Int × Int :=
  match A.free with
  | [] => (0, 0, 4)
  | i :: _ => (i, A.turn[i]?.getD 0, 0)
def Ar.give (A : Ar) (i : Nat) : Ar := { free := i :: A.free, turn := A.turn.set i (IntKind.i64.wrap (A.turn[i]?.getD 0 + 1)), tk := A.tk.set i false }
/-- The handle of a slot, if it is taken. -/
def Ar.at (A : Ar) (s : Int) : Option Int := if 0 ≤ s ∧ A.tk[s.toNat]? = some true then some (A.turn[s.toNat]?.getD 0) else none
def Ar.giveH (A : Ar) (s u : Int) : Ar := if A.at s = some u then A.give s.toNat else A
def Ar.giveE (A : Ar) (s u : Int) : Int := if A.at s = some u then 0 else 6
theorem Ar.at_some {A : Ar} {rs : List Srow} (h : Rep A rs) {i : Nat} {r : Srow} (hr : rs[i]? = some r) (ht : r.2.2.1 = true) : A.at (i : Int) = some r.2.1 := by
  obtain ⟨h1, h2, h3⟩ := h.row i r hr
  unfold Ar.at
  rw [if_pos ⟨by omega, by simpa [ht] using h3⟩]; simp [h2]
theorem Ar.at_no {A : Ar} {rs : List Srow} (h : Rep A rs) {i : Nat} {r : Srow} (hr : rs[i]? = some r) (ht : ¬ r.2.2.1 = true) : A.at (i : Int) = none := by
  obtain ⟨h1, h2, h3⟩ := h.row i r hr
  unfold Ar.at
  rw [if_neg (fun e => ht (by have := e.2; simp [h3] at this; exact this))]
theorem Ar.at_out {A : Ar} {rs : List Srow} (h : Rep A rs) {s : Int} (hs : s < 0 ∨ (rs.length : Int) ≤ s) : A.at s = none := by
  unfold Ar.at
  rw [if_neg]
  rintro ⟨h1, h2⟩
  have := (List.getElem?_eq_some_iff.1 h2).1
  have := h.len; have := h.ok.len
  omega
/-- What At says. -/
def atV (A : Ar) (s : Int) : Value := .tuple [.agg [.int .i64 (if (A.at s).isSome then s else 0), .int .i64 ((A.at s).getD 0)].toArray, .bool (A.at s).isSome].toArray
theorem atV_none {A : Ar} {s : Int} (h : A.at s = none) : atV A s = .tuple [.agg [.int .i64 0, .int .i64 0].toArray, .bool false].toArray := by simp [atV, h]
theorem atV_some {A : Ar} {s u : Int} (h : A.at s = some u) : atV A s = .tuple [.agg [.int .i64 s, .int .i64 u].toArray, .bool true].toArray := by simp [atV, h]
theorem Rep.first {A : Ar} {rs : List Srow} (h : Rep A rs) {i : Nat} {fs : List Nat} (e : A.free = i :: fs) : ∃ r, rs[i]? = some r ∧ r.1 = i ∧ A.turn[i]? = some r.2.1 ∧ A.tk[i]? = some false ∧ r.2.2.1 = false ∧ r.2.2.2 = hd fs := by
  have hc := h.chn
  rw [e] at hc
  obtain ⟨⟨r, h1, h2⟩, _⟩ := hc
  obtain ⟨h3, h4, h5⟩ := h.row i r h1
  have h6 := (h.ok.free i).1 (by rw [e]; exact List.mem_cons_self)
  rw [h6] at h5
  exact ⟨r, h1, h3, h4, h6, by simpa using h5.symm, h2⟩
theorem Rep.take {A : Ar} {rs : List Srow} (h : Rep A rs) {i : Nat} {fs : List Nat} {r : Srow} (e : A.free = i :: fs) (hr : rs[i]? = some r) : Rep A.take (rs.set i (r.1, r.2.1, true, r.2.2.2)) := by
  have hnd := h.ok.nodup
  rw [e, List.nodup_cons] at hnd
  have hi : i < A.tk.length := (List.getElem?_eq_some_iff.1 ((h.ok.free i).1 (by rw [e]; exact List.mem_cons_self))).1
  have hf : A.take.free = fs := by simp [Ar.take, e]
  have ht : A.take.tk = A.tk.set i true := by simp [Ar.take, e]
  have hu : A.take.turn = A.turn := by simp [Ar.take, e]
  refine ⟨⟨?_, by rw [hu]; exact h.ok.pos, ?_, ?_⟩, ?_, ?_, ?_⟩
  · rw [ht, hu, List.length_set]; exact h.ok.len
  · rw [hf]; exact hnd.2
  · intro j
    rw [hf, ht]
    by_cases hij : i = j
    · subst hij
      rw [List.getElem?_set_self hi]
      constructor
      · intro h'; exact absurd h' hnd.1
      · intro h'; simp at h'
    · rw [List.getElem?_set_ne hij, ← h.ok.free j, e, List.mem_cons]
      constructor
      · intro h'; exact .inr h'
      · rintro (h' | h')
        · exact absurd h'.symm hij
        · exact h'
  · rw [hu, List.length_set]; exact h.len
  · intro j r' hj
    rw [ht, hu]
    by_cases hij : i = j
    · subst hij
      rw [List.getElem?_set_self (List.getElem?_eq_some_iff.1 hr).1] at hj
      cases hj
      have := h.row i r hr
      exact ⟨this.1, this.2.1, by rw [List.getElem?_set_self hi]⟩
    · rw [List.getElem?_set_ne hij] at hj ⊢
      exact h.row j r' hj
  · rw [hf]
    have := h.chn
    rw [e] at this
    exact Chn.set this.2 hnd.1
theorem Rep.give {A : Ar} {rs : List Srow} (h : Rep A rs) {i : Nat} {r : Srow} (ht : A.tk[i]? = some true) (hr : rs[i]? = some r) : Rep (A.give i) (rs.set i (r.1, IntKind.i64.wrap (r.2.1 + 1), false, hd A.free)) := by
  have hi : i < A.tk.length := (List.getElem?_eq_some_iff.1 ht).1
  have hil : i < rs.length := (List.getElem?_eq_some_iff.1 hr).1
  have hlen := h.ok.len
  have hrl := h.len
  have hni : i ∉ A.free := fun hm => by rw [h.ok.free i, ht] at hm; simp at hm
  refine ⟨⟨?_, ?_, ?_, ?_⟩, ?_, ?_, ?_⟩
  · simp [Ar.give, hlen]
  · simp [Ar.give, h.ok.pos]
  · simp only [Ar.give, List.nodup_cons]; exact ⟨hni, h.ok.nodup⟩
  · intro j
    simp only [Ar.give, List.mem_cons]
    by_cases hij : i = j
    · subst hij; rw [List.getElem?_set_self hi]; simp
    · rw [List.getElem?_set_ne hij, ← h.ok.free j]
      constructor
      · rintro (h' | h')
        · exact absurd h'.symm hij
        · exact h'
      · intro h'; exact .inr h'
  · simp [Ar.give, hrl]
  · intro j r' hj
    simp only [Ar.give]
    by_cases hij : i = j
    · subst hij
      rw [List.getElem?_set_self hil] at hj
      cases hj
      have := h.row i r hr
      rw [List.getElem?_set_self hi, List.getElem?_set_self (by omega), this.2.1]
      exact ⟨this.1, rfl, rfl⟩
    · rw [List.getElem?_set_ne hij] at hj
      rw [List.getElem?_set_ne hij, List.getElem?_set_ne hij]
      exact h.row j r' hj
  · exact ⟨⟨_, List.getElem?_set_self hil, rfl⟩, Chn.set h.chn hni⟩
theorem hd_neg {l : List Nat} (h : hd l < 0) : l = [] := by
  cases l with
  | nil => rfl
  | cons i _ => simp only [hd] at h; omega
theorem hd_pos {l : List Nat} (h : 0 ≤ hd l) : ∃ i fs, l = i :: fs := by
  cases l with
  | nil => simp [hd] at h
  | cons i fs => exact ⟨i, fs, rfl⟩
theorem live_yes {A : Ar} {s u : Int} (h : (A.at s).isSome = true) : Value.bool (decide ((if (A.at s).isSome then s else 0) = s ∧ (A.at s).getD 0 = u)) = .bool (decide (A.at s = some u)) := by
  cases hv : A.at s <;> simp_all
theorem live_no {A : Ar} {s u : Int} (h : (A.at s).isSome = false) : Value.bool false = .bool (decide (A.at s = some u)) := by
  cases hv : A.at s <;> simp_all
theorem Rep.take_fst {A : Ar} {rs : List Srow} (h : Rep A rs) {i : Nat} {fs : List Nat} {r : Srow} (e : A.free = i :: fs) (h5 : r.2.2.2 = hd fs) : r.2.2.2 = hd A.take.free := by simp [Ar.take, e, h5]
theorem Rep.take_cnt {A : Ar} {rs : List Srow} (h : Rep A rs) {i : Nat} {fs : List Nat} (e : A.free = i :: fs) : cnt A.tk + 1 = cnt A.take.tk := by
  have h3 := (h.ok.free i).1 (by rw [e]; exact List.mem_cons_self)
  obtain ⟨hi, hv⟩ := List.getElem?_eq_some_iff.1 h3
  rw [show A.take.tk = A.tk.set i true from by simp [Ar.take, e], cnt_set hi, hv]; simp
theorem Ar.take_nil {A : Ar} (e : A.free = []) : A.take = A := by unfold Ar.take; split <;> simp_all
theorem Ar.top_nil {A : Ar} (e : A.free = []) : A.top = (0, 0, 4) := by unfold Ar.top; split <;> simp_all
theorem Ar.top_cons {A : Ar} {i : Nat} {fs : List Nat} {u : Int} (e : A.free = i :: fs) (h : A.turn[i]? = some u) : A.top = ((i : Int), u, 0) := by unfold Ar.top; split <;> simp_all
theorem Rep.at_inv {A : Ar} {rs : List Srow} (h : Rep A rs) {s u : Int} (e : A.at s = some u) : ∃ (i : Nat) (r : Srow), s = i ∧ rs[i]? = some r ∧ r.1 = i ∧ r.2.1 = u ∧ r.2.2.1 = true ∧ A.tk[i]? = some true := by
  unfold Ar.at at e
  split at e
  · rename_i hc
    have hi := (List.getElem?_eq_some_iff.1 hc.2).1
    have h1 := h.len
    have h2 := h.ok.len
    have hr : rs[s.toNat]? = some (rs[s.toNat]'(by omega)) := by simp
    obtain ⟨h3, h4, h5⟩ := h.row _ _ hr
    rw [h4] at e
    rw [hc.2] at h5
    exact ⟨s.toNat, _, by omega, hr, h3, by simpa using e, by simpa using h5.symm, hc.2⟩
  · cases e
theorem Rep.give_cnt {A : Ar} {i : Nat} (h : A.tk[i]? = some true) : cnt A.tk - 1 = cnt (A.give i).tk := by
  obtain ⟨hi, hv⟩ := List.getElem?_eq_some_iff.1 h
  rw [show (A.give i).tk = A.tk.set i false from rfl, cnt_set hi, hv]; simp
theorem Ar.giveH_yes {A : Ar} {i : Nat} {u : Int} (h : A.at (i : Int) = some u) : A.giveH i u = A.give i := by simp [Ar.giveH, h]
theorem Ar.giveH_no {A : Ar} {s u : Int} (h : ¬ A.at s = some u) : A.giveH s u = A := by simp [Ar.giveH, h]
end Go.Proofs.Ytmcfmhiadlkglaa.Sx
