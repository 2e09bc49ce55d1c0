/-
  The reference's arena: three lists in memory, in the same states as an arena. Nothing of a program stands here.
-/
import Derived.Test.YtmlebadfedleoaaInts
import Derived.Test.YtmlebadfedleoaaAuto
namespace Go.Proofs.Ytmlebadfedleoaa.Sx
open Go
set_option linter.unusedVariables false
structure ROk (A : Ar) : Prop where
  len : A.tk.length = A.turn.length
  most : A.turn.length ≤ 4096
  nodup : A.free.Nodup
  free : ∀ i, i ∈ A.free ↔ A.tk[i]? = some false
theorem AOk.rok {A : Ar} (h : AOk A) : ROk A := ⟨h.len, h.pos.2, h.nodup, h.free⟩
theorem ROk.lt {A : Ar} (h : ROk A) {i : Nat} (hi : i ∈ A.free) : i < A.turn.length := by
  have := (List.getElem?_eq_some_iff.1 ((h.free i).1 hi)).1
  have := h.len; omega
theorem ROk.free_len {A : Ar} (h : ROk A) : A.free.length ≤ A.turn.length := nodup_len h.nodup fun _ hi => h.lt hi
abbrev RarX := (Option Addr × Nat) × (Option Addr × Nat) × (Option Addr × Nat)
abbrev rarL (TR TI TB b : Nat) (A : Ar) (p : RarX) : List HP :=
  [blk b [.slice p.1.1 A.frees.length p.1.2, .slice p.2.1.1 A.turn.length p.2.1.2, .slice p.2.2.1 A.tk.length p.2.2.2] TR,
    sls p.1.1 A.frees.length p.1.2 TI 1 (A.frees.flatMap e1), sls p.2.1.1 A.turn.length p.2.1.2 TI 1 (A.turn.flatMap e1), sls p.2.2.1 A.tk.length p.2.2.2 TB 1 (A.tk.flatMap eb)]
def rar (TR TI TB b : Nat) (A : Ar) : HP := box (fun _ : RarX => ROk A) (rarL TR TI TB b A)
theorem Sep.rarE {TR TI TB b : Nat} {A : Ar} {l : List HP} {w : World} (h : Sep (rar TR TI TB b A :: l) w) :
    ∃ r1 c1 r2 c2 r3 c3, ROk A ∧ Sep (blk b [.slice r1 A.frees.length c1, .slice r2 A.turn.length c2, .slice r3 A.tk.length c3] TR ::
      sls r1 A.frees.length c1 TI 1 (A.frees.flatMap e1) :: sls r2 A.turn.length c2 TI 1 (A.turn.flatMap e1) :: sls r3 A.tk.length c3 TB 1 (A.tk.flatMap eb) :: l) w :=
  let ⟨p, h1, h2⟩ := h.boxE
  ⟨p.1.1, p.1.2, p.2.1.1, p.2.1.2, p.2.2.1, p.2.2.2, h1, h2⟩
theorem Sep.rarI {TR TI TB b n1 n2 n3 : Nat} {A : Ar} {r1 r2 r3 : Option Addr} {c1 c2 c3 : Nat} {l : List HP} {w : World} (hA : ROk A) (h1 : n1 = A.frees.length) (h2 : n2 = A.turn.length) (h3 : n3 = A.tk.length)
    (h : Sep (blk b [.slice r1 n1 c1, .slice r2 n2 c2, .slice r3 n3 c3] TR :: sls r1 n1 c1 TI 1 (A.frees.flatMap e1) :: sls r2 n2 c2 TI 1 (A.turn.flatMap e1) :: sls r3 n3 c3 TB 1 (A.tk.flatMap eb) :: l) w) : Sep (rar TR TI TB b A :: l) w := by
  subst h1 h2 h3
  exact Sep.boxI ((r1, c1), (r2, c2), (r3, c3)) hA h
theorem new_rok {k : Nat} (h : k ≤ 4096) : ROk (Ar.new k) := by
  refine ⟨by simp [Ar.new], by simpa [Ar.new] using h, List.nodup_range, fun i => ?_⟩
  simp only [Ar.new, List.mem_range]
  rw [List.getElem?_replicate]
  by_cases hi : i < k <;> simp [hi]
theorem new_frees (k : Nat) : (Ar.new (k + 1)).frees = (Ar.new k).frees ++ [(k : Int)] := by simp [Ar.new, Ar.frees, List.range_succ]
theorem new_turn (k : Nat) : (Ar.new (k + 1)).turn = (Ar.new k).turn ++ [0] := by simp [Ar.new, List.replicate_succ']
theorem new_tk (k : Nat) : (Ar.new (k + 1)).tk = (Ar.new k).tk ++ [false] := by simp [Ar.new, List.replicate_succ']
theorem Ar.take_cons {A : Ar} {i : Nat} {fs : List Nat} (e : A.free = i :: fs) : A.take = { free := fs, turn := A.turn, tk := A.tk.set i true } := by
  unfold Ar.take; split <;> simp_all
theorem ROk.take {A : Ar} (h : ROk A) : ROk A.take := by
  cases e : A.free with
  | nil => rw [Ar.take_nil e]; exact h
  | cons i fs =>
    have hnd := h.nodup
    rw [e, List.nodup_cons] at hnd
    have hi : i < A.tk.length := (List.getElem?_eq_some_iff.1 ((h.free i).1 (by rw [e]; exact List.mem_cons_self))).1
    rw [Ar.take_cons e]
    refine ⟨by simpa using h.len, h.most, hnd.2, fun j => ?_⟩
    by_cases hij : i = j
    · subst hij
      dsimp only
      rw [List.getElem?_set_self hi]
      simp [hnd.1]
    · dsimp only
      rw [List.getElem?_set_ne hij, ← h.free j, e, List.mem_cons]
      exact ⟨.inr, fun h' => h'.elim (fun h'' => absurd h''.symm hij) id⟩
theorem ROk.give {A : Ar} (h : ROk A) {i : Nat} (ht : A.tk[i]? = some true) : ROk (A.give i) := by
  have hi : i < A.tk.length := (List.getElem?_eq_some_iff.1 ht).1
  have hni : i ∉ A.free := fun hm => by rw [h.free i, ht] at hm; simp at hm
  refine ⟨by simp [Ar.give, h.len], by simp [Ar.give, h.most], ?_, fun j => ?_⟩
  · simp only [Ar.give, List.nodup_cons]; exact ⟨hni, h.nodup⟩
  · simp only [Ar.give, List.mem_cons]
    by_cases hij : i = j
    · subst hij; rw [List.getElem?_set_self hi]; simp
    · rw [List.getElem?_set_ne hij, ← h.free j]
      exact ⟨fun h' => h'.elim (fun h'' => absurd h''.symm hij) id, .inr⟩
theorem Ar.give_eq {A : Ar} {k : Nat} (h : k < A.turn.length) : A.give k = { free := k :: A.free, turn := A.turn.set k (IntKind.i64.wrap (A.turn[k] + 1)), tk := A.tk.set k false } := by
  simp [Ar.give, List.getElem?_eq_getElem h]
/-- What At finds. -/
theorem Ar.at_iff {A : Ar} (h : ROk A) {s u : Int} : A.at s = some u ↔ 0 ≤ s ∧ A.tk[s.toNat]? = some true ∧ A.turn[s.toNat]? = some u := by
  unfold Ar.at
  split
  · rename_i hc
    have h1 := (List.getElem?_eq_some_iff.1 hc.2).1
    have h2 := h.len
    have h3 : s.toNat < A.turn.length := by omega
    simp [hc, List.getElem?_eq_getElem h3]
  · rename_i hc
    simp only [reduceCtorEq, false_iff, not_and]
    exact fun h1 h2 => absurd ⟨h1, h2⟩ hc
theorem Ar.at_here {A : Ar} (h : ROk A) {i : Nat} (hi : i < A.tk.length) (hi2 : i < A.turn.length) (ht : A.tk[i] = true) : A.at (i : Int) = some A.turn[i] := by
  rw [Ar.at_iff h]
  exact ⟨by omega, by simpa [hi] using ht, by simp [hi2]⟩
theorem Ar.at_free {A : Ar} {i : Nat} (hi : i < A.tk.length) (ht : A.tk[i] = false) : A.at (i : Int) = none := by
  unfold Ar.at
  rw [if_neg]
  rintro ⟨_, h2⟩
  rw [Int.toNat_natCast, List.getElem?_eq_getElem hi, ht] at h2
  cases h2
theorem Ar.at_off {A : Ar} {s : Int} (hs : s < 0 ∨ (A.tk.length : Int) ≤ s) : A.at s = none := by
  unfold Ar.at
  rw [if_neg]
  rintro ⟨h1, h2⟩
  have := (List.getElem?_eq_some_iff.1 h2).1
  omega
theorem Sep.arenaOk {TA TS b : Nat} {A : Ar} {l : List HP} {w : World} (h : Sep (arena TA TS b A :: l) w) : AOk A := let ⟨_, _, hA, _⟩ := h.arenaE; hA.ok
theorem cnt_take_succ {bs : List Bool} {k : Nat} (h : k < bs.length) : cnt (bs.take (k + 1)) = cnt (bs.take k) + if bs[k] then 1 else 0 := by
  induction bs generalizing k with
  | nil => simp at h
  | cons b bs ih =>
    cases k with
    | zero => simp [cnt]
    | succ k =>
      have := ih (k := k) (by simpa using h)
      simp only [List.take_succ_cons, cnt, List.getElem_cons_succ, this]; omega
theorem cnt_livesTo {A : Ar} (h : ROk A) : ∀ {k : Nat}, k ≤ A.tk.length → ((A.livesTo k).length : Int) = cnt (A.tk.take k)
  | 0, _ => by simp [Ar.livesTo, cnt]
  | k + 1, hk => by
    have ih := cnt_livesTo h (k := k) (by omega)
    have hl := h.len
    rw [cnt_take_succ (by omega), ← ih]
    by_cases ht : A.tk[k] = true
    · rw [livesTo_yes (Ar.at_here h (by omega) (by omega) ht), List.length_append]; simp [ht]
    · rw [livesTo_no (Ar.at_free (by omega) (by simpa using ht))]; simp [ht]
/-- As many are counted as are listed. -/
theorem cnt_lives {A : Ar} (h : ROk A) : cnt A.tk = (A.lives.length : Int) := by
  have := cnt_livesTo h (k := A.tk.length) (Nat.le_refl _)
  rw [List.take_length] at this
  rw [← this, Ar.lives, h.len]
end Go.Proofs.Ytmlebadfedleoaa.Sx
