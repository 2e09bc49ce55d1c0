/-
  My plain texts put together into one module.
-/
import Derived.Test.YthhndmlfgjcgpaaZPt
import Derived.Test.YthhndmlfgjcgpaaZPa
import Derived.Test.YthhndmlfgjcgpaaZPb
import Derived.MapKept
import Derived.Maps.RangeRun
import Derived.Laws.IdiomRangeMap
namespace Go.Proofs.Ythhndmlfgjcgpaa.Sx
open Go
set_option linter.unusedVariables false
set_option linter.unusedSimpArgs false
end Go.Proofs.Ythhndmlfgjcgpaa.Sx
namespace Go.Proofs.Ythhndmlfgjcgpaa.Sx
open Go
set_option linter.unusedVariables false
set_option linter.unusedSimpArgs false
structure FilI (S n : Nat) (T : Tb) (ks : List Ky) : Prop where
  tf : TF S n T
  keys : T.F.map Fl.k = ks
  slots : T.F.map Fl.s = List.range ks.length
  turns : ∀ f ∈ T.F, f.u = 0
  free : T.A.free = List.range' ks.length (S - ks.length)
  turn : T.A.turn = List.replicate S 0
  le : ks.length ≤ S
section
variable {S n : Nat} {T : Tb} {ks : List Ky}
theorem FilI.len (h : FilI S n T ks) : T.F.length = ks.length := by rw [← h.keys, List.length_map]
theorem FilI.new (h1 : 1 ≤ S) (h2 : S ≤ 4096) : FilI S n { F := [], A := Ar.new S } [] := by
  refine ⟨(new_TI (n := n) h1 h2).tf, rfl, rfl, by simp, ?_, rfl, Nat.zero_le _⟩
  simp [Ar.new, List.range_eq_range']
theorem FilI.wf (h : FilI S n T ks) : ∀ k ∈ ks, WfK k := fun k hk => by
  rw [← h.keys] at hk
  obtain ⟨f, hf, rfl⟩ := List.mem_map.1 hk
  exact h.tf.wf f hf
theorem FilI.at (h : FilI S n T ks) {m : Nat} (hm : m < ks.length) : ∃ f ∈ T.F, f.s = m ∧ f.u = 0 ∧ f.k = ks[m] ∧ T.F[m]? = some f := by
  have hl := h.len
  have h1 : T.F[m]? = some (T.F[m]'(by omega)) := by simp
  refine ⟨T.F[m]'(by omega), List.getElem_mem _, ?_, h.turns _ (List.getElem_mem _), ?_, h1⟩
  · have h2 := congrArg (fun l => l[m]?) h.slots
    simp only [List.getElem?_map, h1, List.getElem?_range hm, Option.map_some] at h2
    exact Option.some.inj h2
  · have h2 := congrArg (fun l => l[m]?) h.keys
    simp only [List.getElem?_map, h1, List.getElem?_eq_getElem hm, Option.map_some] at h2
    exact Option.some.inj h2
theorem FilI.has (h : FilI S n T ks) {k : Ky} (hk : k ∈ ks) : ∃ f ∈ T.F, f.k = k ∧ f.u = 0 := by
  rw [← h.keys] at hk
  obtain ⟨f, hf, e⟩ := List.mem_map.1 hk
  exact ⟨f, hf, e, h.turns f hf⟩
theorem FilI.step (h : FilI S n T ks) {k : Ky} {i : Nat} (hk : WfK k) (hi : i < n) (hn : fndK T.F k = none) (hl : ks.length < S) :
    addR T n k (i : Int) = (((ks.length : Int), 0), 0) ∧ FilI S n (addN T n k (i : Int)) (ks ++ [k]) := by
  have he : T.A.free = ks.length :: List.range' (ks.length + 1) (S - (ks.length + 1)) := by
    rw [h.free, show S - ks.length = (S - (ks.length + 1)) + 1 from by omega]; rfl
  have hu : T.A.turn[ks.length]?.getD 0 = 0 := by rw [h.turn, List.getElem?_replicate, if_pos hl]; rfl
  obtain ⟨h1, h2⟩ := addR_new hi hn he
  rw [hu] at h1 h2
  refine ⟨h1, ?_⟩
  have htf := h.tf.add he hk hi hn
  rw [hu] at htf
  rw [h2]
  refine ⟨htf, ?_, ?_, ?_, ?_, ?_, ?_⟩
  · rw [List.map_append, h.keys]; rfl
  · rw [List.map_append, h.slots, List.length_append, show ks.length + [k].length = ks.length + 1 from rfl, List.range_succ]; rfl
  · intro f hf
    rcases List.mem_append.1 hf with hf | hf
    · exact h.turns f hf
    · simp only [List.mem_singleton] at hf; subst hf; rfl
  · rw [List.length_append, show ks.length + [k].length = ks.length + 1 from rfl]
    show T.A.take.free = _
    simp [Ar.take, he]
  · show T.A.take.turn = _
    have : T.A.take.turn = T.A.turn := by simp [Ar.take, he]
    rw [this]; exact h.turn
  · rw [List.length_append, show ks.length + [k].length = ks.length + 1 from rfl]; omega
theorem FilI.full (h : FilI S n T ks) {k : Ky} {i : Nat} (hi : i < n) (hn : fndK T.F k = none) (hl : ¬ ks.length < S) : addR T n k (i : Int) = ((0, 0), 4) ∧ addN T n k (i : Int) = T := by
  have := h.le
  refine addR_full (by omega) hn ?_
  rw [h.free, show S - ks.length = 0 from by omega]; rfl
theorem FilI.any (h : FilI S n T ks) {k : Ky} {i : Nat} (hk : WfK k) (hi : i < n) : (addR T n k (i : Int)).2 = 0 ∧ FilI S n (addN T n k (i : Int)) (ks ++ [k]) ∨ ((addR T n k (i : Int)).2 = 4 ∨ (addR T n k (i : Int)).2 = 160) ∧ addN T n k (i : Int) = T := by
  cases hf : fndK T.F k with
  | some f =>
    obtain ⟨h1, h2⟩ := addR_has (T := T) (n := n) (k := k) (i := (i : Int)) (by omega) hf
    exact .inr ⟨.inr (by rw [h1]), h2⟩
  | none =>
    by_cases hl : ks.length < S
    · obtain ⟨h1, h2⟩ := h.step hk hi hf hl
      exact .inl ⟨by rw [h1], h2⟩
    · obtain ⟨h1, h2⟩ := h.full hi hf hl
      exact .inr ⟨.inl (by rw [h1]), h2⟩
end
end Go.Proofs.Ythhndmlfgjcgpaa.Sx
namespace Go.Proofs.Ythhndmlfgjcgpaa.Sx
open Go
set_option linter.unusedVariables false
abbrev RowG (α : Type) := (Option Addr × Nat) × List α
end Go.Proofs.Ythhndmlfgjcgpaa.Sx
namespace Go.Proofs.Ythhndmlfgjcgpaa.Sx
open Go
set_option linter.unusedVariables false
set_option linter.unusedSimpArgs false
abbrev Hd := Int × Int
structure RowsAre (m : Nat) (ys : List (RowG Hd)) (R : Nat → List Hd) : Prop where
  len : ys.length = m
  at' : ∀ j, j < m → ∃ r c, ys[j]? = some ((r, c), R j)
theorem RowsAre.new {m : Nat} : RowsAre m (List.replicate m (((none, 0), []) : RowG Hd)) (fun _ => []) := ⟨by simp, fun j hj => ⟨none, 0, by rw [List.getElem?_replicate, if_pos hj]⟩⟩
theorem RowsAre.set {m k : Nat} {ys : List (RowG Hd)} {R : Nat → List Hd} (h : RowsAre m ys R) (hk : k < m) {r : Option Addr} {c : Nat} {M : List Hd} : RowsAre m (ys.set k ((r, c), M)) (upd R k M) := by
  refine ⟨by rw [List.length_set]; exact h.len, fun j hj => ?_⟩
  by_cases e : j = k
  · subst e
    exact ⟨r, c, by rw [List.getElem?_set_self (by rw [h.len]; exact hj), upd_eq]⟩
  · rw [List.getElem?_set_ne (fun e2 => e e2.symm), upd_ne e]
    exact h.at' j hj
theorem RowsAre.ext {m : Nat} {ys : List (RowG Hd)} {R R' : Nat → List Hd} (h : RowsAre m ys R) (e : ∀ j, j < m → R j = R' j) : RowsAre m ys R' := ⟨h.len, fun j hj => by rw [← e j hj]; exact h.at' j hj⟩
end Go.Proofs.Ythhndmlfgjcgpaa.Sx
namespace Go.Proofs.Ythhndmlfgjcgpaa.Sx
open Go Go.ChangeMaps
set_option linter.unusedVariables false
set_option linter.unusedSimpArgs false
end Go.Proofs.Ythhndmlfgjcgpaa.Sx
