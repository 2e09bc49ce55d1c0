/-
  Maps from keys to integers, in memory: making one, looking up, a new entry, deleting, the length. Nothing of a program stands here.
-/
import Derived.Test.YtmcfmhiadlkglaaTrie7
import Derived.WideKeyRuns
import Derived.MapKept
namespace Go.Proofs.Ytmcfmhiadlkglaa.Sx
open Go
set_option linter.unusedVariables false
abbrev kvs (K : List (Ky × Int)) : List (Value × Value) := K.map fun x => (vK x.1, .int .i64 x.2)
/-- A map whose entries are the keys with their values. -/
def mapA (b : Nat) (K : List (Ky × Int)) : HP := box (fun x : List MapEntry × Nat => x.1.map (fun e => (e.key, e.val)) = kvs K) (fun x => [pt b (.map x.1.toArray x.2)])
def fnd (k : Ky) : List (Ky × Int) → Nat → Option (Nat × Int)
  | [], _ => none
  | e :: K, i => if e.1 = k then some (i, e.2) else fnd k K (i + 1)
theorem fnd_v {k : Ky} : ∀ {K : List (Ky × Int)} {i : Nat}, (fnd k K i).map (·.2) = findV K k
  | [], _ => rfl
  | e :: K, i => by
    unfold fnd findV
    by_cases h : e.1 = k
    · rw [if_pos h, List.find?_cons]; simp [h]
    · rw [if_neg h, List.find?_cons, beq_eq_false_iff_ne.2 h]
      exact fnd_v
theorem fnd_del {k : Ky} : ∀ {K : List (Ky × Int)} {i j : Nat} {v : Int}, (K.map Prod.fst).Nodup → fnd k K i = some (j, v) → ∃ m, j = i + m ∧ m < K.length ∧ K.eraseIdx m = outK K k
  | [], _, _, _, _, h => by simp [fnd] at h
  | e :: K, i, j, v, hn, h => by
    rw [List.map_cons, List.nodup_cons] at hn
    unfold fnd at h
    by_cases hk : e.1 = k
    · rw [if_pos hk] at h
      cases h
      refine ⟨0, rfl, by simp, ?_⟩
      have hno : ¬ has K k := by
        rintro ⟨x, hx, h9⟩
        exact hn.1 (by rw [hk, ← h9]; exact List.mem_map_of_mem hx)
      have := outK_no hno
      unfold outK at this ⊢
      rw [List.filter_cons, if_neg (by simp [hk]), this]; rfl
    · rw [if_neg hk] at h
      obtain ⟨m, h1, h2, h3⟩ := fnd_del hn.2 h
      refine ⟨m + 1, by omega, by simpa using h2, ?_⟩
      unfold outK at h3 ⊢
      rw [List.filter_cons, if_pos (by simp [hk]), List.eraseIdx_cons_succ, h3]
/-- What a program's type of keys must be like. -/
structure KeyT (P : Program) (TK : TypeId) : Prop where
  wide : (match P.underlying TK with | some (.array _ _) | some (.struct _) => true | _ => false) = true
  chk : ∀ (em : Bool) (k : Ky) (w : World), (Instr.checkKey em 10000 TK (vK k)).run P w = .ok () w
  eq : ∀ (k k' : Ky) (w : World), (Op.equal TK (vK k) (vK k')).run P w = .ok (decide (k = k')) w
theorem run_ask {P : Program} {TK : TypeId} (h : KeyT P TK) {k : Ky} {w : World} : ∀ {es : List MapEntry} {K : List (Ky × Int)} {i : Nat}, es.map (fun e => (e.key, e.val)) = kvs K →
    (Instr.findAsking TK (vK k) es i).run P w = .ok ((fnd k K i).map fun x => (x.1, .int .i64 x.2)) w
  | [], [], i, _ => rfl
  | [], _ :: _, i, e => by simp at e
  | _ :: _, [], i, e => by simp at e
  | x :: es, y :: K, i, e => by
    simp only [List.map_cons, List.cons.injEq, Prod.mk.injEq] at e
    obtain ⟨⟨e1, e2⟩, e3⟩ := e
    have ih := run_ask h (k := k) (w := w) (i := i + 1) e3
    unfold Instr.findAsking
    simp only [Sem.run_bind]
    rw [e1, h.eq k y.1 w]
    simp only [Result.andThen_ok]
    unfold fnd
    by_cases hk : y.1 = k
    · rw [if_pos (by simp [hk]), if_pos hk, e2]; rfl
    · rw [if_neg (by simp; exact fun x => hk x.symm), if_neg hk]
      exact ih
end Go.Proofs.Ytmcfmhiadlkglaa.Sx
