/-
  Taking several times from a new arena. Nothing of a program stands here.
-/
import Derived.Test.YtmlebadfedleoaaInts
namespace Go.Proofs.Ytmlebadfedleoaa.Sx
open Go
def Ar.takes (A : Ar) : Nat → Ar
  | 0 => A
  | k + 1 => (A.takes k).take
/-- A new arena of n slots, of which the first k were taken. -/
def Ar.tkn (n k : Nat) : Ar := { free := List.range' k (n - k), turn := List.replicate n 0, tk := List.replicate k true ++ List.replicate (n - k) false }
theorem takes_new {n : Nat} : ∀ {k : Nat}, k ≤ n → (Ar.new n).takes k = Ar.tkn n k
  | 0, _ => by simp [Ar.takes, Ar.new, Ar.tkn, List.range_eq_range']
  | k + 1, h => by
    rw [Ar.takes, takes_new (k := k) (by omega)]
    obtain ⟨m, hm⟩ : ∃ m, n - k = m + 1 := ⟨n - k - 1, by omega⟩
    have hm' : n - (k + 1) = m := by omega
    have e1 : (List.replicate k true ++ List.replicate (m + 1) false).set k true = List.replicate (k + 1) true ++ List.replicate m false := by
      rw [List.set_append_right _ _ (by simp), List.replicate_succ (n := m), List.replicate_succ' (n := k)]
      simp
    simp only [Ar.tkn, Ar.take, hm, hm', List.range'_succ]
    rw [e1]
theorem takes_top {n k : Nat} (h : k < n) : ((Ar.new n).takes k).top = ((k : Int), 0, 0) := by
  rw [takes_new (by omega)]
  obtain ⟨m, hm⟩ : ∃ m, n - k = m + 1 := ⟨n - k - 1, by omega⟩
  simp [Ar.tkn, Ar.top, hm, List.range'_succ, h]
end Go.Proofs.Ytmlebadfedleoaa.Sx
