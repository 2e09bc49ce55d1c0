/-
 
-/
import Derived.Test.YtkhdejjompbklaaGreatOArA
namespace Go.Proofs.YtkhdejjompbklaaGreat.Sx
open Go
set_option linter.unusedVariables false
set_option linter.unusedSimpArgs false
theorem At_okA {A : Ar} {b : Nat} {l : List HP} {w : World} {s : Int} (hR : Sep (arena 148 174 b A :: l) w) : CallR Tryz.prog 74 [.pointer (some ⟨b, 0, none⟩), .int .i64 s] w (fun v w' => v = atV A s ∧ Sep (arena 148 174 b A :: l) w') := by
 obtain ⟨br, rs, hA, hR⟩ := hR.arenaE
 exact CallR.mono (At_ok hA hR) fun v w' h => ⟨h.1, Sep.arenaI hA rfl rfl rfl h.2⟩
theorem Take_okA {A : Ar} {b : Nat} {l : List HP} {w : World} (hR : Sep (arena 148 174 b A :: l) w) : CallR Tryz.prog 97 [.pointer (some ⟨b, 0, none⟩)] w (fun v w' => v = .tuple [.agg [.int .i64 A.top.1, .int .i64 A.top.2.1].toArray, .int .i64 A.top.2.2].toArray ∧ Sep (arena 148 174 b A.take :: l) w') := by
 obtain ⟨br, rs, hA, hR⟩ := hR.arenaE
 exact Take_ok hA hR
theorem Give_okA {A : Ar} {b : Nat} {l : List HP} {w : World} {s u : Int} (hR : Sep (arena 148 174 b A :: l) w) : CallR Tryz.prog 96 [.pointer (some ⟨b, 0, none⟩), .agg [.int .i64 s, .int .i64 u].toArray] w (fun v w' => v = .int .i64 (A.giveE s u) ∧ Sep (arena 148 174 b (A.giveH s u) :: l) w') := by
 obtain ⟨br, rs, hA, hR⟩ := hR.arenaE
 exact Give_ok hA hR
theorem Count_okA {A : Ar} {b : Nat} {l : List HP} {w : World} (hR : Sep (arena 148 174 b A :: l) w) : CallR Tryz.prog 47 [.pointer (some ⟨b, 0, none⟩)] w (fun v w' => v = .int .i64 (cnt A.tk) ∧ Sep (arena 148 174 b A :: l) w') := by
 obtain ⟨br, rs, hA, hR⟩ := hR.arenaE
 exact CallR.mono (Count_ok hA hR) fun v w' h => ⟨h.1, Sep.arenaI hA rfl rfl rfl h.2⟩
end Go.Proofs.YtkhdejjompbklaaGreat.Sx
