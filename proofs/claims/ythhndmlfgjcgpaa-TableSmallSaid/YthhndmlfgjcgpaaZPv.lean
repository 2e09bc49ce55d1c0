/-
  My plain texts put together into one module.
-/
import Derived.Test.YthhndmlfgjcgpaaZPu
namespace Go.Proofs.Ythhndmlfgjcgpaa.Sx
open Go
set_option linter.unusedVariables false
set_option linter.unusedSimpArgs false
structure WhI (S : Nat) (T : Tb) (ks : List Ky) : Prop where
  tf : TF S 3 T
  perm : (T.F.map Fl.k).Perm ks
section
variable {S : Nat} {T : Tb} {ks : List Ky}
theorem WhI.len (h : WhI S T ks) : T.F.length = ks.length := by rw [← h.perm.length_eq, List.length_map]
theorem WhI.flow (h : WhI S T ks) {k : Ky} (hk : k ∈ ks) : ∃ f ∈ T.F, f.k = k := by
  obtain ⟨f, hf, e⟩ := List.mem_map.1 (h.perm.mem_iff.2 hk)
  exact ⟨f, hf, e⟩
end
theorem src_digs {a b : Ky} (ha : WfK a) (hb : WfK b) : (dl a).take 8 = (dl b).take 8 ↔ a.2.1 = b.2.1 := by
  rw [take_alike (by omega)]
  constructor
  · intro h
    have wa : WfK (0, a.2.1, 0, 0, 0) := ⟨by dsimp only; omega, ha.s, by dsimp only; omega, by dsimp only; omega, by dsimp only; omega⟩
    have wb : WfK (0, b.2.1, 0, 0, 0) := ⟨by dsimp only; omega, hb.s, by dsimp only; omega, by dsimp only; omega, by dsimp only; omega⟩
    have h1 := dl_inj wa wb (dl_ext fun j hj => by
      by_cases h8 : j < 8
      · have h2 := h j h8
        rw [dig_s ha h8, dig_s hb h8] at h2
        rw [dig_s wa h8, dig_s wb h8]; exact h2
      · by_cases h16 : j < 16
        · rw [dig_d wa (by omega) h16, dig_d wb (by omega) h16]
        · by_cases h18 : j < 18
          · rw [dig_p wa (by omega) h18, dig_p wb (by omega) h18]
          · by_cases h22 : j < 22
            · rw [dig_a wa (by omega) h22, dig_a wb (by omega) h22]
            · rw [dig_b wa (by omega) hj, dig_b wb (by omega) hj])
    have h2 := congrArg (fun k : Ky => k.2.1) h1
    exact h2
  · intro e j hj
    rw [dig_s ha hj, dig_s hb hj, e]
end Go.Proofs.Ythhndmlfgjcgpaa.Sx
