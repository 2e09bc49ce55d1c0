/-
  My plain texts put together into one module.
-/
import Derived.Test.YthjfclljjcpikaaPi
import Derived.Test.YthjfclljjcpikaaPj
/-
  Scripts of acts in a slice; an object in which every slot is opened. Nothing of a program stands here.
-/
namespace Go.Proofs.Ythjfclljjcpikaa.Sx
open Go
set_option linter.unusedVariables false
set_option linter.unusedSimpArgs false
abbrev At3 := Int × Int × Int
abbrev eA3 (r : At3) : List Value := [.int .u8 r.1, .int .u32 r.2.1, .int .i64 r.2.2]
def Ok3 (r : At3) : Prop := (0 ≤ r.1 ∧ r.1 ≤ 255) ∧ 0 ≤ r.2.1 ∧ r.2.1 ≤ 4294967295
theorem rows3 {rs : List At3} {b n c : Nat} {TA : TypeId} {l l' : List HP} (p : Pk (sls (some ⟨b, 0, none⟩) n c TA 3 (rs.flatMap eA3)) l l') (hn : n = rs.length) (hb : ∀ r ∈ rs, Ok3 r) :
    ∀ k, k < n → ∃ ba ia s0 s1 s2, (some ⟨b, 0, none⟩ : Option Addr) = some ⟨ba, ia, none⟩ ∧ 0 ≤ s0 ∧ s0 ≤ 255 ∧ 0 ≤ s1 ∧ s1 ≤ 4294967295 ∧ Rds l ba (ia + k * 3) [.int .u8 s0, .int .u32 s1, .int .i64 s2] := fun k hk => by
  have hk2 : k < rs.length := by omega
  obtain ⟨h1, h2⟩ := hb _ (List.getElem_mem hk2)
  exact ⟨b, 0, _, _, _, rfl, h1.1, h1.2, h2.1, h2.2, Rds.at (Rds.rec (enc := eA3) (xs := rs) (k := k) p (fun _ => rfl) hk2) (by show 0 + k * 3 = k * 3; omega)⟩
/-! ### every slot -/
abbrev bigA (k : Nat) : Int := ((k * 1048576 : Nat) : Int)
def bigO (i : Nat) : List (Int × Nat) := (List.range i).map fun s => (bigA (s / 64), s)
structure BigI (i : Nat) (T : So) : Prop where
  sf : SF 4096 64 T
  o : T.O = bigO i
section
variable {i k : Nat} {T : So}
theorem big_succ : bigO (i + 1) = bigO i ++ [(bigA (i / 64), i)] := by
  unfold bigO; rw [List.range_succ, List.map_append]; rfl
theorem big_count : ∀ (i : Nat), (slO (bigO i) (bigA k)).length = min 64 (i - 64 * k)
  | 0 => by simp [bigO, slO]
  | i + 1 => by
    have ih := big_count i
    rw [big_succ, slO_snoc]
    by_cases e : i / 64 = k
    · rw [if_pos (by rw [e]), List.length_append, ih, List.length_singleton]; omega
    · rw [if_neg (fun h => e (by unfold bigA at h; omega)), ih]; omega
theorem big_of : ofO (bigO i) (i : Int) = none := by
  rw [ofO_none]
  intro p hp e
  obtain ⟨s, hs, rfl⟩ := List.mem_map.1 hp
  have := List.mem_range.1 hs
  dsimp only at e
  omega
theorem BigI.new : BigI 0 (T0 4096) := ⟨SF.new (by omega) (by omega), rfl⟩
theorem BigI.next (h : BigI i T) (hi : i < 4096) : opnE 4096 64 T (bigA (i / 64)) (i : Int) = 0 ∧ BigI (i + 1) (opnN 4096 64 T (bigA (i / 64)) (i : Int)) := by
  have hn : ofO T.O (i : Int) = none := by rw [h.o]; exact big_of
  have hl : (slO T.O (bigA (i / 64))).length < 64 := by rw [h.o, big_count]; omega
  obtain ⟨h1, h2⟩ := opn_ok (S := 4096) (lim := 64) (T := T) (a := bigA (i / 64)) hi hn hl
  refine ⟨h1, h.sf.opnN (by unfold bigA; omega), ?_⟩
  rw [h2, addO_O h.sf hi hn, h.o, big_succ]
theorem BigI.srcs (h : BigI 4096 T) : T.R.length = 64 := by
  have h1 := len_same (l1 := T.R.map Prod.fst) (l2 := (List.range 64).map bigA) h.sf.nda (nodup_of_inj List.nodup_range fun a _ b _ e => by unfold bigA at e; omega) fun x => by
    rw [List.mem_map, List.mem_map]
    constructor
    · rintro ⟨p, hp, e⟩
      obtain ⟨q, hq, e2⟩ := (h.sf.src x).1 ⟨p, hp, e⟩
      rw [h.o] at hq
      obtain ⟨s, hs, rfl⟩ := List.mem_map.1 hq
      have := List.mem_range.1 hs
      exact ⟨s / 64, List.mem_range.2 (by omega), e2⟩
    · rintro ⟨k, hk, e⟩
      have := List.mem_range.1 hk
      have hm : (bigA k, k * 64) ∈ T.O := by
        rw [h.o]
        unfold bigO
        refine List.mem_map.2 ⟨k * 64, List.mem_range.2 (by omega), ?_⟩
        rw [Nat.mul_div_cancel k (by omega)]
      obtain ⟨p, hp, e2⟩ := (h.sf.src x).2 ⟨_, hm, e⟩
      exact ⟨p, hp, e2⟩
  rw [List.length_map, List.length_map, List.length_range] at h1
  exact h1
theorem BigI.there (h : BigI 4096 T) : opnE 4096 64 T 0 0 = 310 ∧ opnN 4096 64 T 0 0 = T := by
  have hm : ((0 : Int), 0) ∈ T.O := by rw [h.o]; exact List.mem_map.2 ⟨0, List.mem_range.2 (by omega), rfl⟩
  exact opn_there (S := 4096) (lim := 64) (T := T) (a := 0) (x := 0) (b := 0) (by omega) (ofO_of h.sf.nds hm)
theorem BigI.room (h : BigI 4096 T) : (slO T.O 66060288).length = 64 := by
  rw [h.o]
  have := big_count (k := 63) 4096
  exact this
end
end Go.Proofs.Ythjfclljjcpikaa.Sx
