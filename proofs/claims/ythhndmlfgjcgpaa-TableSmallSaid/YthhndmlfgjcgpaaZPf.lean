/-
  My plain texts put together into one module.
-/
import Derived.Test.YthhndmlfgjcgpaaZPe
import Derived.Test.YthhndmlfgjcgpaaZPl
namespace Go.Proofs.Ythhndmlfgjcgpaa.Sx
open Go
set_option linter.unusedVariables false
set_option linter.unusedSimpArgs false
theorem lay_end : ∀ (vs xs ys : List Value), ys.length = vs.length → lay (xs ++ ys) xs.length vs = xs ++ vs
  | [], xs, [], _ => rfl
  | [], xs, _ :: _, h => by simp at h
  | v :: vs, xs, [], h => by simp at h
  | v :: vs, xs, y :: ys, h => by
    have h1 : (xs ++ y :: ys).set xs.length v = (xs ++ [v]) ++ ys := by
      rw [List.set_append_right _ _ (Nat.le_refl _), Nat.sub_self, List.set_cons_zero]; simp
    show lay ((xs ++ y :: ys).set xs.length v) (xs.length + 1) vs = _
    have h2 := lay_end vs (xs ++ [v]) ys (by simpa using h)
    rw [List.length_append] at h2
    rw [h1]
    refine Eq.trans h2 ?_
    simp
theorem lay_all {cs vs : List Value} (h : cs.length = vs.length) : lay cs 0 vs = vs := lay_end vs [] cs h
theorem Sep.layAll {b : Nat} {cs vs : List Value} {T : TypeId} {l : List HP} {w : World} (h : Sep (Sx.blk b (lay cs 0 vs) T :: l) w) (e : cs.length = vs.length) : Sep (Sx.blk b vs T :: l) w := lay_all e ▸ h
theorem dl_tab {k : Ky} {f : Nat → Int} (h : ∀ j, j < 26 → f j = dig k j) : tab 26 f = dl k := tab_congr h
theorem flatE1 {xs : List Int} : xs.flatMap e1 = xs.map (Value.int .i64) := by
  induction xs with
  | nil => rfl
  | cons x t ih => rw [List.flatMap_cons, ih]; rfl
theorem dlE_len {k : Ky} : ((dl k).flatMap e1).length = 26 := by rw [flatE1, List.length_map, dl_len]
theorem dlE_get {k : Ky} {i : Nat} (h : i < 26) : ((dl k).flatMap e1)[i]? = some (.int .i64 (dig k i)) := by rw [flatE1, List.getElem?_map, dl_get h]; rfl
theorem dlE_get' {k : Ky} {i : Nat} (h : i < 26) : ((dl k).flatMap e1)[i * 1]? = some (.int .i64 (dig k i)) := by rw [Nat.mul_one]; exact dlE_get h
section
variable {P : Program} {Q : Exit → Act → World → Prop} {n : Nat} {a : Act} {S : Slots} {l l' : List HP} {w : World} {t : TypeId} {pos : String} {af : Array Edge} {g : Option (Nat × Bool)} {K : Act → World → Prop} {T : TypeId}
theorem BstoreJ {ty : TypeId} {x y : Operand} {b k N : Nat} {v : Int} {z : TypeInfo} {f : Nat → Int} (hS : Has n a S) (hR : Sep l w) (hx : ev S x = some (.pointer (some ⟨b, k, none⟩))) (hy : ev S y = some (.int .i64 v))
    (hi : P.info? ty = some z) (hz : z.size = 1) (p : Pk (Sx.blk b ((tab N f).flatMap e1) T) l l') (hk : k < N)
    (kk : ∀ w', Sep (Sx.blk b ((tab N (upd f k v)).flatMap e1) T :: l') w' → K a w') : Oper.wp P ⟨none, .store ty x y, t, pos, af, g⟩ a w K Q := by
  have hl : ((tab N f).flatMap e1).length = N := by rw [flat_len (m := 1) (fun _ => rfl), Nat.mul_one, tab_len]
  refine Bstore (vs := [.int .i64 v]) hS hR hx hy rfl hi (by rw [hz]; rfl) p rfl (by rw [hl]; exact hk) fun w' h => kk w' ?_
  have e := laid_flat (enc := e1) (m := 1) (fun _ => rfl) (vs := [.int .i64 v]) (j := 0) (r' := v) (rs := tab N f) (k := k) (by rw [tab_len]; exact hk) (Nat.le_of_ble_eq_true rfl) rfl
  rw [Nat.mul_one, Nat.add_zero, tab_set] at e
  rw [← e]; exact h
end
theorem shr_dig {a : Int} {m : Nat} (h : 0 ≤ a) : a / ((16 ^ m : Nat) : Int) = ((a.toNat / 16 ^ m : Nat) : Int) := by
  obtain ⟨n, rfl⟩ : ∃ n : Nat, a = (n : Int) := ⟨a.toNat, by omega⟩
  rw [Int.toNat_natCast, Int.natCast_ediv]
structure GK (K : List (Ky × Int)) (most : Int) : Prop where
  good : Good K
  le : (K.length : Int) ≤ most
  most : most ≤ 8192
theorem GK.slen {K : List (Ky × Int)} {most : Int} (h : GK K most) : (srt K).length ≤ 8192 := by
  rw [srt_len h.good]; have := h.le; have := h.most; omega
def rtrA (TR TK TI b : Nat) (K : List (Ky × Int)) (most : Int) : HP :=
  box (fun _ : (Option Addr × Nat) × (Option Addr × Nat) => GK K most) (fun x => [blk b [.int .i64 most, .slice x.1.1 (srt K).length x.1.2, .slice x.2.1 (vals K).length x.2.2] TR, sls x.1.1 (srt K).length x.1.2 TK 5 ((srt K).flatMap eK), sls x.2.1 (vals K).length x.2.2 TI 1 ((vals K).flatMap e1)])
theorem Sep.rtrE {TR TK TI b : Nat} {K : List (Ky × Int)} {most : Int} {l : List HP} {w : World} (h : Sep (rtrA TR TK TI b K most :: l) w) :
    ∃ r1 c1 r2 c2, GK K most ∧ Sep (blk b [.int .i64 most, .slice r1 (srt K).length c1, .slice r2 (vals K).length c2] TR :: sls r1 (srt K).length c1 TK 5 ((srt K).flatMap eK) :: sls r2 (vals K).length c2 TI 1 ((vals K).flatMap e1) :: l) w := by
  obtain ⟨x, h1, h2⟩ := h.boxE
  exact ⟨x.1.1, x.1.2, x.2.1, x.2.2, h1, h2⟩
theorem Sep.rtrI {TR TK TI b n1 n2 : Nat} {K : List (Ky × Int)} {xs : List Ky} {ys : List Int} {most : Int} {r1 r2 : Option Addr} {c1 c2 : Nat} {l : List HP} {w : World} (hK : GK K most) (e1' : xs = srt K) (e2' : ys = vals K) (h1 : n1 = xs.length) (h2 : n2 = ys.length)
    (h : Sep (blk b [.int .i64 most, .slice r1 n1 c1, .slice r2 n2 c2] TR :: sls r1 n1 c1 TK 5 (xs.flatMap eK) :: sls r2 n2 c2 TI 1 (ys.flatMap e1) :: l) w) : Sep (rtrA TR TK TI b K most :: l) w := by
  subst e1' e2' h1 h2
  exact Sep.boxI ((r1, c1), (r2, c2)) hK h
theorem GK.put {K : List (Ky × Int)} {most : Int} (h : GK K most) {k : Ky} (hk : WfK k) (x : Int) : GK (putK K k x most) most := by
  refine ⟨h.good.put hk x most, ?_, h.most⟩
  have := h.le
  unfold putK
  split
  · exact h.le
  · split
    · exact h.le
    · rw [List.length_append]; simp; omega
theorem GK.out {K : List (Ky × Int)} {most : Int} (h : GK K most) (k : Ky) : GK (outK K k) most := by
  refine ⟨h.good.out k, ?_, h.most⟩
  have h1 : (outK K k).length ≤ K.length := List.length_filter_le _ _
  have := h.le; omega
theorem GK.nil {most : Int} (h1 : 0 ≤ most) (h2 : most ≤ 8192) : GK [] most := ⟨Good.nil, h1, h2⟩
theorem srt_nil : srt [] = [] := by decide +kernel
theorem put_keys {K : List (Ky × Int)} {k : Ky} (hg : Good K) (hk : WfK k) (hn : ¬ has K k) (x : Int) : (([] ++ (srt K).take (plc K k)) ++ [k]) ++ ((srt K).drop (plc K k)).take ((srt K).length - plc K k) = srt (K ++ [(k, x)]) := by
  rw [srt_snoc hg hk hn, List.nil_append, List.take_of_length_le (l := List.drop _ _) (by rw [List.length_drop]; omega)]
theorem put_vals {K : List (Ky × Int)} {k : Ky} (hg : Good K) (hk : WfK k) (hn : ¬ has K k) (x : Int) : (([] ++ (vals K).take (plc K k)) ++ [x]) ++ ((vals K).drop (plc K k)).take ((vals K).length - plc K k) = vals (K ++ [(k, x)]) := by
  rw [vals_snoc hg hk hn, List.nil_append, List.take_of_length_le (l := List.drop _ _) (by rw [List.length_drop]; omega)]
theorem has_get {K : List (Ky × Int)} (hg : Good K) {y : Ky} {i : Nat} (hi : i < (srt K).length) (e : (srt K)[i] = y) : has K y ∧ WfK y := by
  have hm : y ∈ srt K := e ▸ List.getElem_mem hi
  exact ⟨(srt_mem hg).1 hm, srt_wf hg hm⟩
end Go.Proofs.Ythhndmlfgjcgpaa.Sx
namespace Go.Proofs.Ythhndmlfgjcgpaa.Sx
open Go
set_option linter.unusedVariables false
set_option linter.unusedSimpArgs false
end Go.Proofs.Ythhndmlfgjcgpaa.Sx
