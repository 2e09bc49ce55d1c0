/-
  My plain texts put together into one module.
-/
import Derived.Test.YthhndmlfgjcgpaaZPb
import Derived.Test.YthhndmlfgjcgpaaZPa
import Derived.Test.YthhndmlfgjcgpaaZPv
import Derived.Test.YthhndmlfgjcgpaaZPf
namespace Go.Proofs.Ythhndmlfgjcgpaa.Sx
open Go
set_option linter.unusedVariables false
structure ROk (A : Ar) : Prop where
  len : A.tk.length = A.turn.length
  most : A.turn.length ≤ 4096
  nodup : A.free.Nodup
  free : ∀ i, i ∈ A.free ↔ A.tk[i]? = some false
theorem ROk.lt {A : Ar} (h : ROk A) {i : Nat} (hi : i ∈ A.free) : i < A.turn.length := by
  have := (List.getElem?_eq_some_iff.1 ((h.free i).1 hi)).1
  have := h.len; omega
theorem ROk.free_len {A : Ar} (h : ROk A) : A.free.length ≤ A.turn.length := nodup_len h.nodup fun _ hi => h.lt hi
abbrev RarX := (Option Addr × Nat) × (Option Addr × Nat) × (Option Addr × Nat)
abbrev rarL (TR TI TB b : Nat) (A : Ar) (p : RarX) : List HP :=
  [blk b [.slice p.1.1 A.frees.length p.1.2, .slice p.2.1.1 A.turn.length p.2.1.2, .slice p.2.2.1 A.tk.length p.2.2.2] TR,
    sls p.1.1 A.frees.length p.1.2 TI 1 (A.frees.flatMap e1), sls p.2.1.1 A.turn.length p.2.1.2 TI 1 (A.turn.flatMap e1), sls p.2.2.1 A.tk.length p.2.2.2 TB 1 (A.tk.flatMap eb)]
def rar (TR TI TB b : Nat) (A : Ar) : HP := box (fun _ : RarX => ROk A) (rarL TR TI TB b A)
theorem Sep.rarE {TR TI TB b : Nat} {A : Ar} {l : List HP} {w : World} (h : Sep (rar TR TI TB b A :: l) w) :
    ∃ r1 c1 r2 c2 r3 c3, ROk A ∧ Sep (blk b [.slice r1 A.frees.length c1, .slice r2 A.turn.length c2, .slice r3 A.tk.length c3] TR ::
      sls r1 A.frees.length c1 TI 1 (A.frees.flatMap e1) :: sls r2 A.turn.length c2 TI 1 (A.turn.flatMap e1) :: sls r3 A.tk.length c3 TB 1 (A.tk.flatMap eb) :: l) w :=
  let ⟨p, h1, h2⟩ := h.boxE
  ⟨p.1.1, p.1.2, p.2.1.1, p.2.1.2, p.2.2.1, p.2.2.2, h1, h2⟩
theorem Sep.rarI {TR TI TB b n1 n2 n3 : Nat} {A : Ar} {r1 r2 r3 : Option Addr} {c1 c2 c3 : Nat} {l : List HP} {w : World} (hA : ROk A) (h1 : n1 = A.frees.length) (h2 : n2 = A.turn.length) (h3 : n3 = A.tk.length)
    (h : Sep (blk b [.slice r1 n1 c1, .slice r2 n2 c2, .slice r3 n3 c3] TR :: sls r1 n1 c1 TI 1 (A.frees.flatMap e1) :: sls r2 n2 c2 TI 1 (A.turn.flatMap e1) :: sls r3 n3 c3 TB 1 (A.tk.flatMap eb) :: l) w) : Sep (rar TR TI TB b A :: l) w := by
  subst h1 h2 h3
  exact Sep.boxI ((r1, c1), (r2, c2), (r3, c3)) hA h
theorem new_rok {k : Nat} (h : k ≤ 4096) : ROk (Ar.new k) := by
  refine ⟨by simp [Ar.new], by simpa [Ar.new] using h, List.nodup_range, fun i => ?_⟩
  simp only [Ar.new, List.mem_range]
  rw [List.getElem?_replicate]
  by_cases hi : i < k <;> simp [hi]
theorem new_frees (k : Nat) : (Ar.new (k + 1)).frees = (Ar.new k).frees ++ [(k : Int)] := by simp [Ar.new, Ar.frees, List.range_succ]
theorem new_turn (k : Nat) : (Ar.new (k + 1)).turn = (Ar.new k).turn ++ [0] := by simp [Ar.new, List.replicate_succ']
theorem new_tk (k : Nat) : (Ar.new (k + 1)).tk = (Ar.new k).tk ++ [false] := by simp [Ar.new, List.replicate_succ']
theorem Ar.take_cons {A : Ar} {i : Nat} {fs : List Nat} (e : A.free = i :: fs) : A.take = { free := fs, turn := A.turn, tk := A.tk.set i true } := by
  unfold Ar.take; split <;> simp_all
theorem ROk.take {A : Ar} (h : ROk A) : ROk A.take := by
  cases e : A.free with
  | nil => rw [Ar.take_nil e]; exact h
  | cons i fs =>
    have hnd := h.nodup
    rw [e, List.nodup_cons] at hnd
    have hi : i < A.tk.length := (List.getElem?_eq_some_iff.1 ((h.free i).1 (by rw [e]; exact List.mem_cons_self))).1
    rw [Ar.take_cons e]
    refine ⟨by simpa using h.len, h.most, hnd.2, fun j => ?_⟩
    by_cases hij : i = j
    · subst hij
      dsimp only
      rw [List.getElem?_set_self hi]
      simp [hnd.1]
    · dsimp only
      rw [List.getElem?_set_ne hij, ← h.free j, e, List.mem_cons]
      exact ⟨.inr, fun h' => h'.elim (fun h'' => absurd h''.symm hij) id⟩
theorem ROk.give {A : Ar} (h : ROk A) {i : Nat} (ht : A.tk[i]? = some true) : ROk (A.give i) := by
  have hi : i < A.tk.length := (List.getElem?_eq_some_iff.1 ht).1
  have hni : i ∉ A.free := fun hm => by rw [h.free i, ht] at hm; simp at hm
  refine ⟨by simp [Ar.give, h.len], by simp [Ar.give, h.most], ?_, fun j => ?_⟩
  · simp only [Ar.give, List.nodup_cons]; exact ⟨hni, h.nodup⟩
  · simp only [Ar.give, List.mem_cons]
    by_cases hij : i = j
    · subst hij; rw [List.getElem?_set_self hi]; simp
    · rw [List.getElem?_set_ne hij, ← h.free j]
      exact ⟨fun h' => h'.elim (fun h'' => absurd h''.symm hij) id, .inr⟩
theorem Ar.give_eq {A : Ar} {k : Nat} (h : k < A.turn.length) : A.give k = { free := k :: A.free, turn := A.turn.set k (IntKind.i64.wrap (A.turn[k] + 1)), tk := A.tk.set k false } := by
  simp [Ar.give, List.getElem?_eq_getElem h]
theorem Ar.at_iff {A : Ar} (h : ROk A) {s u : Int} : A.at s = some u ↔ 0 ≤ s ∧ A.tk[s.toNat]? = some true ∧ A.turn[s.toNat]? = some u := by
  unfold Ar.at
  split
  · rename_i hc
    have h1 := (List.getElem?_eq_some_iff.1 hc.2).1
    have h2 := h.len
    have h3 : s.toNat < A.turn.length := by omega
    simp [hc, List.getElem?_eq_getElem h3]
  · rename_i hc
    simp only [reduceCtorEq, false_iff, not_and]
    exact fun h1 h2 => absurd ⟨h1, h2⟩ hc
theorem Ar.at_off {A : Ar} {s : Int} (hs : s < 0 ∨ (A.tk.length : Int) ≤ s) : A.at s = none := by
  unfold Ar.at
  rw [if_neg]
  rintro ⟨h1, h2⟩
  have := (List.getElem?_eq_some_iff.1 h2).1
  omega
end Go.Proofs.Ythhndmlfgjcgpaa.Sx
namespace Go.Proofs.Ythhndmlfgjcgpaa.Sx
open Go
set_option linter.unusedVariables false
set_option linter.unusedSimpArgs false
abbrev eF (f : Fl) : List Value := [.int .i64 (f.s : Int), .int .i64 f.u, .int .u8 f.k.1, .int .u32 f.k.2.1, .int .u32 f.k.2.2.1, .int .u16 f.k.2.2.2.1, .int .u16 f.k.2.2.2.2, .int .i64 (f.i : Int)]
theorem ky_eq {a b : Ky} : (a.1 = b.1 ∧ a.2.1 = b.2.1 ∧ a.2.2.1 = b.2.2.1 ∧ a.2.2.2.1 = b.2.2.2.1 ∧ a.2.2.2.2 = b.2.2.2.2) ↔ a = b := by
  obtain ⟨a1, a2, a3, a4, a5⟩ := a
  obtain ⟨b1, b2, b3, b4, b5⟩ := b
  simp
structure R6 where
  R : TypeId
  F : TypeId
  A : TypeId
  I : TypeId
  B : TypeId
def r16A (t : R6) (b S n : Nat) (T : Tb) : HP := box (fun _ : Nat × Option Addr × Nat => TF S n T ∧ S ≤ 4096)
  (fun x => [blk b [.slice x.2.1 T.F.length x.2.2, .pointer (some ⟨x.1, 0, none⟩), .int .i64 (n : Int)] t.R, sls x.2.1 T.F.length x.2.2 t.F 8 (T.F.flatMap eF), rar t.A t.I t.B x.1 T.A])
theorem Sep.r16E {t : R6} {b S n : Nat} {T : Tb} {l : List HP} {w : World} (h : Sep (r16A t b S n T :: l) w) :
    ∃ ba r c, TF S n T ∧ S ≤ 4096 ∧ Sep (blk b [.slice r T.F.length c, .pointer (some ⟨ba, 0, none⟩), .int .i64 (n : Int)] t.R :: sls r T.F.length c t.F 8 (T.F.flatMap eF) :: rar t.A t.I t.B ba T.A :: l) w :=
  let ⟨x, h1, h2⟩ := h.boxE
  ⟨x.1, x.2.1, x.2.2, h1.1, h1.2, h2⟩
theorem Sep.r16I {t : R6} {b S n ba c m : Nat} {F : List Fl} {A : Ar} {r : Option Addr} {l : List HP} {w : World} (hT : TF S n { F := F, A := A }) (hS : S ≤ 4096) (hm : m = F.length)
    (h : Sep (blk b [.slice r m c, .pointer (some ⟨ba, 0, none⟩), .int .i64 (n : Int)] t.R :: sls r m c t.F 8 (F.flatMap eF) :: rar t.A t.I t.B ba A :: l) w) : Sep (r16A t b S n { F := F, A := A } :: l) w := by
  subst hm
  exact Sep.boxI (ba, r, c) ⟨hT, hS⟩ h
abbrev zFl : Fl := ⟨0, 0, k0, 0⟩
def atF (F : List Fl) (s u : Int) : Value := .tuple [.agg (eF ((getF F s u).getD zFl)).toArray, .bool (getF F s u).isSome].toArray
def wioF (F : List Fl) (s u : Int) : List Fl := F.filter fun f => !decide ((f.s : Int) = s ∧ f.u = u)
section
variable {S n i : Nat} {T : Tb} {F : List Fl} {s u : Int} {k : Ky} {f : Fl}
theorem fno_next {P : Fl → Prop} (hi : i < F.length) (h : ∀ p ∈ F.take i, P p) (e : P F[i]) : ∀ p ∈ F.take (i + 1), P p := by
  intro p hp
  rw [List.take_succ_eq_append_getElem hi] at hp
  rcases List.mem_append.1 hp with hp | hp
  · exact h p hp
  · simp only [List.mem_singleton] at hp; subst hp; exact e
theorem fno_all {P : Fl → Prop} (hi : F.length ≤ i) (h : ∀ p ∈ F.take i, P p) : ∀ p ∈ F, P p := by rwa [List.take_of_length_le hi] at h
theorem getF_no (h : ∀ f ∈ F, ¬ ((f.s : Int) = s ∧ f.u = u)) : getF F s u = none := by
  unfold getF
  rw [List.find?_eq_none]
  intro f hf; simpa using h f hf
theorem wio_next (hi : i < F.length) : wioF (F.take (i + 1)) s u = if (F[i].s : Int) = s ∧ F[i].u = u then wioF (F.take i) s u else wioF (F.take i) s u ++ [F[i]] := by
  unfold wioF
  rw [List.take_succ_eq_append_getElem hi, List.filter_append, List.filter_cons, List.filter_nil]
  by_cases e : (F[i].s : Int) = s ∧ F[i].u = u
  · rw [if_pos e, if_neg (by simpa using e), List.append_nil]
  · rw [if_neg e, if_pos (by rw [decide_eq_false e]; rfl)]
theorem wio_len : (wioF F s u).length ≤ F.length := List.length_filter_le _ _
theorem TF.wio (h : TF S n T) (hf : f ∈ T.F) : wioF T.F (f.s : Int) f.u = T.F.filter fun g => decide (g.s ≠ f.s) := by
  unfold wioF
  refine List.filter_congr fun g hg => ?_
  by_cases e : g.s = f.s
  · have := h.one hg hf e
    subst this; simp
  · have : ¬ ((g.s : Int) = (f.s : Int) ∧ g.u = f.u) := fun h => e (by omega)
    rw [decide_eq_false this, decide_eq_true e]; rfl
theorem inF_next (hi : i < F.length) : (inF (F.take (i + 1)) s).map hd2 = if (F[i].i : Int) = s then (inF (F.take i) s).map hd2 ++ [hd2 F[i]] else (inF (F.take i) s).map hd2 := by
  unfold inF
  rw [List.take_succ_eq_append_getElem hi, List.filter_append, List.filter_cons, List.filter_nil]
  by_cases e : (F[i].i : Int) = s
  · rw [if_pos e, if_pos (decide_eq_true e), List.map_append]; rfl
  · rw [if_neg e, if_neg (by simpa using e), List.append_nil]
def selK (F : List Fl) (lo hi : Int) : Nat → List (Ky × Int)
  | 0 => []
  | i + 1 => match F[i]? with
    | some f => if lo ≤ f.k.2.1 ∧ f.k.2.1 ≤ hi then selK F lo hi i ++ [(f.k, (i : Int))] else selK F lo hi i
    | none => selK F lo hi i
variable {lo hi : Int}
theorem sel_succ (h : i < F.length) : selK F lo hi (i + 1) = if lo ≤ F[i].k.2.1 ∧ F[i].k.2.1 ≤ hi then selK F lo hi i ++ [(F[i].k, (i : Int))] else selK F lo hi i := by
  rw [selK, List.getElem?_eq_getElem h]
theorem sel_mem : ∀ {i : Nat} {e : Ky × Int}, i ≤ F.length → (e ∈ selK F lo hi i ↔ ∃ (j : Nat) (hj : j < F.length), j < i ∧ (lo ≤ F[j].k.2.1 ∧ F[j].k.2.1 ≤ hi) ∧ e = (F[j].k, (j : Int)))
  | 0, e, _ => by simp [selK]
  | i + 1, e, h => by
    have ih := sel_mem (i := i) (e := e) (by omega)
    rw [sel_succ (by omega)]
    split
    · rename_i hc
      rw [List.mem_append, ih, List.mem_singleton]
      constructor
      · rintro (⟨j, hj, h1, h2⟩ | h1)
        · exact ⟨j, hj, by omega, h2⟩
        · exact ⟨i, by omega, by omega, hc, h1⟩
      · rintro ⟨j, hj, h1, h2, h3⟩
        by_cases e2 : j = i
        · subst e2; exact .inr h3
        · exact .inl ⟨j, hj, by omega, h2, h3⟩
    · rename_i hc
      rw [ih]
      constructor
      · rintro ⟨j, hj, h1, h2⟩; exact ⟨j, hj, by omega, h2⟩
      · rintro ⟨j, hj, h1, h2, h3⟩
        by_cases e2 : j = i
        · subst e2; exact absurd h2 hc
        · exact ⟨j, hj, by omega, h2, h3⟩
theorem sel_len : ∀ (i : Nat), (selK F lo hi i).length ≤ i
  | 0 => Nat.le_refl _
  | i + 1 => by
    have ih := sel_len i
    rw [selK]
    split
    · split
      · rw [List.length_append, List.length_singleton]; omega
      · omega
    · omega
theorem TF.apart2 (h : TF S n T) {i j : Nat} (hi : i < T.F.length) (hj : j < T.F.length) (e : T.F[i].k = T.F[j].k) : i = j := by
  rcases Nat.lt_trichotomy i j with h1 | h1 | h1
  · exact absurd e (List.pairwise_iff_getElem.1 h.apart i j hi hj h1).1
  · exact h1
  · exact absurd e.symm (List.pairwise_iff_getElem.1 h.apart j i hj hi h1).1
theorem TF.selNo (h : TF S n T) (hi : i < T.F.length) : ¬ has (selK T.F lo s i) T.F[i].k := by
  rintro ⟨e, he, h1⟩
  obtain ⟨j, hj, h2, _, h3⟩ := (sel_mem (by omega)).1 he
  rw [h3] at h1
  have := h.apart2 hj hi h1
  omega
theorem TF.selGood (h : TF S n T) : ∀ {i : Nat}, i ≤ T.F.length → Good (selK T.F lo hi i)
  | 0, _ => Good.nil
  | i + 1, hi2 => by
    have ih := h.selGood (i := i) (by omega)
    rw [sel_succ (by omega)]
    split
    · refine ⟨fun e he => ?_, ?_⟩
      · rcases List.mem_append.1 he with he | he
        · exact ih.wf e he
        · simp only [List.mem_singleton] at he
          subst he
          exact h.wf _ (List.getElem_mem _)
      · rw [List.map_append, List.nodup_append]
        refine ⟨ih.nd, by simp, fun a ha b hb e => ?_⟩
        simp only [List.map_cons, List.map_nil, List.mem_singleton] at hb
        obtain ⟨e', he, h9⟩ := List.mem_map.1 ha
        exact h.selNo (i := i) (by omega) ⟨e', he, by rw [h9, e, hb]⟩
    · exact ih
theorem TF.selPut (h : TF S n T) (hS : S ≤ 4096) (hi2 : i < T.F.length) (hc : lo ≤ T.F[i].k.2.1 ∧ T.F[i].k.2.1 ≤ hi) : putK (selK T.F lo hi i) T.F[i].k (i : Int) 4096 = selK T.F lo hi (i + 1) := by
  have h1 := sel_len (F := T.F) (lo := lo) (hi := hi) i
  have h2 := h.len
  rw [putK_new (h.selNo hi2) (by omega), sel_succ hi2, if_pos hc]
def selH (F : List Fl) (lo hi : Int) : List (Int × Int) := (srt (selK F lo hi F.length)).map (hOfK F)
def outH (F : List Fl) (lo hi : Int) (x : Nat) : List (Int × Int) := ((vals (selK F lo hi F.length)).take x).map fun v => hd2 (F[v.toNat]?.getD zFl)
theorem TF.valAt (h : TF S n T) {x : Nat} (hx : x < (vals (selK T.F lo hi T.F.length)).length) : ∃ (j : Nat) (hj : j < T.F.length), (vals (selK T.F lo hi T.F.length))[x] = (j : Int) ∧ Sx.hOfK T.F ((srt (selK T.F lo hi T.F.length))[x]'(by rw [← vals_len]; exact hx)) = hd2 T.F[j] := by
  have hg := h.selGood (lo := lo) (hi := hi) (Nat.le_refl T.F.length)
  obtain ⟨K, hK⟩ : ∃ y, selK T.F lo hi T.F.length = y := ⟨_, rfl⟩
  have hx2 : x < (srt (selK T.F lo hi T.F.length)).length := by rw [← vals_len]; exact hx
  have hm := (srt_mem hg).1 (List.getElem_mem hx2)
  obtain ⟨v, hv⟩ := Option.isSome_iff_exists.1 (findV_some.2 hm)
  have hme := (findV_mem hg).1 hv
  obtain ⟨j, hj, _, _, h3⟩ := (sel_mem (Nat.le_refl _)).1 hme
  rw [Prod.mk.injEq] at h3
  refine ⟨j, hj, ?_, ?_⟩
  · simp only [vals, List.getElem_map, hv, Option.getD_some, h3.2]
  · rw [h3.1, h.hOfK (List.getElem_mem hj)]
theorem TF.outH_next (h : TF S n T) {x j : Nat} (hx : x < (vals (selK T.F lo hi T.F.length)).length) (hj : j < T.F.length) (e : (vals (selK T.F lo hi T.F.length))[x] = (j : Int)) : outH T.F lo hi (x + 1) = outH T.F lo hi x ++ [hd2 T.F[j]] := by
  unfold outH
  rw [List.take_succ_eq_append_getElem hx, List.map_append, e, List.map_cons, List.map_nil, Int.toNat_natCast, List.getElem?_eq_getElem hj]
  rfl
theorem TF.outH_all (h : TF S n T) {x : Nat} (hx : (vals (selK T.F lo hi T.F.length)).length ≤ x) : outH T.F lo hi x = selH T.F lo hi := by
  unfold outH selH
  rw [List.take_of_length_le hx]
  apply List.ext_getElem
  · rw [List.length_map, List.length_map, vals_len]
  · intro y h1 h2
    rw [List.length_map] at h1
    obtain ⟨j, hj, e1, e2⟩ := h.valAt h1
    rw [List.getElem_map, List.getElem_map, e1, e2, Int.toNat_natCast, List.getElem?_eq_getElem hj]
    rfl
theorem outH_len (x : Nat) : (outH F lo hi x).length ≤ (vals (selK F lo hi F.length)).length := by
  unfold outH; rw [List.length_map, List.length_take]; omega
theorem TF.selVals (h : TF S n T) : (vals (selK T.F lo hi T.F.length)).length ≤ T.F.length := by
  rw [vals_len, srt_len (h.selGood (Nat.le_refl _))]; exact sel_len _
theorem TF.selAll (h : TF S n T) : selH T.F 0 4294967295 = allF T.F := by
  unfold selH allF
  congr 1
  refine srt_uniq h.own (srt_sorted (h.selGood (Nat.le_refl _))) fun y => ?_
  rw [srt_mem (h.selGood (Nat.le_refl _)), own_has]
  constructor
  · rintro ⟨e, he, h1⟩
    obtain ⟨j, hj, _, _, h3⟩ := (sel_mem (Nat.le_refl _)).1 he
    exact ⟨T.F[j], List.getElem_mem hj, by rw [← h1, h3]⟩
  · rintro ⟨f, hf, e⟩
    obtain ⟨j, hj, h3⟩ := List.getElem_of_mem hf
    have hw := h.wf f hf
    have hs := hw.s
    rw [← h3] at hs
    exact ⟨_, (sel_mem (Nat.le_refl _)).2 ⟨j, hj, hj, hs, rfl⟩, by rw [← e, h3]⟩
theorem TF.selFrom (h : TF S n T) (hs : 0 ≤ s ∧ s ≤ 4294967295) : selH T.F s s = frmF T.F s := by
  unfold selH frmF
  congr 1
  have hw : WfK (0, s, 0, 0, 0) := ⟨by dsimp only; omega, hs, by dsimp only; omega, by dsimp only; omega, by dsimp only; omega⟩
  refine sorted_uniq ltK.asymm (srt_sorted (h.selGood (Nat.le_refl _))) (undK_sorted h.own.wf) fun y => ?_
  rw [srt_mem (h.selGood (Nat.le_refl _)), undK_mem2 h.own.wf, own_has]
  constructor
  · rintro ⟨e, he, h1⟩
    obtain ⟨j, hj, _, h2, h3⟩ := (sel_mem (Nat.le_refl _)).1 he
    have e1 : T.F[j].k = y := by rw [← h1, h3]
    refine ⟨⟨by omega, by omega⟩, ⟨T.F[j], List.getElem_mem hj, e1⟩, ?_⟩
    rw [← e1]
    exact (src_digs (h.wf _ (List.getElem_mem hj)) hw).2 (by dsimp only; omega)
  · rintro ⟨_, ⟨f, hf, e⟩, h2⟩
    obtain ⟨j, hj, h3⟩ := List.getElem_of_mem hf
    have h4 := (src_digs (e ▸ h.wf f hf) hw).1 h2
    dsimp only at h4
    refine ⟨_, (sel_mem (Nat.le_refl _)).2 ⟨j, hj, hj, ?_, rfl⟩, by rw [← e, h3]⟩
    rw [h3, e, h4]; omega
end
end Go.Proofs.Ythhndmlfgjcgpaa.Sx
