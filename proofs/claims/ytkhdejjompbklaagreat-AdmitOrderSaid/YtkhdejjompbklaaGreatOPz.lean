/-
  My plain texts put together into one module.
-/
import Derived.Test.YtkhdejjompbklaaGreatOPs
import Derived.Test.YtkhdejjompbklaaGreatOPn
import Derived.Test.YtkhdejjompbklaaGreatOPm
import Derived.Test.YtkhdejjompbklaaGreatOPt
namespace Go.Proofs.YtkhdejjompbklaaGreat.Sx
open Go
set_option linter.unusedVariables false
set_option linter.unusedSimpArgs false
structure Dk where
  A : Ar
  T : So
  ord : List Nat
  tm : Nat → Int
  un : Int
  B : List (Int × Int)
  now : Int
structure DW (S lim : Nat) (D : Dk) : Prop where
  ok : AOk D.A
  size : D.A.turn.length = S
  sf : SF S lim D.T
  tk : ∀ i, D.A.tk[i]? = some true ↔ ∃ q ∈ D.T.O, q.2 = i
  ond : D.ord.Nodup
  oin : ∀ x ∈ D.ord, ∃ q ∈ D.T.O, q.2 = x
  blen : D.B.length = S
  now : 0 ≤ D.now ∧ D.now ≤ 1099511627776
  un : 0 ≤ D.un
structure DKF (S lim : Nat) (t p u : Int) (D : Dk) : Prop where
  w : DW S lim D
  rr : RR t p u
  l1 : 1 ≤ lim ∧ lim ≤ 64
  bok : ∀ q ∈ D.T.R, ∃ c, D.B[q.2]? = some c ∧ RB t p u c.1 c.2 ∧ c.2 ≤ D.now
def bkD (t p u : Int) (T : So) (B : List (Int × Int)) (a now : Int) : Int := match rcR T.R a with
  | none => u * p
  | some r => lvl t p u (B.getD r (0, 0)).1 (B.getD r (0, 0)).2 now
def opnD (D : Dk) (a : Int) (s : Nat) : Dk := { A := D.A.take, T := addO D.T a s, ord := D.ord ++ [s], tm := upd D.tm s (D.un + 1), un := D.un + 1, B := D.B, now := D.now }
def clsD (D : Dk) (a : Int) (s : Nat) : Dk := { A := D.A.give s, T := remO D.T a s, ord := D.ord.erase s, tm := D.tm, un := D.un, B := D.B, now := D.now }
def setB (D : Dk) (r : Nat) (c : Int × Int) : Dk := { A := D.A, T := D.T, ord := D.ord, tm := D.tm, un := D.un, B := D.B.set r c, now := D.now }
def atD (D : Dk) (n : Int) : Dk := { A := D.A, T := D.T, ord := D.ord, tm := D.tm, un := D.un, B := D.B, now := n }
def seeD (D : Dk) (s : Nat) : Dk := { A := D.A, T := D.T, ord := D.ord.erase s ++ [s], tm := upd D.tm s (D.un + 1), un := D.un + 1, B := D.B, now := D.now }
def assD (D : Dk) (s : Nat) : Dk := { A := D.A, T := D.T, ord := D.ord.erase s, tm := D.tm, un := D.un, B := D.B, now := D.now }
section
variable {S lim : Nat} {t p u : Int} {D : Dk} {a : Int}
theorem DW.at (h : DW S lim D) {x : Int} : (D.A.at x).isSome = (ofO D.T.O x).isSome := by
  cases hv : D.A.at x with
  | some v =>
    obtain ⟨h0, h1, _⟩ := at_tk.1 hv
    obtain ⟨q, hq, e⟩ := (h.tk x.toNat).1 h1
    have h2 := ofO_of h.sf.nds (a := q.1) (s := q.2) hq
    rw [show (q.2 : Int) = x from by omega] at h2
    rw [h2]; rfl
  | none =>
    cases hw : ofO D.T.O x with
    | none => rfl
    | some b =>
      obtain ⟨s, rfl, hm⟩ := ofO_in hw
      have h1 : D.A.at (s : Int) = some (D.A.turn[s]?.getD 0) := at_tk.2 ⟨by omega, by rw [Int.toNat_natCast]; exact (h.tk s).2 ⟨_, hm, rfl⟩, by rw [Int.toNat_natCast]⟩
      rw [hv] at h1; cases h1
theorem DW.atSome (h : DW S lim D) {s : Nat} (hm : (a, s) ∈ D.T.O) : ∃ v, D.A.at (s : Int) = some v :=
  ⟨_, at_tk.2 ⟨by omega, by rw [Int.toNat_natCast]; exact (h.tk s).2 ⟨_, hm, rfl⟩, rfl⟩⟩
theorem DW.cnt (h : DW S lim D) : Sx.cnt D.A.tk = (D.T.O.length : Int) := by
  rw [cnt_eq]
  have h1 := nodup_le2 (l1 := (List.range D.A.tk.length).filter fun i => decide (D.A.tk[i]? = some true)) (l2 := D.T.O.map Prod.snd) (List.nodup_range.sublist List.filter_sublist) fun i hi => by
    obtain ⟨_, h2⟩ := List.mem_filter.1 hi
    obtain ⟨q, hq, e⟩ := (h.tk i).1 (of_decide_eq_true h2)
    exact List.mem_map.2 ⟨q, hq, e⟩
  have h2 := nodup_le2 (l2 := (List.range D.A.tk.length).filter fun i => decide (D.A.tk[i]? = some true)) (l1 := D.T.O.map Prod.snd) h.sf.nds fun i hi => by
    obtain ⟨q, hq, e⟩ := List.mem_map.1 hi
    have h3 := (h.tk i).2 ⟨q, hq, e⟩
    exact List.mem_filter.2 ⟨List.mem_range.2 (List.getElem?_eq_some_iff.1 h3).1, decide_eq_true h3⟩
  rw [List.length_map] at h1 h2
  omega
theorem DW.free (h : DW S lim D) {s : Nat} (hs : s ∈ D.A.free) : s < S ∧ ofO D.T.O (s : Int) = none ∧ s ∉ D.ord := by
  have h1 := (h.ok.free s).1 hs
  have h2 := (List.getElem?_eq_some_iff.1 h1).1
  have h3 := h.ok.len
  have h4 := h.size
  have h5 : ∀ q ∈ D.T.O, q.2 ≠ s := fun q hq e => by
    have := (h.tk s).2 ⟨q, hq, e⟩
    rw [h1] at this; cases this
  refine ⟨by omega, ofO_none.2 fun q hq e => h5 q hq (by omega), fun hm => ?_⟩
  obtain ⟨q, hq, e⟩ := h.oin s hm
  exact h5 q hq e
theorem DW.olen (h : DW S lim D) : D.T.O.length ≤ S := h.sf.olen
theorem DW.full (h : DW S lim D) : D.T.O.length = S ↔ D.A.free = [] := by
  constructor
  · intro e
    rw [List.eq_nil_iff_forall_not_mem]
    intro s hs
    obtain ⟨h1, h2, _⟩ := h.free hs
    have := h.sf.oroom h1 h2
    omega
  · intro e
    have h1 := nodup_le2 (l1 := List.range S) (l2 := D.T.O.map Prod.snd) List.nodup_range fun i hi => by
      have h2 := List.mem_range.1 hi
      have h3 := h.ok.len
      have h4 := h.size
      have h5 : i < D.A.tk.length := by omega
      have h6 : ¬ D.A.tk[i]? = some false := fun e2 => by have := (h.ok.free i).2 e2; rw [e] at this; simp at this
      have h7 : D.A.tk[i]? = some true := by
        rw [List.getElem?_eq_getElem h5] at h6 ⊢
        cases hv : D.A.tk[i] with
        | true => rfl
        | false => rw [hv] at h6; exact absurd rfl h6
      obtain ⟨q, hq, e2⟩ := (h.tk i).1 h7
      exact List.mem_map.2 ⟨q, hq, e2⟩
    have h2 := h.olen
    rw [List.length_range, List.length_map] at h1
    omega
theorem DW.ordLen (h : DW S lim D) : D.ord.length ≤ D.T.O.length := by
  have h1 := nodup_le2 (l1 := D.ord) (l2 := D.T.O.map Prod.snd) h.ond fun x hx => by
    obtain ⟨q, hq, e⟩ := h.oin x hx
    exact List.mem_map.2 ⟨q, hq, e⟩
  rwa [List.length_map] at h1
theorem DW.ordOf (h : DW S lim D) {x : Nat} (hx : x ∈ D.ord) : ∃ b, (b, x) ∈ D.T.O := by
  obtain ⟨q, hq, e⟩ := h.oin x hx
  exact ⟨q.1, by rw [← e]; exact hq⟩
theorem SF.addO_O {T : So} (h : SF S lim T) {s : Nat} (hs : s < S) (hn : ofO T.O (s : Int) = none) : (Sx.addO T a s).O = T.O ++ [(a, s)] := by
  cases hr : rcR T.R a with
  | some r => rw [addO_old hr]
  | none =>
    have h1 := h.oroom hs hn
    have h2 := h.rleo
    obtain ⟨r, fs, e⟩ := h.hasFree (by omega)
    rw [addO_new hr e]
theorem SF.addO_rc {T : So} (h : SF S lim T) {s : Nat} (hs : s < S) (hn : ofO T.O (s : Int) = none) : ∃ r, rcR (Sx.addO T a s).R a = some r ∧ ∀ q ∈ (Sx.addO T a s).R, q.2 ≠ r → q ∈ T.R := by
  cases hr : rcR T.R a with
  | some r => rw [addO_old hr]; exact ⟨r, hr, fun q hq _ => hq⟩
  | none =>
    have h1 := h.oroom hs hn
    have h2 := h.rleo
    obtain ⟨r, fs, e⟩ := h.hasFree (by omega)
    rw [addO_new hr e]
    obtain ⟨_, hrn⟩ := h.free (r := r) (by rw [e]; exact List.mem_cons_self)
    refine ⟨r, rcR_of (fst_snoc h.nda (rcR_none.1 hr)) (List.mem_append.2 (.inr List.mem_cons_self)), fun q hq hne => ?_⟩
    rcases List.mem_append.1 hq with hq | hq
    · exact hq
    · simp only [List.mem_singleton] at hq; subst hq; exact absurd rfl hne
theorem remO_O {T : So} {s : Nat} : (remO T a s).O = T.O.filter fun p => decide (p.2 ≠ s) := by
  unfold remO; split <;> rfl
theorem remO_R {T : So} {s : Nat} {q : Int × Nat} (hq : q ∈ (remO T a s).R) : q ∈ T.R := by
  unfold remO at hq
  split at hq
  · exact (List.mem_filter.1 hq).1
  · exact hq
theorem DW.opn (h : DW S lim D) {s : Nat} {fs : List Nat} (ha : 0 ≤ a ∧ a ≤ 4294967295) (e : D.A.free = s :: fs) (hl : (slO D.T.O a).length < lim) : DW S lim (opnD D a s) := by
  obtain ⟨h1, h2, h3⟩ := h.free (s := s) (by rw [e]; exact List.mem_cons_self)
  have ht : D.A.take.tk = D.A.tk.set s true := by simp [Ar.take, e]
  have hu : D.A.take.turn = D.A.turn := by simp [Ar.take, e]
  have h5 := h.ok.len
  have h6 := h.size
  have hO := h.sf.addO_O (a := a) h1 h2
  refine ⟨AOk.take h.ok e, by show D.A.take.turn.length = S; rw [hu]; exact h.size, h.sf.addO ha h1 h2 hl, fun q => ?_, ?_, fun x hx => ?_, h.blen, h.now, by show 0 ≤ D.un + 1; have := h.un; omega⟩
  · show D.A.take.tk[q]? = some true ↔ ∃ p ∈ (Sx.addO D.T a s).O, p.2 = q
    rw [ht, hO]
    by_cases hq : s = q
    · subst hq
      rw [List.getElem?_set_self (by omega)]
      exact ⟨fun _ => ⟨_, List.mem_append.2 (.inr List.mem_cons_self), rfl⟩, fun _ => rfl⟩
    · rw [List.getElem?_set_ne hq, h.tk q]
      constructor
      · rintro ⟨p, hp, e2⟩; exact ⟨p, List.mem_append.2 (.inl hp), e2⟩
      · rintro ⟨p, hp, e2⟩
        rcases List.mem_append.1 hp with hp | hp
        · exact ⟨p, hp, e2⟩
        · simp only [List.mem_singleton] at hp; subst hp; exact absurd e2 hq
  · show (D.ord ++ [s]).Nodup
    rw [List.nodup_append]
    exact ⟨h.ond, by simp, fun x hx y hy e2 => by simp only [List.mem_singleton] at hy; subst hy; subst e2; exact h3 hx⟩
  · show ∃ p ∈ (Sx.addO D.T a s).O, p.2 = x
    rw [hO]
    rcases List.mem_append.1 (show x ∈ D.ord ++ [s] from hx) with hx | hx
    · obtain ⟨q, hq, e2⟩ := h.oin x hx
      exact ⟨q, List.mem_append.2 (.inl hq), e2⟩
    · simp only [List.mem_singleton] at hx; subst hx
      exact ⟨_, List.mem_append.2 (.inr List.mem_cons_self), rfl⟩
theorem DW.cls (h : DW S lim D) {s : Nat} (hm : (a, s) ∈ D.T.O) : DW S lim (clsD D a s) := by
  have hs := h.sf.lt _ hm
  have ht := (h.tk s).2 ⟨_, hm, rfl⟩
  have h5 := h.ok.len
  have h6 := h.size
  dsimp only at hs
  refine ⟨AOk.give h.ok ht, by show (D.A.give s).turn.length = S; simp [Ar.give, h.size], h.sf.remO hm, fun q => ?_, h.ond.sublist List.erase_sublist, fun x hx => ?_, h.blen, h.now, h.un⟩
  · show (D.A.tk.set s false)[q]? = some true ↔ ∃ p ∈ (Sx.remO D.T a s).O, p.2 = q
    rw [remO_O]
    by_cases hq : s = q
    · subst hq
      rw [List.getElem?_set_self (by omega)]
      constructor
      · intro e; cases e
      · rintro ⟨p, hp, e⟩
        exact absurd e (of_decide_eq_true (List.mem_filter.1 hp).2)
    · rw [List.getElem?_set_ne hq, h.tk q]
      constructor
      · rintro ⟨p, hp, e⟩; exact ⟨p, List.mem_filter.2 ⟨hp, decide_eq_true fun e2 => hq (e2.symm.trans e)⟩, e⟩
      · rintro ⟨p, hp, e⟩; exact ⟨p, (List.mem_filter.1 hp).1, e⟩
  · show ∃ p ∈ (Sx.remO D.T a s).O, p.2 = x
    rw [remO_O]
    obtain ⟨h7, h8⟩ := (List.Nodup.mem_erase_iff h.ond).1 (show x ∈ D.ord.erase s from hx)
    obtain ⟨q, hq, e⟩ := h.oin x h8
    exact ⟨q, List.mem_filter.2 ⟨hq, decide_eq_true fun e2 => h7 (e.symm.trans e2)⟩, e⟩
theorem DW.set (h : DW S lim D) {r : Nat} {c : Int × Int} : DW S lim (setB D r c) := ⟨h.ok, h.size, h.sf, h.tk, h.ond, h.oin, by show (D.B.set r c).length = S; rw [List.length_set]; exact h.blen, h.now, h.un⟩
theorem DW.to (h : DW S lim D) {n : Int} (hn : 0 ≤ n ∧ n ≤ 1099511627776) : DW S lim (atD D n) := ⟨h.ok, h.size, h.sf, h.tk, h.ond, h.oin, h.blen, hn, h.un⟩
theorem DW.see (h : DW S lim D) {s : Nat} (hm : (a, s) ∈ D.T.O) : DW S lim (seeD D s) := by
  refine ⟨h.ok, h.size, h.sf, h.tk, ?_, fun x hx => ?_, h.blen, h.now, by show 0 ≤ D.un + 1; have := h.un; omega⟩
  · show (D.ord.erase s ++ [s]).Nodup
    rw [List.nodup_append]
    exact ⟨h.ond.sublist List.erase_sublist, by simp, fun x hx y hy e2 => by simp only [List.mem_singleton] at hy; subst hy; subst e2; exact ((List.Nodup.mem_erase_iff h.ond).1 hx).1 rfl⟩
  · rcases List.mem_append.1 (show x ∈ D.ord.erase s ++ [s] from hx) with hx | hx
    · exact h.oin x (List.mem_of_mem_erase hx)
    · simp only [List.mem_singleton] at hx; subst hx
      exact ⟨_, hm, rfl⟩
theorem DW.ass (h : DW S lim D) {s : Nat} : DW S lim (assD D s) :=
  ⟨h.ok, h.size, h.sf, h.tk, h.ond.sublist List.erase_sublist, fun x hx => h.oin x (List.mem_of_mem_erase (show x ∈ D.ord.erase s from hx)), h.blen, h.now, h.un⟩
theorem DKF.cls (h : DKF S lim t p u D) {s : Nat} (hm : (a, s) ∈ D.T.O) : DKF S lim t p u (clsD D a s) := ⟨h.w.cls hm, h.rr, h.l1, fun q hq => h.bok q (remO_R hq)⟩
theorem DKF.to (h : DKF S lim t p u D) {n : Int} (hn : D.now ≤ n ∧ n ≤ 1099511627776) : DKF S lim t p u (atD D n) := by
  have h0 := h.w.now
  refine ⟨h.w.to ⟨by omega, hn.2⟩, h.rr, h.l1, fun q hq => ?_⟩
  obtain ⟨c, h1, h2, h3⟩ := h.bok q hq
  exact ⟨c, h1, h2, by show c.2 ≤ n; omega⟩
theorem DKF.see (h : DKF S lim t p u D) {s : Nat} (hm : (a, s) ∈ D.T.O) : DKF S lim t p u (seeD D s) := ⟨h.w.see hm, h.rr, h.l1, h.bok⟩
theorem DKF.ass (h : DKF S lim t p u D) {s : Nat} : DKF S lim t p u (assD D s) := ⟨h.w.ass, h.rr, h.l1, h.bok⟩
theorem DKF.opn (h : DKF S lim t p u D) {s r : Nat} {fs : List Nat} {c : Int × Int} (ha : 0 ≤ a ∧ a ≤ 4294967295) (e : D.A.free = s :: fs) (hl : (slO D.T.O a).length < lim)
    (hr : rcR (Sx.addO D.T a s).R a = some r) (hc : RB t p u c.1 c.2) (hn : c.2 ≤ D.now) : DKF S lim t p u (setB (opnD D a s) r c) := by
  obtain ⟨h1, h2, _⟩ := h.w.free (s := s) (by rw [e]; exact List.mem_cons_self)
  obtain ⟨r', hr', ho⟩ := h.w.sf.addO_rc (a := a) h1 h2
  have hrr : r' = r := by rw [hr] at hr'; exact (Option.some.inj hr').symm
  subst hrr
  have hw := h.w.opn ha e hl
  have hrS := hw.sf.rlt (rcR_in hr)
  have hb := h.w.blen
  refine ⟨hw.set, h.rr, h.l1, fun q hq => ?_⟩
  show ∃ x, (D.B.set r' c)[q.2]? = some x ∧ _ ∧ _
  by_cases hq2 : q.2 = r'
  · rw [hq2, List.getElem?_set_self (by dsimp only at hrS; omega)]
    exact ⟨c, rfl, hc, hn⟩
  · rw [List.getElem?_set_ne (fun e2 => hq2 e2.symm)]
    exact h.bok q (ho q hq hq2)
theorem DKF.set (h : DKF S lim t p u D) {r : Nat} {c : Int × Int} (hr : rcR D.T.R a = some r) (hc : RB t p u c.1 c.2) (hn : c.2 ≤ D.now) : DKF S lim t p u (setB D r c) := by
  have hrS := h.w.sf.rlt (rcR_in hr)
  have hb := h.w.blen
  refine ⟨h.w.set, h.rr, h.l1, fun q hq => ?_⟩
  show ∃ x, (D.B.set r c)[q.2]? = some x ∧ _ ∧ _
  by_cases hq2 : q.2 = r
  · rw [hq2, List.getElem?_set_self (by dsimp only at hrS; omega)]
    exact ⟨c, rfl, hc, hn⟩
  · rw [List.getElem?_set_ne (fun e2 => hq2 e2.symm)]
    exact h.bok q hq
theorem lvl_self {b lv now : Int} (h : RB t p b lv now) : lvl t p b lv now now = lv := by
  obtain ⟨_, h1, h2, _⟩ := h
  unfold lvl
  rw [Int.sub_self, Int.zero_mul]
  omega
theorem fullF_pos {b now : Int} (h : RR t p b) (hn : 0 ≤ now ∧ now ≤ 1099511627776) : fullF t p b now = (b * p, now, 0) := by rw [fullF, if_pos ⟨h, hn⟩]
theorem bk_none {T : So} {B : List (Int × Int)} {now : Int} (h : rcR T.R a = none) : bkD t p u T B a now = u * p := by unfold bkD; rw [h]
theorem bk_some {T : So} {B : List (Int × Int)} {now : Int} {r : Nat} {c : Int × Int} (h : rcR T.R a = some r) (hc : B[r]? = some c) : bkD t p u T B a now = lvl t p u c.1 c.2 now := by
  unfold bkD; rw [h]; simp [hc]
theorem DKF.got (h : DKF S lim t p u D) {r : Nat} {n : Int} (hn : D.now ≤ n ∧ n ≤ 1099511627776) (hr : rcR D.T.R a = some r) : ∃ c, r < S ∧ D.B[r]? = some c ∧ RT t p u c.1 c.2 n := by
  obtain ⟨c, h1, h2, h3⟩ := h.bok _ (rcR_in hr)
  have := h.w.sf.rlt (rcR_in hr)
  exact ⟨c, this, h1, h2, by omega, hn.2⟩
theorem DKF.bk (h : DKF S lim t p u D) {n : Int} (hn : D.now ≤ n ∧ n ≤ 1099511627776) : RB t p u (bkD t p u D.T D.B a n) n := by
  have h0 := h.w.now
  have hm := h.rr.most
  cases hr : rcR D.T.R a with
  | none => rw [bk_none hr]; exact ⟨h.rr, hm.1, by omega, by omega, hn.2⟩
  | some r =>
    obtain ⟨c, _, hc, hT⟩ := h.got hn hr
    rw [bk_some hr hc]
    have := lvl_bd hT
    exact ⟨h.rr, this.1, this.2.1, by omega, hn.2⟩
theorem take1 {lv n : Int} (h : RB t p u lv n) : takeF t p u lv n n 1 = if lv < p then (0, 0, 6) else (lv - p, n, 0) := by
  obtain ⟨hr, h1, h2, h3, h4⟩ := h
  have hT : RT t p u lv n n := ⟨⟨hr, h1, h2, h3, h4⟩, Int.le_refl _, h4⟩
  have hl := lvl_self hT.1
  have hu : 1 ≤ u := hr.2.2.2.2.1
  by_cases hp : lv < p
  · rw [if_pos hp, takeF_none hT (by omega) hu (by rw [hl, Int.one_mul]; exact hp)]
  · rw [if_neg hp, takeF_ok hT (by omega) hu (by rw [hl, Int.one_mul]; omega), hl, Int.one_mul]
theorem tok1 {lv n : Int} (h : RB t p u lv n) : tokF t p u lv n n = (lv / p, 0) := by
  obtain ⟨hr, h1, h2, h3, h4⟩ := h
  have hT : RT t p u lv n n := ⟨⟨hr, h1, h2, h3, h4⟩, Int.le_refl _, h4⟩
  rw [tokF_pos hT, lvl_self hT.1]
theorem RB.less {lv n : Int} (h : RB t p u lv n) (hp : ¬ lv < p) : RB t p u (lv - p) n := by
  obtain ⟨hr, h1, h2, h3, h4⟩ := h
  have : 1 ≤ p := hr.2.2.1
  exact ⟨hr, by omega, by omega, h3, h4⟩
theorem see_at {ord : List Nat} {tm : Nat → Int} {un : Int} {s : Nat} (hs : s < S) : seeO S ord (s : Int) = ord.erase s ++ [s] ∧ seeT S tm un (s : Int) = upd tm s (un + 1) ∧ seeN S un (s : Int) = un + 1 ∧ loutO S ord (s : Int) = ord.erase s := by
  have h : 0 ≤ (s : Int) ∧ (s : Int) < S := by omega
  exact ⟨by rw [seeO, if_pos h, Int.toNat_natCast], by rw [seeT, if_pos h, Int.toNat_natCast], by rw [seeN, if_pos h], by rw [loutO, if_pos h, Int.toNat_natCast]⟩
theorem see_new {ord : List Nat} {tm : Nat → Int} {un : Int} {s : Nat} (hs : s < S) (hn : s ∉ ord) : seeO S ord (s : Int) = ord ++ [s] ∧ seeT S tm un (s : Int) = upd tm s (un + 1) ∧ seeN S un (s : Int) = un + 1 := by
  obtain ⟨h1, h2, h3, _⟩ := see_at (ord := ord) (tm := tm) (un := un) hs
  rw [List.erase_of_not_mem hn] at h1
  exact ⟨h1, h2, h3⟩
theorem DKF.new (h1 : 1 ≤ S) (h2 : S ≤ 4096) (hr : RR t p u) (hl : 1 ≤ lim ∧ lim ≤ 64) : DKF S lim t p u { A := Ar.new S, T := { O := [], R := [], A := Ar.new S }, ord := [], tm := fun _ => 0, un := 0, B := List.replicate S (0, 0), now := 0 } := by
  have h := SF.new (lim := lim) h1 h2
  have h0 := h.tk
  refine ⟨⟨h.ok, h.size, h, fun i => ?_, by simp, by simp, by simp, by dsimp only; omega, by dsimp only; omega⟩, hr, hl, by simp⟩
  exact (h0 i).trans (by simp)
end
end Go.Proofs.YtkhdejjompbklaaGreat.Sx
namespace Go.Proofs.YtkhdejjompbklaaGreat.Sx
open Go
set_option linter.unusedVariables false
set_option linter.unusedSimpArgs false
structure DKT where
  D : TypeId
  B : TypeId
  U : TypeId
  s : ST
structure DKX where
  ba : Nat
  bs : Nat
  bo : Nat
  r : Option Addr
  c : Nat
abbrev deskL (t : DKT) (b S lim : Nat) (q : Int × Int × Int) (D : Dk) (x : DKX) : List HP :=
  [blk b [.pointer (some ⟨x.ba, 0, none⟩), .pointer (some ⟨x.bs, 0, none⟩), .pointer (some ⟨x.bo, 0, none⟩), .slice x.r S x.c, .int .i64 (S : Int), .int .i64 (lim : Int), .int .i64 q.1, .int .i64 q.2.1, .int .i64 q.2.2, .int .i64 D.now] t.D,
   arena t.s.R t.s.S x.ba D.A, sourceA t.s x.bs S lim D.T, lruA t.U t.s.L t.s.M t.s.I x.bo S D.ord D.tm D.un, sls x.r S x.c t.B 2 (D.B.flatMap e2)]
def deskA (t : DKT) (b S lim : Nat) (q : Int × Int × Int) (D : Dk) : HP := box (fun _ : DKX => True) (deskL t b S lim q D)
section
variable {t : DKT} {b S lim ba bs bo c : Nat} {r : Option Addr} {q1 q2 q3 : Int} {D : Dk} {l : List HP} {w : World}
theorem Sep.deskE (h : Sep (deskA t b S lim (q1, q2, q3) D :: l) w) :
    ∃ ba bs bo r c, Sep (blk b [.pointer (some ⟨ba, 0, none⟩), .pointer (some ⟨bs, 0, none⟩), .pointer (some ⟨bo, 0, none⟩), .slice r S c, .int .i64 (S : Int), .int .i64 (lim : Int), .int .i64 q1, .int .i64 q2, .int .i64 q3, .int .i64 D.now] t.D ::
      arena t.s.R t.s.S ba D.A :: sourceA t.s bs S lim D.T :: lruA t.U t.s.L t.s.M t.s.I bo S D.ord D.tm D.un :: sls r S c t.B 2 (D.B.flatMap e2) :: l) w := by
  obtain ⟨x, _, h2⟩ := h.boxE
  exact ⟨x.ba, x.bs, x.bo, x.r, x.c, h2⟩
theorem Sep.deskI {A : Ar} {T : So} {ord : List Nat} {tm : Nat → Int} {un now : Int} {B : List (Int × Int)}
    (h : Sep (blk b [.pointer (some ⟨ba, 0, none⟩), .pointer (some ⟨bs, 0, none⟩), .pointer (some ⟨bo, 0, none⟩), .slice r S c, .int .i64 (S : Int), .int .i64 (lim : Int), .int .i64 q1, .int .i64 q2, .int .i64 q3, .int .i64 now] t.D ::
      arena t.s.R t.s.S ba A :: sourceA t.s bs S lim T :: lruA t.U t.s.L t.s.M t.s.I bo S ord tm un :: sls r S c t.B 2 (B.flatMap e2) :: l) w) : Sep (deskA t b S lim (q1, q2, q3) { A := A, T := T, ord := ord, tm := tm, un := un, B := B, now := now } :: l) w :=
  Sep.boxI (⟨ba, bs, bo, r, c⟩ : DKX) trivial h
end
theorem Rds.pairs {l l' : List HP} {r : Option Addr} {m cap k : Nat} {T : TypeId} {B : List (Int × Int)} {x y : Int} (p : Pk (Sx.sls r m cap T 2 (B.flatMap e2)) l l') (hk : B[k]? = some (x, y)) : Rds l (blkOf r) (k * 2) [.int .i64 x, .int .i64 y] := by
  obtain ⟨h1, h2⟩ := List.getElem?_eq_some_iff.1 hk
  have h3 := Rds.rec (enc := e2) p (fun _ => rfl) h1
  rw [h2] at h3; exact h3
end Go.Proofs.YtkhdejjompbklaaGreat.Sx
namespace Go.Proofs.YtkhdejjompbklaaGreat.Sx
open Go
set_option linter.unusedVariables false
set_option linter.unusedSimpArgs false
def putB (D : Dk) (a : Int) (c : Int × Int) : Dk := setB D ((rcR D.T.R a).getD 0) c
def heldD (D : Dk) (a : Int) : Option (Int × Int) := (rcR D.T.R a).map fun q => D.B.getD q (0, 0)
def asD (S : Nat) (D : Dk) (x : Int) : Bool := decide (clsE S D.T x = 0) && !decide (x.toNat ∈ D.ord)
def tryD (lim : Nat) (t p u : Int) (D : Dk) (n a : Int) : (Int × Int × Int × Bool × Int) × Dk :=
  if n < D.now ∨ 1099511627776 < n then ((0, 0, 0, false, 2), D)
  else if lim ≤ (slO D.T.O a).length then ((27, 0, 0, false, 0), atD D n)
  else if bkD t p u D.T D.B a n < p then ((28, 0, 0, false, 0), atD D n)
  else match D.A.free with
    | s :: _ => ((22, (s : Int), 0, false, 0), putB (opnD (atD D n) a s) a (bkD t p u D.T D.B a n - p, n))
    | [] => match D.ord with
      | [] => ((29, 0, 0, false, 0), atD D n)
      | v :: _ => ((22, (v : Int), (v : Int), true, 0), putB (opnD (clsD (atD D n) ((ofO D.T.O (v : Int)).getD 0) v) a v) a (bkD t p u D.T D.B a n - p, n))
def tryV (x : Int × Int × Int × Bool × Int) : Value := .tuple [.agg [.int .u8 x.1, .int .i64 x.2.1, .int .i64 x.2.2.1, .bool x.2.2.2.1].toArray, .int .i64 x.2.2.2.2].toArray
def seeN' (S : Nat) (D : Dk) (x : Int) : Dk := if clsE S D.T x = 0 ∧ x.toNat ∈ D.ord then seeD D x.toNat else D
def assN (S : Nat) (D : Dk) (x : Int) : Dk := if clsE S D.T x = 0 then assD D x.toNat else D
def cloN (D : Dk) (x : Int) : Dk := match ofO D.T.O x with
  | some a => clsD D a x.toNat
  | none => D
section
variable {S lim : Nat} {t p u : Int} {D : Dk} {a n x : Int}
theorem when_at {ord : List Nat} {T : Nat → Int} (h : 0 ≤ x ∧ x < S) : whenV S ord T x = .tuple [.int .i64 (if x.toNat ∈ ord then T x.toNat else 0), .bool (decide (x.toNat ∈ ord))].toArray := by
  unfold whenV
  by_cases hm : x.toNat ∈ ord
  · rw [if_pos ⟨h.1, h.2, hm⟩, if_pos hm, decide_eq_true hm]
  · rw [if_neg (fun c => hm c.2.2), if_neg hm, decide_eq_false hm]
theorem clsE_in {T : So} (h : clsE S T x = 0) : (0 ≤ x ∧ x < S) ∧ ∃ b, ofO T.O x = some b := by
  unfold clsE at h
  by_cases h1 : 0 ≤ x ∧ x < S
  · rw [if_neg (fun c => c h1)] at h
    by_cases h2 : (ofO T.O x).isSome = true
    · exact ⟨h1, Option.isSome_iff_exists.1 h2⟩
    · rw [if_neg h2] at h; cases h
  · rw [if_pos h1] at h; cases h
theorem clsE_of (h : DW S lim D) {s : Nat} (hm : (a, s) ∈ D.T.O) : clsE S D.T (s : Int) = 0 ∧ s < S ∧ ofO D.T.O (s : Int) = some a ∧ ∃ v, D.A.at (s : Int) = some v :=
  ⟨(cls_ok (h.sf.lt _ hm) (ofO_of h.sf.nds hm)).1, h.sf.lt _ hm, ofO_of h.sf.nds hm, h.atSome hm⟩
theorem clsE_nat (hD : DW S lim D) (h : clsE S D.T x = 0) : ∃ (s : Nat) (b : Int), x = s ∧ (b, s) ∈ D.T.O := by
  obtain ⟨_, b, hb⟩ := clsE_in h
  obtain ⟨s, e, hm⟩ := ofO_in hb
  exact ⟨s, b, e, hm⟩
theorem slO_rem {T : So} {b : Int} {s : Nat} : (slO (remO T b s).O a).length ≤ (slO T.O a).length := by
  rw [remO_O, slO_out]; exact List.length_filter_le _ _
theorem cnt_lit (h : DW S lim D) : (Sx.cnt D.A.tk = (S : Int)) ↔ D.A.free = [] := by
  rw [h.cnt, ← h.full]; omega
theorem DW.rcAdd (h : DW S lim D) {s : Nat} {fs : List Nat} (e : D.A.free = s :: fs) (ha : 0 ≤ a ∧ a ≤ 4294967295) (hl : (slO D.T.O a).length < lim) : ∃ q, rcR (Sx.addO D.T a s).R a = some q ∧ q < S := by
  obtain ⟨h1, h2, _⟩ := h.free (s := s) (by rw [e]; exact List.mem_cons_self)
  obtain ⟨q, hq, _⟩ := h.sf.addO_rc (a := a) h1 h2
  exact ⟨q, hq, (h.sf.addO ha h1 h2 hl).rlt (rcR_in hq)⟩
theorem DKF.put (h : DKF S lim t p u D) {s : Nat} {fs : List Nat} {c : Int × Int} (ha : 0 ≤ a ∧ a ≤ 4294967295) (e : D.A.free = s :: fs) (hl : (slO D.T.O a).length < lim) (hc : RB t p u c.1 c.2) (hn : c.2 ≤ D.now) : DKF S lim t p u (putB (opnD D a s) a c) := by
  obtain ⟨q, hq, _⟩ := h.w.rcAdd e ha hl
  unfold putB
  rw [show (rcR (opnD D a s).T.R a).getD 0 = q from by show (rcR (Sx.addO D.T a s).R a).getD 0 = q; rw [hq]; rfl]
  exact h.opn ha e hl hq hc hn
theorem DKF.try (h : DKF S lim t p u D) (ha : 0 ≤ a ∧ a ≤ 4294967295) : DKF S lim t p u (tryD lim t p u D n a).2 := by
  unfold tryD
  split
  · exact h
  rename_i h1
  have hn : D.now ≤ n ∧ n ≤ 1099511627776 := by omega
  have hB := h.bk (a := a) hn
  split
  · exact h.to hn
  split
  · exact h.to hn
  rename_i h2 h3
  have hB2 := hB.less h3
  split
  · rename_i s fs e
    exact (h.to hn).put ha e (by show (slO D.T.O a).length < lim; omega) hB2 (Int.le_refl _)
  split
  · exact h.to hn
  · rename_i e v vs e2
    obtain ⟨b, hb⟩ := h.w.ordOf (x := v) (by rw [e2]; exact List.mem_cons_self)
    rw [ofO_of h.w.sf.nds hb]
    have h4 := (h.to hn).cls (a := b) (s := v) hb
    refine h4.put (s := v) (fs := D.A.free) ha rfl ?_ hB2 (Int.le_refl _)
    have := slO_rem (T := D.T) (a := a) (b := b) (s := v)
    show (slO (remO D.T b v).O a).length < lim
    omega
theorem tryD_un : (tryD lim t p u D n a).2.un ≤ D.un + 1 := by
  unfold tryD
  have h0 : D.un ≤ D.un + 1 := by omega
  split
  · exact h0
  split
  · exact h0
  split
  · exact h0
  split
  · exact Int.le_refl _
  split
  · exact h0
  · exact Int.le_refl _
theorem seeN_un (h : DW S lim D) : (seeN' S D x).un ≤ D.un + 1 ∧ DW S lim (seeN' S D x) := by
  unfold seeN'
  split
  · rename_i hc
    obtain ⟨s, b, rfl, hm⟩ := clsE_nat h hc.1
    rw [Int.toNat_natCast]
    exact ⟨Int.le_refl _, h.see hm⟩
  · exact ⟨by omega, h⟩
theorem DKF.seeN (h : DKF S lim t p u D) : DKF S lim t p u (seeN' S D x) := by
  unfold seeN'
  split
  · rename_i hc
    obtain ⟨s, b, rfl, hm⟩ := clsE_nat h.w hc.1
    rw [Int.toNat_natCast]
    exact h.see hm
  · exact h
theorem DKF.assN (h : DKF S lim t p u D) : DKF S lim t p u (assN S D x) := by
  unfold Sx.assN
  split
  · exact h.ass
  · exact h
theorem DKF.cloN (h : DKF S lim t p u D) : DKF S lim t p u (cloN D x) := by
  unfold Sx.cloN
  split
  · rename_i b hb
    obtain ⟨s, rfl, hm⟩ := ofO_in hb
    rw [Int.toNat_natCast]
    exact h.cls hm
  · exact h
theorem assN_un : (assN S D x).un = D.un := by unfold assN; split <;> rfl
theorem cloN_un : (cloN D x).un = D.un := by unfold cloN; split <;> rfl
end
end Go.Proofs.YtkhdejjompbklaaGreat.Sx
