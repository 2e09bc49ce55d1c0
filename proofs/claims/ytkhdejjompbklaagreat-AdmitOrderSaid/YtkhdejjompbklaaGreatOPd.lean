/-
  My plain texts put together into one module.
-/
import Derived.Test.YtkhdejjompbklaaGreatOPb
import Derived.Test.YtkhdejjompbklaaGreatOPc
import Derived.WideKeyRuns
import Derived.MapKept
namespace Go.Proofs.YtkhdejjompbklaaGreat.Sx
open Go
set_option linter.unusedVariables false
set_option linter.unusedSimpArgs false
def num (ds : List Int) : Int := ds.foldl (fun x d => x * 16 + d) 0
def DigS (ds : List Int) : Prop := ∀ d ∈ ds, 0 ≤ d ∧ d < 16
def seg (ds : List Int) (f m : Nat) : List Int := (ds.drop f).take m
def keyD (ds : List Int) : Ky := (num (seg ds 16 2), num (seg ds 0 8), num (seg ds 8 8), num (seg ds 18 4), num (seg ds 22 4))
theorem dl_dig (k : Ky) : DigS (dl k) := by
  intro d hd
  unfold dl at hd
  obtain ⟨i, _, rfl⟩ := List.mem_map.1 hd
  exact dig_bd k i
theorem keyD_dl {k : Ky} (h : WfK k) : keyD (dl k) = k := by
  obtain ⟨p, s, d, a, b⟩ := k
  have q1 := h.p; have q2 := h.s; have q3 := h.d; have q4 := h.a; have q5 := h.b
  dsimp only at q1 q2 q3 q4 q5
  have e1 : num (seg (dl (p, s, d, a, b)) 16 2) = p := by
    show ((0 * 16 + p % 256 / 16 % 16) * 16 + p % 256 % 16 : Int) = p
    omega
  have e2 : num (seg (dl (p, s, d, a, b)) 0 8) = s := by
    show ((((((((0 * 16 + s / 16777216 % 256 / 16 % 16) * 16 + s / 16777216 % 256 % 16) * 16 + s / 65536 % 256 / 16 % 16) * 16 + s / 65536 % 256 % 16) * 16 + s / 256 % 256 / 16 % 16) * 16 + s / 256 % 256 % 16) * 16 + s % 256 / 16 % 16) * 16 + s % 256 % 16 : Int) = s
    omega
  have e3 : num (seg (dl (p, s, d, a, b)) 8 8) = d := by
    show ((((((((0 * 16 + d / 16777216 % 256 / 16 % 16) * 16 + d / 16777216 % 256 % 16) * 16 + d / 65536 % 256 / 16 % 16) * 16 + d / 65536 % 256 % 16) * 16 + d / 256 % 256 / 16 % 16) * 16 + d / 256 % 256 % 16) * 16 + d % 256 / 16 % 16) * 16 + d % 256 % 16 : Int) = d
    omega
  have e4 : num (seg (dl (p, s, d, a, b)) 18 4) = a := by
    show ((((0 * 16 + a / 256 % 256 / 16 % 16) * 16 + a / 256 % 256 % 16) * 16 + a % 256 / 16 % 16) * 16 + a % 256 % 16 : Int) = a
    omega
  have e5 : num (seg (dl (p, s, d, a, b)) 22 4) = b := by
    show ((((0 * 16 + b / 256 % 256 / 16 % 16) * 16 + b / 256 % 256 % 16) * 16 + b % 256 / 16 % 16) * 16 + b % 256 % 16 : Int) = b
    omega
  unfold keyD
  rw [e1, e2, e3, e4, e5]
def undL (c : List Int → Nat) : Nat → List Int → List (List Int)
  | 0, p => [p]
  | d + 1, p => (List.range 16).flatMap fun x : Nat => if 0 < c (p ++ [(x : Int)]) then undL c d (p ++ [(x : Int)]) else []
def undX (c : List Int → Nat) (d : Nat) (p : List Int) (x : Nat) : List (List Int) := (List.range x).flatMap fun x : Nat => if 0 < c (p ++ [(x : Int)]) then undL c d (p ++ [(x : Int)]) else []
theorem undX_succ {c : List Int → Nat} {d : Nat} {p : List Int} {x : Nat} : undX c d p (x + 1) = undX c d p x ++ if 0 < c (p ++ [(x : Int)]) then undL c d (p ++ [(x : Int)]) else [] := by
  unfold undX
  rw [List.range_succ, List.flatMap_append]
  simp
theorem undX_all {c : List Int → Nat} {d : Nat} {p : List Int} : undX c d p 16 = undL c (d + 1) p := rfl
end Go.Proofs.YtkhdejjompbklaaGreat.Sx
namespace Go.Proofs.YtkhdejjompbklaaGreat.Sx
open Go
set_option linter.unusedVariables false
set_option linter.unusedSimpArgs false
theorem DigS.set {xs : List Int} {k : Nat} {x : Int} (h : DigS xs) (hx : 0 ≤ x ∧ x < 16) : DigS (xs.set k x) := by
  intro d hd
  rcases List.mem_or_eq_of_mem_set hd with hd | rfl
  · exact h d hd
  · exact hx
end Go.Proofs.YtkhdejjompbklaaGreat.Sx
namespace Go.Proofs.YtkhdejjompbklaaGreat.Sx
open Go
set_option linter.unusedVariables false
set_option linter.unusedSimpArgs false
theorem undL_mem {c : List Int → Nat} : ∀ {d : Nat} {p q : List Int}, q ∈ undL c d p → q.length = p.length + d ∧ q.take p.length = p ∧ (d = 0 ∨ 0 < c q)
  | 0, p, q, h => by
    have hq : q = p := by simpa [undL] using h
    subst hq
    exact ⟨rfl, List.take_of_length_le (Nat.le_refl _), .inl rfl⟩
  | d + 1, p, q, h => by
    unfold undL at h
    obtain ⟨x, hx, hq⟩ := List.mem_flatMap.1 h
    by_cases hc : 0 < c (p ++ [(x : Int)])
    · rw [if_pos hc] at hq
      obtain ⟨h1, h2, h3⟩ := undL_mem hq
      rw [List.length_append] at h1 h2
      refine ⟨by simp at h1; omega, ?_, .inr ?_⟩
      · have h4 := congrArg (fun u => u.take p.length) h2
        simpa [List.take_take] using h4
      · rcases h3 with h3 | h3
        · subst h3
          have hq2 : q = p ++ [(x : Int)] := by simpa [undL] using hq
          rw [hq2]; exact hc
        · exact h3
    · rw [if_neg hc] at hq; simp at hq
theorem undL_nodup {c : List Int → Nat} : ∀ {d : Nat} {p : List Int}, (undL c d p).Nodup
  | 0, p => by simp [undL]
  | d + 1, p => by
    have key : ∀ x, (undX c d p x).Nodup ∧ ∀ q ∈ undX c d p x, ∃ y : Nat, y < x ∧ q.take (p.length + 1) = p ++ [(y : Int)] := by
      intro x
      induction x with
      | zero => exact ⟨by simp [undX], fun q h => by simp [undX] at h⟩
      | succ x ih =>
        rw [undX_succ]
        by_cases hc : 0 < c (p ++ [(x : Int)])
        · rw [if_pos hc]
          have hm : ∀ q ∈ undL c d (p ++ [(x : Int)]), q.take (p.length + 1) = p ++ [(x : Int)] := fun q hq => by
            have h1 := (undL_mem hq).2.1
            rw [List.length_append] at h1
            exact h1
          refine ⟨?_, fun q hq => ?_⟩
          · rw [List.nodup_append]
            refine ⟨ih.1, undL_nodup, fun a ha b hb e => ?_⟩
            obtain ⟨y, hy, h2⟩ := ih.2 a ha
            have h3 := hm b hb
            rw [← e, h2] at h3
            have h4 := List.append_cancel_left h3
            simp at h4; omega
          · rcases List.mem_append.1 hq with hq | hq
            · obtain ⟨y, hy, h2⟩ := ih.2 q hq
              exact ⟨y, by omega, h2⟩
            · exact ⟨x, by omega, hm q hq⟩
        · rw [if_neg hc, List.append_nil]
          exact ⟨ih.1, fun q hq => let ⟨y, hy, h2⟩ := ih.2 q hq; ⟨y, by omega, h2⟩⟩
    rw [← undX_all]
    exact (key 16).1
theorem cK_some {K : List (Ky × Int)} {q : List Int} (hl : q.length = 26) (h : 0 < cK K q) : ∃ e ∈ K, dl e.1 = q := by
  unfold cK at h
  rw [List.countP_pos_iff] at h
  obtain ⟨e, he, hp⟩ := h
  rw [isPrefix_iff, hl, List.take_of_length_le (by rw [dl_len]; omega)] at hp
  exact ⟨e, he, hp.symm⟩
end Go.Proofs.YtkhdejjompbklaaGreat.Sx
namespace Go.Proofs.YtkhdejjompbklaaGreat.Sx
open Go
set_option linter.unusedVariables false
set_option linter.unusedSimpArgs false
theorem cK_pre {K : List (Ky × Int)} {p q : List Int} (h : q.take p.length = p) (hc : 0 < cK K q) : 0 < cK K p := by
  unfold cK at hc ⊢
  rw [List.countP_pos_iff] at hc ⊢
  obtain ⟨e, he, hp⟩ := hc
  refine ⟨e, he, ?_⟩
  rw [List.isPrefixOf_iff_prefix] at hp ⊢
  have h2 : p <+: q := by rw [← h]; exact List.take_prefix _ _
  exact h2.trans hp
theorem undL_all {K : List (Ky × Int)} : ∀ {d : Nat} {p q : List Int}, q.length = p.length + d → q.take p.length = p → DigS q → 0 < cK K q → q ∈ undL (cK K) d p
  | 0, p, q, hl, hp, _, _ => by
    rw [List.take_of_length_le (by omega)] at hp
    simp [undL, hp]
  | d + 1, p, q, hl, hp, hd, hc => by
    have hlt : p.length < q.length := by omega
    have hx := hd _ (List.getElem_mem hlt)
    obtain ⟨x, hxe⟩ : ∃ x : Nat, q[p.length] = (x : Int) := ⟨(q[p.length]).toNat, by omega⟩
    have hx16 : x < 16 := by omega
    have h1 : q.take (p ++ [(x : Int)]).length = p ++ [(x : Int)] := by
      rw [List.length_append, show p.length + [(x : Int)].length = p.length + 1 from rfl, List.take_succ_eq_append_getElem hlt, hp, hxe]
    have h2 := cK_pre h1 hc
    unfold undL
    refine List.mem_flatMap.2 ⟨x, List.mem_range.2 hx16, ?_⟩
    rw [if_pos h2]
    exact undL_all (by rw [List.length_append]; simp; omega) h1 hd hc
def undK' (K : List (Ky × Int)) (k : Ky) (n : Int) : List Ky := if 0 ≤ n ∧ n ≤ 26 ∧ 0 < cK K ((dl k).take n.toNat) then (undL (cK K) (26 - n.toNat) ((dl k).take n.toNat)).map keyD else []
section
variable {K : List (Ky × Int)} {k k' : Ky} {n : Int}
theorem undL_key (hK : ∀ e ∈ K, WfK e.1) {d : Nat} {p q : List Int} (hl : p.length + d = 26) (hc : 0 < cK K p) (h : q ∈ undL (cK K) d p) : ∃ e ∈ K, dl e.1 = q ∧ keyD q = e.1 := by
  obtain ⟨h1, h2, h3⟩ := undL_mem h
  have h4 : 0 < cK K q := by
    rcases h3 with h3 | h3
    · subst h3
      have hq2 : q = p := by simpa [undL] using h
      rw [hq2]; exact hc
    · exact h3
  obtain ⟨e, he, hd⟩ := cK_some (by omega) h4
  exact ⟨e, he, hd, by rw [← hd, keyD_dl (hK e he)]⟩
theorem undK_mem (hK : ∀ e ∈ K, WfK e.1) (hk' : WfK k') : k' ∈ undK' K k n ↔ (0 ≤ n ∧ n ≤ 26) ∧ has K k' ∧ (dl k').take n.toNat = (dl k).take n.toNat := by
  unfold undK'
  constructor
  · intro h
    split at h
    · rename_i hc
      obtain ⟨q, hq, rfl⟩ := List.mem_map.1 h
      have hpl : ((dl k).take n.toNat).length = n.toNat := by rw [List.length_take, dl_len]; omega
      obtain ⟨e, he, hd, hke⟩ := undL_key hK (by rw [hpl]; omega) hc.2.2 hq
      have hm := (undL_mem hq).2.1
      rw [hpl] at hm
      refine ⟨⟨hc.1, hc.2.1⟩, ⟨e, he, hke.symm⟩, ?_⟩
      rw [hke, hd, hm]
    · simp at h
  · rintro ⟨hn, ⟨e, he, hek⟩, ht⟩
    have hpl : ((dl k).take n.toNat).length = n.toNat := by rw [List.length_take, dl_len]; omega
    have hcq : 0 < cK K (dl k') := (cK_full hk' hK).2 ⟨e, he, hek⟩
    have hcp : 0 < cK K ((dl k).take n.toNat) := cK_pre (q := dl k') (by rw [hpl]; exact ht) hcq
    rw [if_pos ⟨hn.1, hn.2, hcp⟩]
    refine List.mem_map.2 ⟨dl k', undL_all (by rw [hpl, dl_len]; omega) (by rw [hpl]; exact ht) (dl_dig k') hcq, keyD_dl hk'⟩
theorem undK_nodup (hK : ∀ e ∈ K, WfK e.1) : (undK' K k n).Nodup := by
  unfold undK'
  split
  · rename_i hc
    have hpl : ((dl k).take n.toNat).length = n.toNat := by rw [List.length_take, dl_len]; omega
    have key : ∀ {l : List (List Int)}, l.Nodup → (∀ q ∈ l, ∃ e ∈ K, dl e.1 = q ∧ keyD q = e.1) → (l.map keyD).Nodup := by
      intro l
      induction l with
      | nil => intro _ _; simp
      | cons q t ih =>
        intro hn hm
        rw [List.nodup_cons] at hn
        rw [List.map_cons, List.nodup_cons]
        refine ⟨fun hmem => ?_, ih hn.2 fun q' h' => hm q' (List.mem_cons_of_mem _ h')⟩
        obtain ⟨q', hq', e⟩ := List.mem_map.1 hmem
        obtain ⟨e1, _, h1, h2⟩ := hm q List.mem_cons_self
        obtain ⟨e2, _, h3, h4⟩ := hm q' (List.mem_cons_of_mem _ hq')
        have : q' = q := by rw [← h3, ← h1, ← h4, ← h2, e]
        exact hn.1 (by rw [← this]; exact hq')
    exact key undL_nodup fun q hq => undL_key hK (by rw [hpl]; omega) hc.2.2 hq
  · simp
end
def ltD (a b : List Int) : Prop := ∃ i, a.take i = b.take i ∧ ∃ x y, a[i]? = some x ∧ b[i]? = some y ∧ x < y
theorem undL_sorted {c : List Int → Nat} : ∀ {d : Nat} {p : List Int}, (undL c d p).Pairwise ltD
  | 0, p => by simp [undL]
  | d + 1, p => by
    have hm : ∀ {x : Nat} {q : List Int}, q ∈ undL c d (p ++ [(x : Int)]) → q.take p.length = p ∧ q[p.length]? = some (x : Int) := by
      intro x q hq
      have h1 := (undL_mem hq).2.1
      rw [List.length_append] at h1
      have h1' : q.take (p.length + 1) = p ++ [(x : Int)] := h1
      constructor
      · have h4 := congrArg (fun u => u.take p.length) h1'
        simpa [List.take_take] using h4
      · have h4 := congrArg (fun u => u[p.length]?) h1'
        simpa [List.getElem?_take] using h4
    have key : ∀ x, (undX c d p x).Pairwise ltD ∧ ∀ q ∈ undX c d p x, q.take p.length = p ∧ ∃ y : Nat, y < x ∧ q[p.length]? = some (y : Int) := by
      intro x
      induction x with
      | zero => exact ⟨by simp [undX], fun q h => by simp [undX] at h⟩
      | succ x ih =>
        rw [undX_succ]
        by_cases hc : 0 < c (p ++ [(x : Int)])
        · rw [if_pos hc]
          refine ⟨?_, fun q hq => ?_⟩
          · rw [List.pairwise_append]
            refine ⟨ih.1, undL_sorted, fun a ha b hb => ?_⟩
            obtain ⟨h2, y, hy, h3⟩ := ih.2 a ha
            obtain ⟨h4, h5⟩ := hm hb
            exact ⟨p.length, by rw [h2, h4], y, x, h3, h5, by omega⟩
          · rcases List.mem_append.1 hq with hq | hq
            · obtain ⟨h2, y, hy, h3⟩ := ih.2 q hq
              exact ⟨h2, y, by omega, h3⟩
            · exact ⟨(hm hq).1, x, by omega, (hm hq).2⟩
        · rw [if_neg hc, List.append_nil]
          exact ⟨ih.1, fun q hq => let ⟨h2, y, hy, h3⟩ := ih.2 q hq; ⟨h2, y, by omega, h3⟩⟩
    rw [← undX_all]
    exact (key 16).1
end Go.Proofs.YtkhdejjompbklaaGreat.Sx
namespace Go.Proofs.YtkhdejjompbklaaGreat.Sx
open Go
set_option linter.unusedVariables false
set_option linter.unusedSimpArgs false
def outAll (K : List (Ky × Int)) (ks : List Ky) : List (Ky × Int) := K.filter fun e => !(ks.contains e.1)
theorem outAll_has {K : List (Ky × Int)} {ks : List Ky} {k : Ky} (h : has K k) (hn : k ∉ ks) : has (outAll K ks) k := by
  obtain ⟨e, he, hk⟩ := h
  refine ⟨e, ?_, hk⟩
  unfold outAll
  rw [List.mem_filter]
  exact ⟨he, by rw [hk]; simpa using hn⟩
end Go.Proofs.YtkhdejjompbklaaGreat.Sx
namespace Go.Proofs.YtkhdejjompbklaaGreat.Sx
open Go
set_option linter.unusedVariables false
set_option linter.unusedSimpArgs false
structure KI (K : List (Ky × Int)) (n : Nat) : Prop where
  le : K.length ≤ n
  nd : (K.map Prod.fst).Nodup
  wf : ∀ e ∈ K, WfK e.1
theorem KI.nil : KI [] 0 := ⟨Nat.le_refl _, by simp, by simp⟩
theorem KI.snoc {K : List (Ky × Int)} {n : Nat} {k : Ky} {x : Int} (h : KI K n) (hk : WfK k) (hn : ¬ has K k) : KI (K ++ [(k, x)]) (n + 1) := by
  refine ⟨by rw [List.length_append]; have := h.le; simp; omega, ?_, ?_⟩
  · rw [List.map_append, List.nodup_append]
    refine ⟨h.nd, by simp, fun a ha b hb e => ?_⟩
    simp only [List.map_cons, List.map_nil, List.mem_singleton] at hb
    obtain ⟨e', he, h9⟩ := List.mem_map.1 ha
    exact hn ⟨e', he, by rw [h9, e, hb]⟩
  · intro e he
    rcases List.mem_append.1 he with h1 | h1
    · exact h.wf e h1
    · simp only [List.mem_singleton] at h1; subst h1; exact hk
theorem KI.mono {K : List (Ky × Int)} {n m : Nat} (h : KI K n) (hm : n ≤ m) : KI K m := ⟨Nat.le_trans h.le hm, h.nd, h.wf⟩
theorem KI.put {K : List (Ky × Int)} {n : Nat} {k : Ky} {x most : Int} (h : KI K n) (hk : WfK k) : KI (putK K k x most) (n + 1) := by
  unfold putK
  split
  · exact h.mono (by omega)
  · split
    · exact h.mono (by omega)
    · refine h.snoc hk fun hh => ?_
      rename_i h1 _
      exact h1 (findV_some.2 hh)
theorem putK_mem {K : List (Ky × Int)} {k : Ky} {x most : Int} (hl : (K.length : Int) < most) (k' : Ky) : has (putK K k x most) k' ↔ has K k' ∨ k' = k := by
  by_cases hh : has K k
  · rw [putK_has hh]
    constructor
    · exact .inl
    · rintro (h | rfl)
      · exact h
      · exact hh
  · rw [putK_new hh hl]
    constructor
    · rintro ⟨e, he, h9⟩
      rcases List.mem_append.1 he with h1 | h1
      · exact .inl ⟨e, h1, h9⟩
      · simp only [List.mem_singleton] at h1; subst h1; exact .inr h9.symm
    · rintro (⟨e, he, h9⟩ | rfl)
      · exact ⟨e, List.mem_append.2 (.inl he), h9⟩
      · exact ⟨(k', x), by simp, rfl⟩
abbrev neg (ps : List Ky) : List (Ky × Int) := ps.map fun k => (k, -1)
theorem neg_take {ps : List Ky} {j : Nat} (h : j < ps.length) : neg (ps.take (j + 1)) = neg (ps.take j) ++ [(ps[j], -1)] := by
  rw [List.take_succ_eq_append_getElem h, neg, List.map_append]; rfl
theorem KI.nots {K : List (Ky × Int)} {n j : Nat} {ps : List Ky} (h : KI (K ++ neg ps) n) (hj : j < ps.length) : ¬ has (K ++ neg (ps.take j)) ps[j] := by
  have h1 : (K ++ neg ps) = (K ++ neg (ps.take j)) ++ ((ps[j], -1) :: neg (ps.drop (j + 1))) := by
    rw [List.append_assoc]
    congr 1
    rw [show ((ps[j], (-1 : Int)) :: neg (ps.drop (j + 1))) = neg (ps.drop j) from by rw [List.drop_eq_getElem_cons hj]; rfl, ← List.map_append, List.take_append_drop]
  have h2 := h.nd
  rw [h1, List.map_append, List.nodup_append] at h2
  rintro ⟨e, he, h9⟩
  exact h2.2.2 e.1 (List.mem_map.2 ⟨e, he, rfl⟩) ps[j] (by simp) h9
theorem KI.out {K : List (Ky × Int)} {n j : Nat} {ps : List Ky} (h : KI (K ++ neg ps) n) (hj : j < ps.length) :
    findV (K ++ neg (ps.take (j + 1))) ps[j] = some (-1) ∧ outK (K ++ neg (ps.take (j + 1))) ps[j] = K ++ neg (ps.take j) := by
  have hn := h.nots hj
  rw [neg_take hj, ← List.append_assoc]
  exact ⟨findV_snoc hn, outK_snoc hn⟩
theorem und_has {K : List (Ky × Int)} {k : Ky} {n : Int} (hK : ∀ e ∈ K, WfK e.1) {y : Ky} (h : y ∈ undK' K k n) : has K y ∧ WfK y := by
  unfold undK' at h
  split at h
  · rename_i hc
    obtain ⟨q, hq, rfl⟩ := List.mem_map.1 h
    obtain ⟨e, he, h1, h2⟩ := undL_key hK (by rw [List.length_take, dl_len]; omega) hc.2.2 hq
    exact ⟨⟨e, he, h2.symm⟩, by rw [h2]; exact hK e he⟩
  · simp at h
theorem und_len {K : List (Ky × Int)} {k : Ky} {n : Int} (hK : ∀ e ∈ K, WfK e.1) : (undK' K k n).length ≤ K.length := by
  have h := nodup_le2 (l2 := K.map Prod.fst) (undK_nodup (k := k) (n := n) hK) fun y hy => by
    obtain ⟨e, he, h9⟩ := (und_has hK hy).1
    exact List.mem_map.2 ⟨e, he, h9⟩
  rwa [List.length_map] at h
theorem und_all {K : List (Ky × Int)} (hK : ∀ e ∈ K, WfK e.1) {e : Ky × Int} (he : e ∈ K) : e.1 ∈ undK' K (0, 0, 0, 0, 0) 0 :=
  (undK_mem hK (hK e he)).2 ⟨⟨by omega, by omega⟩, ⟨e, he, rfl⟩, rfl⟩
theorem nodup_not {α : Type} {xs : List α} (h : xs.Nodup) {i : Nat} (hi : i < xs.length) : xs[i] ∉ xs.take i := by
  intro hm
  obtain ⟨j, hj, h1⟩ := List.getElem_of_mem hm
  rw [List.length_take] at hj
  rw [List.getElem_take] at h1
  exact List.pairwise_iff_getElem.1 h j i (by omega) hi (by omega) h1
structure AllK (K : List (Ky × Int)) (ks : List Ky) : Prop where
  nd : ks.Nodup
  has : ∀ y ∈ ks, Sx.has K y ∧ WfK y
  all : ∀ e ∈ K, e.1 ∈ ks
  le : ks.length ≤ K.length
theorem AllK.of {K : List (Ky × Int)} (hK : ∀ e ∈ K, WfK e.1) : AllK K (undK' K (0, 0, 0, 0, 0) 0) := ⟨undK_nodup hK, fun y h => und_has hK h, fun e h => und_all hK h, und_len hK⟩
theorem AllK.left {K : List (Ky × Int)} {ks : List Ky} (h : AllK K ks) {i : Nat} (hi : i < ks.length) : Sx.has (outAll K (ks.take i)) ks[i] := outAll_has (h.has _ (List.getElem_mem _)).1 (nodup_not h.nd hi)
end Go.Proofs.YtkhdejjompbklaaGreat.Sx
namespace Go.Proofs.YtkhdejjompbklaaGreat.Sx
open Go
set_option linter.unusedVariables false
end Go.Proofs.YtkhdejjompbklaaGreat.Sx
namespace Go.Proofs.YtkhdejjompbklaaGreat.Sx
open Go
set_option linter.unusedVariables false
variable {P : Program} {n d : Nat} {a : Act} {S : Slots} {l l' : List HP} {w : World} {t : TypeId} {pos : String} {af : Array Edge} {g : Option (Nat × Bool)} {K : Act → World → Prop} {Q : Exit → Act → World → Prop}
end Go.Proofs.YtkhdejjompbklaaGreat.Sx
