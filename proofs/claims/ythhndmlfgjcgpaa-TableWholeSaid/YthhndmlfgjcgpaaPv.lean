/-
  My plain texts put together into one module.
-/
import Derived.Test.YthhndmlfgjcgpaaPu
/-
  A table is whole: its lists, its sources and how many flows each has. Nothing of a program stands here.
-/
namespace Go.Proofs.Ythhndmlfgjcgpaa.Sx
open Go
set_option linter.unusedVariables false
set_option linter.unusedSimpArgs false
/-- What whole is asked of: flows and keys belong together. -/
structure WhI (S : Nat) (T : Tb) (ks : List Ky) : Prop where
  tf : TF S 3 T
  perm : (T.F.map Fl.k).Perm ks
section
variable {S : Nat} {T : Tb} {ks : List Ky}
theorem FilI.wh (h : FilI S 3 T ks) : WhI S T ks := ⟨h.tf, by rw [h.keys]⟩
theorem WhI.len (h : WhI S T ks) : T.F.length = ks.length := by rw [← h.perm.length_eq, List.length_map]
theorem WhI.flow (h : WhI S T ks) {k : Ky} (hk : k ∈ ks) : ∃ f ∈ T.F, f.k = k := by
  obtain ⟨f, hf, e⟩ := List.mem_map.1 (h.perm.mem_iff.2 hk)
  exact ⟨f, hf, e⟩
theorem TF.allLen (h : TF S 3 T) : (allF T.F).length = T.F.length := by unfold allF; rw [List.length_map, h.srtLen]
/-- How many flows the first lists have. -/
def sumL (F : List Fl) : Nat → Nat
  | 0 => 0
  | n + 1 => sumL F n + (inF F (n : Int)).length
theorem sumL_lt (F : List Fl) : ∀ n, sumL F n = (F.filter fun f => decide (f.i < n)).length
  | 0 => by
    rw [List.filter_eq_nil_iff.2 (fun f _ => by simp)]; rfl
  | n + 1 => by
    rw [sumL, sumL_lt F n, inF_nat]
    induction F with
    | nil => rfl
    | cons f F ih =>
      rw [List.filter_cons, List.filter_cons, List.filter_cons]
      by_cases h1 : f.i < n
      · rw [if_pos (decide_eq_true h1), if_neg (by simp; omega), if_pos (decide_eq_true (by omega))]
        simp only [List.length_cons]; omega
      · by_cases h2 : f.i = n
        · rw [if_neg (by simpa using h1), if_pos (decide_eq_true h2), if_pos (decide_eq_true (by omega))]
          simp only [List.length_cons]; omega
        · rw [if_neg (by simpa using h1), if_neg (by simpa using h2), if_neg (by simp; omega)]
          exact ih
theorem TF.sumAll (h : TF S 3 T) : sumL T.F 3 = T.F.length := by
  rw [sumL_lt, List.filter_eq_self.2 fun f hf => decide_eq_true (h.lt f hf)]
theorem sumL_le (F : List Fl) (n : Nat) : sumL F n ≤ F.length := by rw [sumL_lt]; exact List.length_filter_le _ _
theorem inF_i {F : List Fl} {n : Nat} {f : Fl} (h : f ∈ inF F (n : Int)) : f.i = n := by
  have := of_decide_eq_true (List.mem_filter.1 h).2
  omega
end
theorem turn_eq2 (k : Ky) : (decide (k ≠ trn k) == !decide ((trn k).1 = k.1 ∧ (trn k).2.1 = k.2.1 ∧ (trn k).2.2.1 = k.2.2.1 ∧ (trn k).2.2.2.1 = k.2.2.2.1 ∧ (trn k).2.2.2.2 = k.2.2.2.2)) = true := by
  obtain ⟨a, b, c, d, e⟩ := k
  by_cases h : b = c
  · by_cases h2 : d = e
    · subst h h2; simp [trn]
    · have h3 : ¬ e = d := fun x => h2 x.symm
      simp [trn, h, h2, h3]
  · have h3 : ¬ c = b := fun x => h x.symm
    simp [trn, h, h3]
/-! ### sources -/
theorem src_digs {a b : Ky} (ha : WfK a) (hb : WfK b) : (dl a).take 8 = (dl b).take 8 ↔ a.2.1 = b.2.1 := by
  rw [take_alike (by omega)]
  constructor
  · intro h
    have wa : WfK (0, a.2.1, 0, 0, 0) := ⟨by dsimp only; omega, ha.s, by dsimp only; omega, by dsimp only; omega, by dsimp only; omega⟩
    have wb : WfK (0, b.2.1, 0, 0, 0) := ⟨by dsimp only; omega, hb.s, by dsimp only; omega, by dsimp only; omega, by dsimp only; omega⟩
    have h1 := dl_inj wa wb (dl_ext fun j hj => by
      by_cases h8 : j < 8
      · have h2 := h j h8
        rw [dig_s ha h8, dig_s hb h8] at h2
        rw [dig_s wa h8, dig_s wb h8]; exact h2
      · by_cases h16 : j < 16
        · rw [dig_d wa (by omega) h16, dig_d wb (by omega) h16]
        · by_cases h18 : j < 18
          · rw [dig_p wa (by omega) h18, dig_p wb (by omega) h18]
          · by_cases h22 : j < 22
            · rw [dig_a wa (by omega) h22, dig_a wb (by omega) h22]
            · rw [dig_b wa (by omega) hj, dig_b wb (by omega) hj])
    have h2 := congrArg (fun k : Ky => k.2.1) h1
    exact h2
  · intro e j hj
    rw [dig_s ha hj, dig_s hb hj, e]
/-- How many keys have a source. -/
def cntS (ks : List Ky) (s : Int) : Nat := ks.countP fun k => decide (k.2.1 = s)
theorem frm_len {S : Nat} {T : Tb} {ks : List Ky} (h : WhI S T ks) {s : Int} (hs : 0 ≤ s ∧ s ≤ 4294967295) : (frmF T.F s).length = cntS ks s := by
  have hw : WfK (0, s, 0, 0, 0) := ⟨by dsimp only; omega, hs, by dsimp only; omega, by dsimp only; omega, by dsimp only; omega⟩
  unfold frmF cntS
  rw [List.length_map, und_count h.tf.own.wf h.tf.own.nd ⟨by omega, by omega⟩, ← h.perm.countP_eq, List.countP_map]
  show cK (ownK T.F) ((dl (0, s, 0, 0, 0)).take 8) = _
  unfold cK ownK
  rw [List.countP_map]
  refine List.countP_congr fun f hf => ?_
  have h8 : ((dl ((0, s, 0, 0, 0) : Ky)).take 8).length = 8 := by rw [List.length_take, dl_len]; omega
  simp only [Function.comp, decide_eq_true_eq]
  rw [isPrefix_iff, h8, ← src_digs (h.tf.wf f hf) hw]
  exact ⟨fun e => e.symm, fun e => e.symm⟩
theorem frm_mem {S : Nat} {T : Tb} {ks : List Ky} (h : WhI S T ks) {s : Int} (hs : 0 ≤ s ∧ s ≤ 4294967295) {p : Int × Int} (hp : p ∈ frmF T.F s) : ∃ f ∈ T.F, hd2 f = p ∧ f.k.2.1 = s := by
  have hw : WfK (0, s, 0, 0, 0) := ⟨by dsimp only; omega, hs, by dsimp only; omega, by dsimp only; omega, by dsimp only; omega⟩
  obtain ⟨y, hy, e⟩ := List.mem_map.1 hp
  obtain ⟨f, hf, rfl⟩ := h.tf.undIn hy
  rw [h.tf.hOfK hf] at e
  have h1 := (undK_mem2 h.tf.own.wf).1 hy
  exact ⟨f, hf, e, (src_digs (h.tf.wf f hf) hw).1 h1.2.2⟩
/-- The map of the sources with how many keys each has. -/
def cntM : List Ky → MI
  | [] => []
  | k :: ks => setU k.2.1 (valU (cntM ks) k.2.1 + 1) (cntM ks)
theorem valU_here {e : Int × Int} {M : MI} {k : Int} (h : e.1 = k) : valU (e :: M) k = e.2 := by unfold valU fndU; rw [if_pos h]; rfl
theorem valU_next {e : Int × Int} {M : MI} {k : Int} (h : ¬ e.1 = k) : valU (e :: M) k = valU M k := by
  unfold valU; rw [fndU, if_neg h, fndU_shift]
  cases fndU k M 0 <;> rfl
theorem valU_set {k v x : Int} : ∀ {M : MI}, valU (setU k v M) x = if x = k then v else valU M x
  | [] => by
    unfold setU
    by_cases h : x = k
    · rw [if_pos h, valU_here h.symm]
    · rw [if_neg h, valU_next (fun e => h e.symm)]
  | e :: M => by
    have ih := valU_set (k := k) (v := v) (x := x) (M := M)
    unfold setU
    by_cases h : e.1 = k
    · rw [if_pos h]
      by_cases h2 : x = k
      · rw [if_pos h2, valU_here h2.symm]
      · rw [if_neg h2, valU_next (fun e => h2 e.symm), valU_next (fun e3 => h2 (by rw [← e3, h]))]
    · rw [if_neg h]
      by_cases h2 : e.1 = x
      · rw [valU_here h2, valU_here h2, if_neg (fun e3 => h (by rw [h2, e3]))]
      · rw [valU_next h2, valU_next h2]; exact ih
theorem cntM_val : ∀ (ks : List Ky) (s : Int), valU (cntM ks) s = (cntS ks s : Int)
  | [], s => rfl
  | k :: ks, s => by
    rw [cntM, valU_set, cntM_val ks]
    unfold cntS
    rw [List.countP_cons]
    by_cases h : s = k.2.1
    · subst h; simp
    · rw [if_neg h, if_neg (by simpa using fun e => h e.symm), cntM_val ks]; simp [cntS]
theorem valU_mem : ∀ {M : MI} {k v : Int}, (M.map Prod.fst).Nodup → (k, v) ∈ M → valU M k = v
  | [], _, _, _, h => by simp at h
  | e :: M, k, v, hn, h => by
    rw [List.map_cons, List.nodup_cons] at hn
    rcases List.mem_cons.1 h with h | h
    · subst h; exact valU_here rfl
    · rw [valU_next fun e2 => hn.1 (e2 ▸ List.mem_map.2 ⟨(k, v), h, rfl⟩)]
      exact valU_mem hn.2 h
theorem cntM_nd : ∀ ks : List Ky, ((cntM ks).map Prod.fst).Nodup
  | [] => by simp [cntM]
  | k :: ks => setU_nd (cntM_nd ks)
theorem cntM_key : ∀ {ks : List Ky} {s : Int}, s ∈ (cntM ks).map Prod.fst → ∃ k ∈ ks, k.2.1 = s
  | [], s, h => by simp [cntM] at h
  | k :: ks, s, h => by
    rcases setU_keys.1 h with h | h
    · exact ⟨k, List.mem_cons_self, h.symm⟩
    · obtain ⟨k', h1, h2⟩ := cntM_key h
      exact ⟨k', List.mem_cons_of_mem _ h1, h2⟩
def sumV : MI → Int
  | [] => 0
  | e :: M => e.2 + sumV M
def sumD (M : MI) (D : List Int) : Int := match M with
  | [] => 0
  | e :: M => (if e.1 ∈ D then e.2 else 0) + sumD M D
theorem sumV_set {k v : Int} : ∀ {M : MI}, (M.map Prod.fst).Nodup → sumV (setU k v M) = sumV M + v - valU M k
  | [], _ => by simp [setU, sumV, valU, fndU]
  | e :: M, hn => by
    rw [List.map_cons, List.nodup_cons] at hn
    unfold setU
    by_cases h : e.1 = k
    · rw [if_pos h]
      rw [valU_here h, sumV, sumV]; dsimp only; omega
    · rw [if_neg h]
      rw [valU_next h, sumV, sumV, sumV_set hn.2]; omega
theorem cntM_sum : ∀ ks : List Ky, sumV (cntM ks) = (ks.length : Int)
  | [] => rfl
  | k :: ks => by
    rw [cntM, sumV_set (cntM_nd ks), cntM_sum ks, List.length_cons]; omega
theorem sumD_nil : ∀ M : MI, sumD M [] = 0
  | [] => rfl
  | e :: M => by rw [sumD, sumD_nil M]; simp
theorem sumD_not {k : Int} {D : List Int} : ∀ {M : MI}, k ∉ M.map Prod.fst → sumD M (D ++ [k]) = sumD M D
  | [], _ => rfl
  | e :: M, h => by
    simp only [List.map_cons, List.mem_cons, not_or] at h
    rw [sumD, sumD, sumD_not h.2]
    have : (e.1 ∈ D ++ [k]) ↔ e.1 ∈ D := by
      rw [List.mem_append, List.mem_singleton]; exact ⟨fun x => x.resolve_right (fun e2 => h.1 e2.symm), .inl⟩
    simp only [this]
theorem sumD_add {k v : Int} {D : List Int} : ∀ {M : MI}, (M.map Prod.fst).Nodup → (k, v) ∈ M → k ∉ D → sumD M (D ++ [k]) = sumD M D + v
  | [], _, h, _ => by simp at h
  | e :: M, hn, h, hk => by
    rw [List.map_cons, List.nodup_cons] at hn
    rw [sumD, sumD]
    rcases List.mem_cons.1 h with h | h
    · subst h
      rw [if_pos (by simp), if_neg hk, sumD_not hn.1]; omega
    · have hne : e.1 ≠ k := fun e2 => hn.1 (e2 ▸ List.mem_map.2 ⟨(k, v), h, rfl⟩)
      have : (e.1 ∈ D ++ [k]) ↔ e.1 ∈ D := by
        rw [List.mem_append, List.mem_singleton]; exact ⟨fun x => x.resolve_right hne, .inl⟩
      rw [sumD_add hn.2 h hk]
      simp only [this]; omega
theorem sumD_all : ∀ {M : MI} {D : List Int}, (∀ e ∈ M, e.1 ∈ D) → sumD M D = sumV M
  | [], _, _ => rfl
  | e :: M, D, h => by rw [sumD, sumV, if_pos (h e List.mem_cons_self), sumD_all fun x hx => h x (List.mem_cons_of_mem _ hx)]
theorem cntS_rev (ks : List Ky) (s : Int) : cntS ks.reverse s = cntS ks s := (List.reverse_perm ks).countP_eq _
theorem cntS_le (ks : List Ky) (s : Int) : cntS ks s ≤ ks.length := List.countP_le_length
theorem cntM_pos {ks : List Ky} : ∀ e ∈ cntM ks, 0 ≤ e.2 := fun e he => by
  have h := valU_mem (k := e.1) (v := e.2) (cntM_nd ks) he
  rw [cntM_val] at h
  omega
theorem sumD_le : ∀ {M : MI} {D : List Int}, (M.map Prod.fst).Nodup → D.Nodup → (∀ e ∈ M, 0 ≤ e.2) → 0 ≤ sumD M D ∧ sumD M D ≤ sumV M
  | [], _, _, _, _ => by simp [sumD, sumV]
  | e :: M, D, hn, hd, h => by
    rw [List.map_cons, List.nodup_cons] at hn
    have ih := sumD_le (M := M) (D := D) hn.2 hd fun x hx => h x (List.mem_cons_of_mem _ hx)
    have h0 := h e List.mem_cons_self
    rw [sumD, sumV]
    split <;> omega
theorem done_lt {M : MI} {D : List Int} {k v : Int} (hm : (k, v) ∈ M) (hk : k ∉ D) (hD : D.Nodup ∧ ∀ x ∈ D, ∃ y, (x, y) ∈ M) : D.length < M.length := by
  have h1 := nodup_le2 (l1 := D ++ [k]) (l2 := M.map Prod.fst) (by
    rw [List.nodup_append]
    exact ⟨hD.1, by simp, fun x hx y hy e => by simp only [List.mem_singleton] at hy; subst hy; exact hk (e ▸ hx)⟩) fun x hx => by
    rcases List.mem_append.1 hx with h | h
    · obtain ⟨y, hy⟩ := hD.2 x h; exact List.mem_map.2 ⟨_, hy, rfl⟩
    · simp only [List.mem_singleton] at h; subst h; exact List.mem_map.2 ⟨_, hm, rfl⟩
  rw [List.length_append, List.length_map, List.length_singleton] at h1
  omega
end Go.Proofs.Ythhndmlfgjcgpaa.Sx
