/-
  Lists in rings of nodes: what stands in memory. Nothing of a program stands here.
-/
import Derived.Test.YtojeibjlkbffcaaLk2
import Derived.Test.YtojeibjlkbffcaaMore3
namespace Go.Proofs.Ytojeibjlkbffcaa.Sx
open Go
set_option linter.unusedVariables false
structure Lf where
  P : Nat → Nat → Nat
  R : Nat → Int
  rg : Nat → Nat
  nm : Nat → Nat
  sz : Nat → Nat
abbrev LX := (Option Addr × Nat) × (Option Addr × Nat) × (Option Addr × Nat) × (Option Addr × Nat)
def tabN (n : Nat) (f : Nat → Nat) : List Int := tab n fun i => ((f i : Nat) : Int)
theorem tabN_len {n : Nat} {f : Nat → Nat} : (tabN n f).length = n := tab_len
theorem tabN_get {n i : Nat} {f : Nat → Nat} (h : i < (tabN n f).length) : (tabN n f)[i] = ((f i : Nat) : Int) := tab_get h
theorem tabN_set {n i v : Nat} {f : Nat → Nat} : (tabN n f).set i ((v : Nat) : Int) = tabN n (upd f i v) := by
  unfold tabN
  rw [tab_set]
  refine tab_congr fun j _ => ?_
  unfold upd
  split <;> rfl
abbrev linkL (TL TN TI b S n : Nat) (P : Nat → Nat → Nat) (R : Nat → Int) (rg nm sz : Nat → Nat) (a : LX) : List HP :=
  [blk b [.slice a.1.1 (S + n) a.1.2, .int .i64 (S : Int), .slice a.2.1.1 n a.2.1.2, .slice a.2.2.1.1 n a.2.2.1.2, .slice a.2.2.2.1 n a.2.2.2.2] TL,
   sls a.1.1 (S + n) a.1.2 TN 3 ((nods (S + n) P R).flatMap eL), sls a.2.1.1 n a.2.1.2 TI 1 ((tabN n rg).flatMap e1), sls a.2.2.1.1 n a.2.2.1.2 TI 1 ((tabN n nm).flatMap e1), sls a.2.2.2.1 n a.2.2.2.2 TI 1 ((tabN n sz).flatMap e1)]
def linksA (TL TN TI b S n : Nat) (L : Nat → List Nat) : HP := box (fun x : Lf × LX => LW S n L x.1.P x.1.R x.1.rg x.1.nm x.1.sz) (fun x => linkL TL TN TI b S n x.1.P x.1.R x.1.rg x.1.nm x.1.sz x.2)
theorem Sep.linksAE {TL TN TI b S n : Nat} {L : Nat → List Nat} {l : List HP} {w : World} (h : Sep (linksA TL TN TI b S n L :: l) w) :
    ∃ P R rg nm sz r1 c1 r2 c2 r3 c3 r4 c4, LW S n L P R rg nm sz ∧
      Sep (blk b [.slice r1 (S + n) c1, .int .i64 (S : Int), .slice r2 n c2, .slice r3 n c3, .slice r4 n c4] TL :: sls r1 (S + n) c1 TN 3 ((nods (S + n) P R).flatMap eL) :: sls r2 n c2 TI 1 ((tabN n rg).flatMap e1) :: sls r3 n c3 TI 1 ((tabN n nm).flatMap e1) :: sls r4 n c4 TI 1 ((tabN n sz).flatMap e1) :: l) w :=
  let ⟨x, h1, h2⟩ := h.boxE
  ⟨x.1.P, x.1.R, x.1.rg, x.1.nm, x.1.sz, x.2.1.1, x.2.1.2, x.2.2.1.1, x.2.2.1.2, x.2.2.2.1.1, x.2.2.2.1.2, x.2.2.2.2.1, x.2.2.2.2.2, h1, h2⟩
theorem Sep.linksBk {TL TN TI b S n : Nat} {P : Nat → Nat → Nat} {R : Nat → Int} {rg nm sz : Nat → Nat} {r1 r2 r3 r4 : Option Addr} {c1 c2 c3 c4 : Nat} {l : List HP} {w : World} {cs : List Value} (hn : 1 ≤ n)
    (h : Sep (blk b cs TL :: sls r1 (S + n) c1 TN 3 ((nods (S + n) P R).flatMap eL) :: sls r2 n c2 TI 1 ((tabN n rg).flatMap e1) :: sls r3 n c3 TI 1 ((tabN n nm).flatMap e1) :: sls r4 n c4 TI 1 ((tabN n sz).flatMap e1) :: l) w) : Bk r1 ∧ Bk r2 ∧ Bk r3 ∧ Bk r4 :=
  ⟨(h.pk (.there .here)).bk (by omega), (h.pk (.there (.there .here))).bk (by omega), (h.pk (.there (.there (.there .here)))).bk (by omega), (h.pk (.there (.there (.there (.there .here))))).bk (by omega)⟩
theorem Sep.linksAI {TL TN TI b S n : Nat} {L L' : Nat → List Nat} {P : Nat → Nat → Nat} {R : Nat → Int} {rg nm sz : Nat → Nat} {r1 r2 r3 r4 : Option Addr} {c1 c2 c3 c4 : Nat} {l : List HP} {w : World}
    (hW : LW S n L P R rg nm sz) (he : L = L')
    (h : Sep (blk b [.slice r1 (S + n) c1, .int .i64 (S : Int), .slice r2 n c2, .slice r3 n c3, .slice r4 n c4] TL :: sls r1 (S + n) c1 TN 3 ((nods (S + n) P R).flatMap eL) :: sls r2 n c2 TI 1 ((tabN n rg).flatMap e1) :: sls r3 n c3 TI 1 ((tabN n nm).flatMap e1) :: sls r4 n c4 TI 1 ((tabN n sz).flatMap e1) :: l) w) :
    Sep (linksA TL TN TI b S n L' :: l) w := by
  subst he
  exact Sep.boxI (⟨P, R, rg, nm, sz⟩, (r1, c1), (r2, c2), (r3, c3), (r4, c4)) hW h
theorem exPack (L l : List HP) : Ex (L ++ l) (stars L :: l) := fun σ h s => ⟨h, fun _ _ e => e, (stars_app _ _ _ _).1 s⟩
theorem exUnpack (L l : List HP) : Ex (stars L :: l) (L ++ l) := fun σ h s => ⟨h, fun _ _ e => e, (stars_app _ _ _ _).2 s⟩
theorem lens {X : Type} {C : X → Prop} {R A B : HP} {H : X → List HP} {Y : List HP} {w : World} (h : Sep (box C (fun x => R :: A :: B :: H x) :: Y) w) :
    ∃ Z, Sep (A :: B :: Z :: Y) w ∧ ∀ w', Sep (A :: B :: Z :: Y) w' → Sep (box C (fun x => R :: A :: B :: H x) :: Y) w' := by
  obtain ⟨x, hC, hR⟩ := h.boxE
  refine ⟨stars (R :: H x), hR.sub (Ex.take (.there .here) (Ex.take (.there .here) (exPack (R :: H x) Y))), fun w' h => Sep.boxI x hC ?_⟩
  have h2 : Sep (A :: B :: R :: (H x ++ Y)) w' := h.sub (Ex.keep (Ex.keep (exUnpack (R :: H x) Y)))
  exact h2.sub (Ex.take (.there (.there .here)) Ex.refl)
def cst (l : List Nat) : List Int := l.map fun x : Nat => (x : Int)
theorem cst_len {l : List Nat} : (cst l).length = l.length := List.length_map _
theorem cst_snoc {l : List Nat} {x : Nat} : cst l ++ [(x : Int)] = cst (l ++ [x]) := by simp [cst]
theorem updP_comm {P : Nat → Nat → Nat} {d d' x x' v v' : Nat} (h : d ≠ d') : updP (updP P d x v) d' x' v' = updP (updP P d' x' v') d x v := by
  funext e y
  unfold updP
  by_cases h1 : e = d' ∧ y = x' <;> by_cases h2 : e = d ∧ y = x
  · exact absurd (h2.1.symm.trans h1.1) h
  · rw [if_pos h1, if_neg h2, if_pos h1]
  · rw [if_neg h1, if_pos h2, if_pos h2]
  · rw [if_neg h1, if_neg h2, if_neg h2, if_neg h1]
section
variable {P : Program} {Q : Exit → Act → World → Prop} {n : Nat} {a : Act} {S : Slots} {l l' : List HP} {w : World} {t : TypeId} {pos : String} {af : Array Edge} {g : Option (Nat × Bool)} {K : Act → World → Prop} {r : Option Addr} {m cap : Nat} {T : TypeId}
theorem BstoreN {ty : TypeId} {x y : Operand} {N k d v : Nat} {z : TypeInfo} {G : Nat → Nat → Nat} {R : Nat → Int} (hS : Has n a S) (hR : Sep l w) (hx : ev S x = some (.pointer (some ⟨blkOf r, k * 3 + d, none⟩))) (hy : ev S y = some (.int .i64 ((v : Nat) : Int)))
    (hi : P.info? ty = some z) (hz : z.size = 1) (p : Pk (Sx.sls r m cap T 3 ((nods N G R).flatMap eL)) l l') (hk : k < N) (hd : d < 2)
    (kk : ∀ w', Sep (Sx.sls r m cap T 3 ((nods N (updP G d k v) R).flatMap eL) :: l') w' → K a w') : Oper.wp P ⟨none, .store ty x y, t, pos, af, g⟩ a w K Q := by
  refine BstoreR (enc := eL) (vs := [.int .i64 ((v : Nat) : Int)]) (upd (fun d => ((G d k : Nat) : Int)) d ((v : Nat) : Int), R k) hS hR hx hy rfl hi (by rw [hz]; rfl) p rfl (fun _ => rfl) (by rw [nods_len]; exact hk) (by simp only [List.length_singleton]; omega) (Nat.le_of_ble_eq_true rfl) (by rw [nods_get]; exact lay_way hd _) fun w' h => kk w' ?_
  rw [nods_upd] at h
  exact h
theorem BstoreNR {ty : TypeId} {x y : Operand} {N k : Nat} {v : Int} {z : TypeInfo} {G : Nat → Nat → Nat} {R : Nat → Int} (hS : Has n a S) (hR : Sep l w) (hx : ev S x = some (.pointer (some ⟨blkOf r, k * 3 + 2, none⟩))) (hy : ev S y = some (.int .i64 v))
    (hi : P.info? ty = some z) (hz : z.size = 1) (p : Pk (Sx.sls r m cap T 3 ((nods N G R).flatMap eL)) l l') (hk : k < N)
    (kk : ∀ w', Sep (Sx.sls r m cap T 3 ((nods N G (upd R k v)).flatMap eL) :: l') w' → K a w') : Oper.wp P ⟨none, .store ty x y, t, pos, af, g⟩ a w K Q := by
  refine BstoreR (enc := eL) (vs := [.int .i64 v]) (fun d => ((G d k : Nat) : Int), v) hS hR hx hy rfl hi (by rw [hz]; rfl) p rfl (fun _ => rfl) (by rw [nods_len]; exact hk) (Nat.le_of_ble_eq_true rfl) (Nat.le_of_ble_eq_true rfl) (by rw [nods_get]; rfl) fun w' h => kk w' ?_
  rw [nods_ring] at h
  exact h
theorem BstoreT {ty : TypeId} {x y : Operand} {N k v : Nat} {z : TypeInfo} {f : Nat → Nat} (hS : Has n a S) (hR : Sep l w) (hx : ev S x = some (.pointer (some ⟨blkOf r, k * 1, none⟩))) (hy : ev S y = some (.int .i64 ((v : Nat) : Int)))
    (hi : P.info? ty = some z) (hz : z.size = 1) (p : Pk (Sx.sls r m cap T 1 ((tabN N f).flatMap e1)) l l') (hk : k < N)
    (kk : ∀ w', Sep (Sx.sls r m cap T 1 ((tabN N (upd f k v)).flatMap e1) :: l') w' → K a w') : Oper.wp P ⟨none, .store ty x y, t, pos, af, g⟩ a w K Q := by
  refine BstoreR0 (enc := e1) (vs := [.int .i64 ((v : Nat) : Int)]) ((v : Nat) : Int) hS hR hx hy rfl hi (by rw [hz]; rfl) p rfl (fun _ => rfl) (by rw [tabN_len]; exact hk) (Nat.le_of_ble_eq_true rfl) (Nat.le_of_ble_eq_true rfl) rfl fun w' h => kk w' ?_
  rw [tabN_set] at h
  exact h
end
end Go.Proofs.Ytojeibjlkbffcaa.Sx
