/-
  Further rules: records in slices that own their arrays, read, written and appended as lists of records. No condition.
-/
import Derived.Test.YtmcfmhiadlkglaaMore2
namespace Go.Proofs.Ytmcfmhiadlkglaa.Sx
open Go
set_option linter.unusedVariables false
section
variable {P : Program} {Q : Exit → Act → World → Prop} {n : Nat} {a : Act} {S : Slots} {l l' : List HP} {w : World} {d : Nat} {dd : Option Nat} {t : TypeId} {pos : String} {af : Array Edge} {g : Option (Nat × Bool)} {K : Act → World → Prop}
variable {r : Option Addr} {m cap : Nat} {T : TypeId} {sz : Nat} {cs : List Value} {α : Type} {enc : α → List Value} {xs : List α}
/-- An element's place, of an owned slice. -/
theorem Yld.indexL {ty e : TypeId} {x y : Operand} {ik : IntKind} {i : Int} {z : TypeInfo} (k : Nat) (hS : Has n a S) (hx : ev S x = some (.slice r m cap)) (hy : ev S y = some (.int ik i))
    (hu : P.underlying ty = some (.slice e)) (hi : P.info? e = some z) (p : Pk (Sx.sls r m cap T sz cs) l l') (hz : z.size = sz) (hk : i = (k : Int)) (h1 : k < m) :
    Yld P a l ⟨dd, .indexAddr ty x y, t, pos, af, g⟩ (.pointer (some ⟨blkOf r, k * sz, none⟩)) := by
  subst hk hz
  exact Yld.indexSls hS hx hy hu hi p (by omega) (by omega)
/-- An element's place, of an array that begins a block. -/
theorem Yld.indexB {ty e : TypeId} {x y : Operand} {ik : IntKind} {i : Int} {z : TypeInfo} {b : Nat} (k : Nat) (hS : Has n a S) (hx : ev S x = some (.slice (some ⟨b, 0, none⟩) m cap)) (hy : ev S y = some (.int ik i))
    (hu : P.underlying ty = some (.slice e)) (hi : P.info? e = some z) (hz : z.size = sz) (hk : i = (k : Int)) (h1 : k < m) :
    Yld P a l ⟨dd, .indexAddr ty x y, t, pos, af, g⟩ (.pointer (some ⟨b, k * sz, none⟩)) := by
  subst hk hz
  have h := Yld.indexSlice (P := P) (l := l) (d := dd) (t := t) (pos := pos) (af := af) (g := g) hS hx hy hu hi (by omega) (by omega)
  simp only [Int.toNat_natCast, Nat.zero_add] at h
  exact h
theorem Rds.rec {k : Nat} (p : Pk (Sx.sls r m cap T sz (xs.flatMap enc)) l l') (hm : ∀ x, (enc x).length = sz) (hk : k < xs.length) : Rds l (blkOf r) (k * sz) (enc xs[k]) := Rds.sls p hm hk
theorem Rd.rec {k j : Nat} {v : Value} (p : Pk (Sx.sls r m cap T sz (xs.flatMap enc)) l l') (hm : ∀ x, (enc x).length = sz) (hk : k < xs.length) (hj : (enc xs[k])[j]? = some v) : Rd l (blkOf r) (k * sz + j) v := by
  intro w hw
  exact Rds.sls p hm hk w hw j v hj
theorem Rd.rec0 {k : Nat} {v : Value} (p : Pk (Sx.sls r m cap T sz (xs.flatMap enc)) l l') (hm : ∀ x, (enc x).length = sz) (hk : k < xs.length) (hj : (enc xs[k])[0]? = some v) : Rd l (blkOf r) (k * sz) v := Rd.rec p hm hk hj
/-- A part of a record. -/
theorem Rds.recPart {k j : Nat} {us : List Value} (p : Pk (Sx.sls r m cap T sz (xs.flatMap enc)) l l') (hm : ∀ x, (enc x).length = sz) (hk : k < xs.length) (e : ((enc xs[k]).drop j).take us.length = us) : Rds l (blkOf r) (k * sz + j) us := by
  intro w hw i v hi
  have hil : i < us.length := (List.getElem?_eq_some_iff.1 hi).1
  have := Rds.sls p hm hk w hw (j + i) v (by
    rw [← e] at hi
    rw [List.getElem?_take_of_lt hil, List.getElem?_drop] at hi
    exact hi)
  rw [Nat.add_assoc]; exact this
theorem Rds.flat1 {b k : Nat} (p : Pk (Sx.blk b (xs.flatMap enc) T) l l') (hm : ∀ x, (enc x).length = sz) (hk : k < xs.length) : Rds l b (k * sz) (enc xs[k]) :=
  Rds.flat (rest := []) (T := T) (by rw [List.append_nil]; exact p) hm hk
theorem Rd.flatJ {b k j : Nat} {v : Value} (p : Pk (Sx.blk b (xs.flatMap enc) T) l l') (hm : ∀ x, (enc x).length = sz) (hk : k < xs.length) (hj : (enc xs[k])[j]? = some v) : Rd l b (k * sz + j) v :=
  fun w hw => Rds.flat1 p hm hk w hw j v hj
theorem Rd.flat0 {b k : Nat} {v : Value} (p : Pk (Sx.blk b (xs.flatMap enc) T) l l') (hm : ∀ x, (enc x).length = sz) (hk : k < xs.length) (hj : (enc xs[k])[0]? = some v) : Rd l b (k * sz) v   := Rd.flatJ p hm hk hj
theorem laid_left : ∀ (vs xs ys : List Value) (i : Nat), i + vs.length ≤ xs.length → lay (xs ++ ys) i vs = lay xs i vs ++ ys
  | [], _, _, _, _ => rfl
  | v :: vs, xs, ys, i, h => by
    simp only [List.length_cons] at h
    simp only [lay]
    rw [List.set_append_left _ _ (by omega), laid_left vs _ ys (i + 1) (by simp; omega)]
theorem laid_len : ∀ (vs xs : List Value) (i : Nat), (lay xs i vs).length = xs.length
  | [], _, _ => rfl
  | v :: vs, xs, i => by simp only [lay]; rw [laid_len vs _ (i + 1), List.length_set]
theorem laid_right : ∀ (vs xs ys : List Value) (i : Nat), lay (xs ++ ys) (xs.length + i) vs = xs ++ lay ys i vs
  | [], _, _, _ => rfl
  | v :: vs, xs, ys, i => by
    simp only [lay]
    rw [List.set_append_right _ _ (by omega), show xs.length + i - xs.length = i from by omega, show xs.length + i + 1 = xs.length + (i + 1) from by omega, laid_right vs xs _ (i + 1)]
theorem laid_flat {m : Nat} (hm : ∀ x, (enc x).length = m) {vs : List Value} {j : Nat} {r' : α} : ∀ {rs : List α} {k : Nat} (hk : k < rs.length), j + vs.length ≤ m → lay (enc rs[k]) j vs = enc r' →
    lay (rs.flatMap enc) (k * m + j) vs = (rs.set k r').flatMap enc
  | [], k, hk, _, _ => by simp at hk
  | r :: rs, 0, _, hj, e => by
    simp only [List.getElem_cons_zero] at e
    simp only [List.flatMap_cons, List.set_cons_zero, Nat.zero_mul, Nat.zero_add]
    rw [laid_left _ _ _ _ (by rw [hm]; exact hj), e]
  | r :: rs, k + 1, hk, hj, e => by
    simp only [List.getElem_cons_succ] at e
    have ih := laid_flat hm (rs := rs) (k := k) (by simpa using hk) hj e
    simp only [List.flatMap_cons, List.set_cons_succ]
    rw [← ih, Nat.succ_mul, show k * m + m + j = (enc r).length + (k * m + j) from by rw [hm]; omega, laid_right]
/-- A store into an owned slice. -/
theorem BstoreS {ty : TypeId} {x y : Operand} {i : Nat} {v : Value} {vs : List Value} {z : TypeInfo} (hS : Has n a S) (hR : Sep l w) (hx : ev S x = some (.pointer (some ⟨blkOf r, i, none⟩))) (hy : ev S y = some v)
    (hv : v.cells = vs.toArray) (hi : P.info? ty = some z) (hz : z.size = vs.length) (p : Pk (Sx.sls r m cap T sz cs) l l') (h1 : vs.all Value.oneCell' = true) (hl : i + vs.length ≤ cs.length) (hpos : 0 < vs.length)
    (k : ∀ w', Sep (Sx.sls r m cap T sz (lay cs i vs) :: l') w' → K a w') : Oper.wp P ⟨none, .store ty x y, t, pos, af, g⟩ a w K Q := by
  rcases (hR.pk p).slsE with ⟨_, _, _, h4, _⟩ | ⟨b, rest, e1, e2, e3, e4, hR'⟩
  · subst h4; simp only [List.length_nil] at hl; omega
  · subst e1
    refine Bstore (b := b) (i := i) (T := T) (cs := cs ++ rest) hS hR' hx hy hv hi hz .here h1 (by simp; omega) fun w' h => k w' ?_
    rw [laid_left _ _ _ _ hl] at h
    exact Sep.slsI h (by rw [laid_len, e2]) (by rw [laid_len, e3]) e4
theorem BstoreR {ty : TypeId} {x y : Operand} {k j : Nat} {v : Value} {vs : List Value} {z : TypeInfo} (x' : α) (hS : Has n a S) (hR : Sep l w) (hx : ev S x = some (.pointer (some ⟨blkOf r, k * sz + j, none⟩))) (hy : ev S y = some v)
    (hv : v.cells = vs.toArray) (hi : P.info? ty = some z) (hz : z.size = vs.length) (p : Pk (Sx.sls r m cap T sz (xs.flatMap enc)) l l') (h1 : vs.all Value.oneCell' = true) (hm : ∀ x, (enc x).length = sz) (hk : k < xs.length) (hj : j + vs.length ≤ sz) (hpos : 0 < vs.length) (e : lay (enc xs[k]) j vs = enc x')
    (kk : ∀ w', Sep (Sx.sls r m cap T sz ((xs.set k x').flatMap enc) :: l') w' → K a w') : Oper.wp P ⟨none, .store ty x y, t, pos, af, g⟩ a w K Q := by
  have hlen : (xs.flatMap enc).length = xs.length * sz := flat_len hm xs
  have hle : k * sz + sz ≤ xs.length * sz := by rw [← Nat.succ_mul]; exact Nat.mul_le_mul_right _ hk
  refine BstoreS hS hR hx hy hv hi hz p h1 (by omega) hpos fun w' h => kk w' ?_
  rw [laid_flat hm hk hj e] at h
  exact h
theorem BstoreR0 {ty : TypeId} {x y : Operand} {k : Nat} {v : Value} {vs : List Value} {z : TypeInfo} (x' : α) (hS : Has n a S) (hR : Sep l w) (hx : ev S x = some (.pointer (some ⟨blkOf r, k * sz, none⟩))) (hy : ev S y = some v)
    (hv : v.cells = vs.toArray) (hi : P.info? ty = some z) (hz : z.size = vs.length) (p : Pk (Sx.sls r m cap T sz (xs.flatMap enc)) l l') (h1 : vs.all Value.oneCell' = true) (hm : ∀ x, (enc x).length = sz) (hk : k < xs.length) (hj : vs.length ≤ sz) (hpos : 0 < vs.length) (e : lay (enc xs[k]) 0 vs = enc x')
    (kk : ∀ w', Sep (Sx.sls r m cap T sz ((xs.set k x').flatMap enc) :: l') w' → K a w') : Oper.wp P ⟨none, .store ty x y, t, pos, af, g⟩ a w K Q :=
  BstoreR (j := 0) x' hS hR hx hy hv hi hz p h1 hm hk (by omega) hpos e kk
/-! ### what is appended, as records -/
theorem XC.one {b c : Nat} (x : α) (p : Pk (Sx.blk b cs T) l l') (e : cs = enc x) (hl : (enc x).length = sz) : XC P l sz (.slice (some ⟨b, 0, none⟩) 1 c) 1 ([x].flatMap enc) := by
  subst e
  have := XC.blk (P := P) (m := 1) (sz := sz) (c := c) p (by rw [hl, Nat.one_mul])
  simpa using this
theorem flat_sub (hm : ∀ x, (enc x).length = sz) : ∀ (xs : List α) (lo k : Nat), ((xs.flatMap enc).drop (lo * sz)).take (k * sz) = ((xs.drop lo).take k).flatMap enc
  | xs, 0, 0 => by simp
  | [], lo, k => by simp
  | x :: xs, 0, k + 1 => by
    have ih := flat_sub hm xs 0 k
    simp only [Nat.zero_mul, List.drop_zero, List.flatMap_cons, List.take_succ_cons] at *
    rw [Nat.succ_mul, Nat.add_comm, ← hm x, List.take_append, List.take_of_length_le (by omega), show (enc x).length + k * (enc x).length - (enc x).length = k * (enc x).length from by omega, hm x, ih]
  | x :: xs, lo + 1, k => by
    have ih := flat_sub hm xs lo k
    rw [List.flatMap_cons, List.drop_succ_cons, ← ih, Nat.succ_mul, Nat.add_comm, ← hm x, List.drop_append, List.drop_of_length_le (by omega), List.nil_append, show (enc x).length + lo * (enc x).length - (enc x).length = lo * (enc x).length from by omega]
theorem XC.part {q : Option Addr} {k c lo : Nat} (p : Pk (Sx.sls r m cap T sz (xs.flatMap enc)) l l') (hm : ∀ x, (enc x).length = sz) (hq : q = if cap = lo then r else r.map fun x => x.add (lo * sz)) (hk : lo + k ≤ m) :
    XC P l sz (.slice q k c) k (((xs.drop lo).take k).flatMap enc) := by
  rw [← flat_sub hm]; exact XC.sub p hq hk
theorem XC.upto {k c : Nat} (p : Pk (Sx.sls r m cap T sz (xs.flatMap enc)) l l') (hm : ∀ x, (enc x).length = sz) (hk : k ≤ m) :
    XC P l sz (.slice r k c) k ((xs.take k).flatMap enc) := by
  intro w hw
  have hle := (hw.pk p).slsLe.1
  by_cases hc : cap = 0
  · obtain rfl : k = 0 := by omega
    simpa using XC.zero (P := P) (l := l) (sz := sz) (q := r) (c := c) w hw
  · have := XC.part (P := P) (lo := 0) (c := c) (q := r) p hm (by rw [if_neg hc]; cases r <;> simp [Addr.add_zero']) (by omega : 0 + k ≤ m)
    simpa using this w hw
theorem XC.all (p : Pk (Sx.sls r m cap T sz (xs.flatMap enc)) l l') : XC P l sz (.slice r m cap) m (xs.flatMap enc) := XC.sls p
/-- append, in terms of records. -/
theorem BappendR {ty e : TypeId} {x y : Operand} {q : Option Addr} {m2 c2 : Nat} {ys : List α} {z : TypeInfo} {zv : Value} (hS : Has n a S) (hR : Sep l w)
    (hx : ev S x = some (.slice r m cap)) (hy : ev S y = some (.slice q m2 c2)) (hu : P.underlying ty = some (.slice e)) (hi : P.info? e = some z) (hz : z.zero = some zv) (hsz : z.size = sz) (hzs : zv.cells.size = sz)
    (p : Pk (Sx.sls r m cap e sz (xs.flatMap enc)) l l') (hn : XC P l sz (.slice q m2 c2) m2 (ys.flatMap enc)) (h1 : ∀ x, (enc x).all Value.oneCell' = true) (hb : (m + m2) * z.bytes ≤ 140737488355328) (hm : m + m2 ≤ 9223372036854775807) (hl : (xs ++ ys).length = m + m2) (hd : d < n)
    (k : ∀ a' w' r' cap', Has n a' ((d, .slice r' (xs ++ ys).length cap') :: S) → Sep (Sx.sls r' (xs ++ ys).length cap' e sz ((xs ++ ys).flatMap enc) :: l') w' → K a' w') :
    Oper.wp P ⟨some d, .call { callee := .builtin .append, args := [x, y].toArray, argTypes := [ty, ty].toArray }, t, pos, af, g⟩ a w K Q := by
  refine Bappend hS hR hx hy hu hi hz hsz hzs p hn ?_ hb hm hd fun a' w' r' cap' h2 h3 => k a' w' r' cap' (by rw [hl]; exact h2) (by rw [hl, List.flatMap_append]; exact h3)
  rw [List.all_flatMap]
  simp [h1]
/-- A new block of cells that are no more than its records. -/
theorem Sep.toRecs {b m : Nat} (xs : List α) (h : Sep (Sx.blk b cs T :: l) w) (e : cs = xs.flatMap enc) (hm : ∀ x, (enc x).length = sz) (hl : m = xs.length) : Sep (Sx.sls (some ⟨b, 0, none⟩) m m T sz (xs.flatMap enc) :: l) w := by
  subst e hl
  exact h.slsB (flat_len hm xs)
/-- An owned slice of which nothing need be known but its length. -/
theorem Sep.toLen (xs ys : List α) {m : Nat} (h : Sep (Sx.sls r m cap T sz (xs.flatMap enc) :: l) w) (e : xs = ys) : Sep (Sx.sls r m cap T sz (ys.flatMap enc) :: l) w := e ▸ h
end
theorem thenX {Q : Exit → Act → World → Prop} {a : Act} {w : World} {K : Act → World → Prop} {id : Nat} (h : Q (.exit id) a w) : Exit.then K Q (.exit id) a w := h
theorem blockX {Q : Exit → Act → World → Prop} {a : Act} {w : World} {id : Nat} (h : Q .normal a w) : Exit.inBlock id Q (.exit id) a w := by
  simp only [Exit.inBlock]; simpa using h
theorem blockY {Q : Exit → Act → World → Prop} {a : Act} {w : World} {id id' : Nat} (hn : Nat.beq id' id = false) (h : Q (.exit id') a w) : Exit.inBlock id Q (.exit id') a w := by
  have hne : ¬ id' = id := fun e => by subst e; simp at hn
  simp only [Exit.inBlock, if_neg hne]; exact h
theorem Yld.to {P : Program} {a : Act} {l : List HP} {o : Oper} {v u : Value} (h : Yld P a l o v) (e : v = u) : Yld P a l o u := e ▸ h
theorem emod_in {n d : Int} (h : 1 ≤ d) : 0 ≤ n % d ∧ n % d < d := ⟨Int.emod_nonneg _ (by omega), Int.emod_lt_of_pos _ (by omega)⟩
/-- An index, as a number. -/
theorem emod_nat {n d : Int} {m : Nat} (h : (m : Int) = d) (h1 : 1 ≤ m) : ∃ k : Nat, n % d = k ∧ k < m := by
  subst h
  have := emod_in (n := n) (d := (m : Int)) (by omega)
  exact ⟨(n % (m : Int)).toNat, by omega, by omega⟩
/-! ### several assertions as one -/
theorem stars_app : ∀ (L l : List HP) (σ : Sig) (h : PH), stars (L ++ l) σ h ↔ star (stars L) (stars l) σ h
  | [], l, σ, h => by
    constructor
    · intro s; exact ⟨PH.emp, h, PH.emp_disj _, (PH.emp_uni _).symm, rfl, s⟩
    · rintro ⟨g, k, d, rfl, e, s⟩
      have e' : g = PH.emp := e
      subst e'
      rw [PH.emp_uni]; exact s
  | P :: L, l, σ, h => by
    constructor
    · intro s
      have s1 : star P (stars (L ++ l)) σ h := s
      exact star_assoc' (star_mono (fun _ x => x) (fun g x => (stars_app L l σ g).1 x) s1)
    · intro s
      have s1 : star P (star (stars L) (stars l)) σ h := star_assoc s
      exact star_mono (fun _ x => x) (fun g x => (stars_app L l σ g).2 x) s1
theorem Sep.unpack {l L : List HP} {w : World} (h : Sep (stars L :: l) w) : Sep (L ++ l) w :=
  let ⟨g, hs, s⟩ := h; ⟨g, hs, (stars_app L l _ g).2 s⟩
theorem Sep.packL {l : List HP} {w : World} (L : List HP) (h : Sep (L ++ l) w) : Sep (stars L :: l) w :=
  let ⟨g, hs, s⟩ := h; ⟨g, hs, (stars_app L l _ g).1 s⟩
/-- Some assertions, and something that is known, for some values. -/
def box {X : Type} (C : X → Prop) (L : X → List HP) : HP := ex fun x => star (pure' (C x)) (stars (L x))
theorem Sep.boxE {X : Type} {C : X → Prop} {L : X → List HP} {l : List HP} {w : World} (h : Sep (box C L :: l) w) : ∃ x, C x ∧ Sep (L x ++ l) w := by
  obtain ⟨x, h⟩ := h.exE
  obtain ⟨h1, h2⟩ := h.split.pureE
  exact ⟨x, h1, h2.unpack⟩
theorem Sep.boxI {X : Type} {C : X → Prop} {L : X → List HP} {l : List HP} {w : World} (x : X) (hC : C x) (h : Sep (L x ++ l) w) : Sep (box C L :: l) w :=
  Sep.exI x (Sep.join (Sep.pureI hC (Sep.packL _ h)))
end Go.Proofs.Ytmcfmhiadlkglaa.Sx
