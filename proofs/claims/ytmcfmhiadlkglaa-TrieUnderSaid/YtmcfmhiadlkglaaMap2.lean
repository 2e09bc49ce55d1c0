/-
  The operations on maps from keys to integers. Nothing of a program stands here.
-/
import Derived.Test.YtmcfmhiadlkglaaMap
namespace Go.Proofs.Ytmcfmhiadlkglaa.Sx
open Go
set_option linter.unusedVariables false
variable {P : Program} {n d : Nat} {a : Act} {S : Slots} {l l' : List HP} {w : World} {t : TypeId} {pos : String} {af : Array Edge} {g : Option (Nat × Bool)} {K : Act → World → Prop} {Q : Exit → Act → World → Prop}
theorem Yld.shrN {x y : Operand} {ty ty' : TypeId} {k k' : IntKind} {p c : Int} (hS : Has n a S) (hx : ev S x = some (.int k p)) (hy : ev S y = some (.int k' c)) (hc : 0 ≤ c) :
    Yld P a l ⟨some d, .binOp .shr ty x y ty', t, pos, af, g⟩ (.int k (p.fdiv (2 ^ (Min.min c.toNat k.bits)))) := by
  intro w _
  have h0 : ¬ (c < 0) := by omega
  simp [execOp, hS.ev hx, hS.ev hy, eqGuard, binOp, Op.shift, h0]
theorem findV_fnd {k : Ky} {M : List (Ky × Int)} : (fnd k M 0).map (·.2) = findV M k := fnd_v
theorem Yld.lookup {x y : Operand} {xt TK TV : TypeId} {b : Nat} {k : Ky} {M : List (Ky × Int)} (hS : Has n a S) (hT : KeyT P TK) (hx : ev S x = some (.map (some b))) (hy : ev S y = some (vK k))
    (hu : P.underlying xt = some (.map TK TV)) (hz : ∀ w, (zeroValue TV).run P w = .ok (.int .i64 0) w) (p : Pk (mapA b M) l l') :
    Yld P a l ⟨some d, .lookup xt x y true, t, pos, af, g⟩ (.tuple #[.int .i64 ((findV M k).getD 0), .bool (findV M k).isSome]) := by
  intro w hw
  obtain ⟨⟨es, c⟩, hC, hR⟩ := (hw.pk p).boxE
  have hg := MapKept.run_getObj_map (P := P) hR.read
  have hk := (run_findKey_eq w hT.wide (vK k) es).trans (run_ask hT (k := k) (w := w) (i := 0) hC)
  simp only [execOp, hS.ev hx, hS.ev hy, Instr.lookup, Sem.run_bind, run_underlying hu, Result.andThen_ok, hg, Sem.run_pure, hT.chk, hk]
  rw [← findV_fnd]
  cases fnd k M 0 <;> simp [hz]
theorem Yld.lenMap {x : Operand} {xt TK TV : TypeId} {b : Nat} {M : List (Ky × Int)} (hS : Has n a S) (hx : ev S x = some (.map (some b)))
    (hu : P.underlying xt = some (.map TK TV)) (p : Pk (mapA b M) l l') :
    Yld P a l ⟨some d, .call { callee := .builtin .len, args := [x].toArray, argTypes := [xt].toArray }, t, pos, af, g⟩ (.int .i64 M.length) := by
  intro w hw
  obtain ⟨⟨es, c⟩, hC, hR⟩ := (hw.pk p).boxE
  have hg := MapKept.run_getObj_map (P := P) hR.read
  have hl : es.length = M.length := by have := congrArg List.length hC; simpa using this
  simp [execOp, resolve, hS.ev hx, invoke, builtin, Builtin.len_, run_underlying hu, goInt, hg, hl]
theorem BmakeMap {xt : TypeId} (hS : Has n a S) (hR : Sep l w) (hd : d < n) (k : ∀ a' w' b, Has n a' ((d, .map (some b)) :: S) → Sep (mapA b [] :: l) w' → K a' w') :
    Oper.wp P ⟨some d, .makeMap xt none, t, pos, af, g⟩ a w K Q := by
  have hr : (execOp a.eval ⟨some d, .makeMap xt none, t, pos, af, g⟩).run P w = .ok (.value (.map (some w.heap.size))) (w.alloc (.map #[] 0)) := by
    simp [execOp, Instr.makeMap]
  unfold Oper.wp
  rw [hr]
  exact k _ _ _ (hS.put d _ hd) (Sep.boxI ([], 0) rfl (hR.new _))
theorem BmapUpdate {x y z : Operand} {xt TK TV : TypeId} {b : Nat} {k : Ky} {v : Int} {M : List (Ky × Int)} (hS : Has n a S) (hR : Sep l w) (hT : KeyT P TK) (hx : ev S x = some (.map (some b))) (hy : ev S y = some (vK k)) (hz : ev S z = some (.int .i64 v))
    (hu : P.underlying xt = some (.map TK TV)) (p : Pk (mapA b M) l l') (hno : findV M k = none)
    (kk : ∀ w', Sep (mapA b (M ++ [(k, v)]) :: l') w' → K a w') :
    Oper.wp P ⟨none, .mapUpdate xt x y z, t, pos, af, g⟩ a w K Q := by
  obtain ⟨⟨es, c⟩, hC, hB⟩ := (hR.pk p).boxE
  have hb := hB.read
  have hg := MapKept.run_getObj_map (P := P) hb
  have hk := (run_findKey_eq w hT.wide (vK k) es).trans (run_ask hT (k := k) (w := w) (i := 0) hC)
  have hn : fnd k M 0 = none := by
    have := findV_fnd (k := k) (M := M); rw [hno] at this
    simpa using this
  rw [hn] at hk
  have hs := MapKept.run_setObj_map (P := P) (.map (es.toArray.push { key := vK k, val := .int .i64 v, born := c }) (c + 1)) hb
  have hr : (execOp a.eval ⟨none, .mapUpdate xt x y z, t, pos, af, g⟩).run P w = .ok .skip { w with heap := w.heap.setIfInBounds b (.map (es.toArray.push { key := vK k, val := .int .i64 v, born := c }) (c + 1)) } := by
    simp only [execOp, hS.ev hx, hS.ev hy, hS.ev hz, Instr.mapUpdate, Sem.run_bind, run_underlying hu, Result.andThen_ok, hg, Sem.run_pure, hT.chk, hk, Option.map_none, hs]
  unfold Oper.wp
  rw [hr]
  have h2 := MapKept.heap_set (o' := Obj.map (es.toArray.push { key := vK k, val := .int .i64 v, born := c }) (c + 1)) hb
  have e0 : es.toArray.push { key := vK k, val := .int .i64 v, born := c } = (es ++ [({ key := vK k, val := .int .i64 v, born := c } : MapEntry)]).toArray := by simp
  rw [e0] at h2 ⊢
  have h3 := hB.upd (w' := { w with heap := w.heap.setIfInBounds b (.map (es ++ [({ key := vK k, val := .int .i64 v, born := c } : MapEntry)]).toArray (c + 1)) }) h2.1 (fun c' h => h2.2 c' h) rfl rfl
  exact kk _ (Sep.boxI (X := List MapEntry × Nat) (es ++ [({ key := vK k, val := .int .i64 v, born := c } : MapEntry)], c + 1) (by simp [hC]) h3)
theorem eraseIdx_map {α β : Type} (f : α → β) : ∀ (l : List α) (i : Nat), (l.eraseIdx i).map f = (l.map f).eraseIdx i
  | [], i => by simp
  | _ :: l, 0 => rfl
  | x :: l, i + 1 => by simp [eraseIdx_map f l i]
theorem Bdelete {x y : Operand} {xt kt TK TV : TypeId} {b : Nat} {k : Ky} {M : List (Ky × Int)} (hS : Has n a S) (hR : Sep l w) (hT : KeyT P TK) (hx : ev S x = some (.map (some b))) (hy : ev S y = some (vK k))
    (hu : P.underlying xt = some (.map TK TV)) (p : Pk (mapA b M) l l') (hn : (M.map Prod.fst).Nodup)
    (kk : ∀ w', Sep (mapA b (outK M k) :: l') w' → K a w') :
    Oper.wp P ⟨none, .call { callee := .builtin .delete, args := [x, y].toArray, argTypes := [xt, kt].toArray }, t, pos, af, g⟩ a w K Q := by
  obtain ⟨⟨es, c⟩, hC, hB⟩ := (hR.pk p).boxE
  have hb := hB.read
  have hg := MapKept.run_getObj_map (P := P) hb
  have hk := (run_findKey_eq w hT.wide (vK k) es).trans (run_ask hT (k := k) (w := w) (i := 0) hC)
  have key : ∃ es' : List MapEntry, es'.map (fun e => (e.key, e.val)) = kvs (outK M k) ∧ (execOp a.eval ⟨none, .call { callee := .builtin .delete, args := [x, y].toArray, argTypes := [xt, kt].toArray }, t, pos, af, g⟩).run P w = .ok (.value (.tuple #[])) { w with heap := w.heap.setIfInBounds b (.map es'.toArray c) } := by
    cases hf : fnd k M 0 with
    | none =>
      have hno : ¬ has M k := by
        rintro ⟨e, he, h9⟩
        have h3 := findV_fnd (k := k) (M := M)
        rw [hf] at h3
        have h4 : M.find? (fun e => e.1 == k) = none := by simpa [findV] using h3.symm
        exact absurd (List.find?_eq_none.1 h4 e he) (by simp [h9])
      refine ⟨es, by rw [outK_no hno]; exact hC, ?_⟩
      rw [hf] at hk
      have hs := MapKept.run_setObj_map (P := P) (.map es.toArray c) hb
      simp [execOp, resolve, hS.ev hx, hS.ev hy, invoke, builtin, Builtin.delete_, run_underlying hu, hg, hT.chk, hk, hs]
    | some q =>
      obtain ⟨j, v⟩ := q
      obtain ⟨m, h1, h2, h3⟩ := fnd_del hn hf
      simp only [Nat.zero_add] at h1
      subst h1
      have hl : es.length = M.length := by have := congrArg List.length hC; simpa using this
      refine ⟨es.eraseIdx j, by rw [eraseIdx_map, hC, ← h3, kvs, kvs, eraseIdx_map], ?_⟩
      rw [hf] at hk
      have e0 : (es.toArray.eraseIdxIfInBounds j) = (es.eraseIdx j).toArray := by simp [Array.eraseIdxIfInBounds, hl, h2]
      have hs := MapKept.run_setObj_map (P := P) (.map (es.eraseIdx j).toArray c) hb
      simp [execOp, resolve, hS.ev hx, hS.ev hy, invoke, builtin, Builtin.delete_, run_underlying hu, hg, hT.chk, hk, hs]
  obtain ⟨es', hC', hr⟩ := key
  unfold Oper.wp
  rw [hr]
  have h2 := MapKept.heap_set (o' := Obj.map es'.toArray c) hb
  have := hB.upd (o' := .map es'.toArray c) (w' := { w with heap := w.heap.setIfInBounds b (.map es'.toArray c) }) h2.1 (fun c' h => h2.2 c' h) rfl rfl
  exact kk _ (Sep.boxI ((es', c) : List MapEntry × Nat) hC' this)
end Go.Proofs.Ytmcfmhiadlkglaa.Sx
