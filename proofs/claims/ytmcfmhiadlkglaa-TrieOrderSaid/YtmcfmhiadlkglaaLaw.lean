/-
  From a walk to a statement of the form 'for every input the law returns true; each argument reads behind the call as it read before'. Nothing of a program stands here.
-/
import Derived.Test.YtmcfmhiadlkglaaStep
import Derived.ProofKit
import Derived.OpenShut
import Derived.WideKeyArgs
import Derived.Lib.SmallJoins
namespace Go.Proofs.Ytmcfmhiadlkglaa.Sx
open Go Go.ChangeShapes Go.WideShapes Go.ChangeAt Go.RowKit
set_option linter.unusedVariables false
section
variable {H : Type} {enc : TypeId × Value → H} {P : Program} {W W' : World}

/-- All that lay in W lies in W' as it was, and nothing was said to the outside. -/
structure Kept (W W' : World) : Prop where
  os : W'.os = W.os
  output : W'.output = W.output
  block : ∀ b, b < W.heap.size → W'.heap[b]? = W.heap[b]?
theorem kept_of_sep {l l' : List HP} (h : Sep l W') (p : Pk (old W) l l') : Kept W W' :=
  ⟨(h.pk p).readSig.1, (h.pk p).readSig.2, fun _ hb => (h.pk p).readOld hb⟩
theorem Kept.same (h : Kept W W') {p : MemPlace} (hp : p.block < W.heap.size) : W.sameAt W' p := by
  cases p with
  | cell b o => exact World.cell?_of_block (w := W) (h.block b hp)
  | map b => exact h.block b hp

theorem trodAll_stays (hl : laidOutB P = true) {sp : Nat → Bool} : ∀ {ts : List TypeId} {vs : List Value} {ds : List (DataW H)} {ps : List MemPlace},
    (∀ t ∈ ts, P.readableRec t = true ∧ t < P.types.size) → DataW.TrodAll enc P W 0 (fun _ => true) true ts vs ds ps →
    (∀ p ∈ ps, W.sameAt W' p) → (∀ p ∈ ps, sp p.block = true) → DataW.TrodAll enc P W' 0 sp true ts vs ds ps
  | [], [], [], _, _, h, _, _ => h
  | t :: ts, v :: vs, d :: ds, ps, hr, ⟨p, q, h1, h2, e⟩, hs, hsp => by
    subst e
    refine ⟨p, q, ?_, trodAll_stays hl (fun u hu => hr u (List.mem_cons_of_mem _ hu)) h2 (fun x hx => hs x (List.mem_append_right _ hx)) (fun x hx => hsp x (List.mem_append_right _ hx)), rfl⟩
    obtain ⟨r1, r2⟩ := hr t List.mem_cons_self
    exact WideElems.Trod_stays hl r1 r2 h1 (fun x hx => hs x (List.mem_append_left _ hx)) (fun x hx => hsp x (List.mem_append_left _ hx))
  | [], _ :: _, _, _, _, h, _, _ => h.elim
  | [], [], _ :: _, _, _, h, _, _ => h.elim
  | _ :: _, [], _, _, _, h, _, _ => h.elim
  | _ :: _, _ :: _, [], _, _, h, _, _ => h.elim

/-- What is asked behind a law's call. -/
theorem law_post {f : Func} {s : ChangeSpec} {apart fresh handsOn again : Bool} {args : Array Value} {ds gs : List (DataW H)} {before : List MemPlace} {tb : TypeId} (hl : laidOutB P = true)
    (hpar : ∀ t ∈ f.params.toList, P.readableRec t = true ∧ t < P.types.size) (hres : f.resultTypes = [tb].toArray) (hb : P.underlying tb = some .bool) (hvars : s.vars = [])
    (hfn : s.fn H (ds ++ gs) = { results := [.lit (.bool true)], args := ds }) (hW : DataW.Whole enc P f.params.toList s.vars apart W args.toList ds gs before) (hk : Kept W W')
    (hok : ∀ (j : Nat) (t : TypeId) (r : Value), f.resultTypes[j]? = some t → ((Value.bool true).resultList f.resultTypes.size)[j]? = some r → Value.okWide P W' .any 0 t r) :
    s.post enc P f apart fresh handsOn again W args (.bool true) W' := by
  have hlt : ∀ p ∈ before, p.block < W.heap.size := fun p hp => hW.lt p hp
  have hW0 := hW
  obtain ⟨p, q, hA, hV, hps, hz, hn⟩ := hW
  rw [hvars] at hV
  obtain ⟨hgs, hq⟩ := trodVars_none hV
  subst hq
  rw [List.append_nil] at hps
  subst hps
  have hA' : ∀ sp : Nat → Bool, (∀ x ∈ before, sp x.block = true) → DataW.TrodAll enc P W' 0 sp true f.params.toList args.toList ds before :=
    fun sp hsp => trodAll_stays hl hpar hA (fun x hx => hk.same (hlt x hx)) hsp
  have hR : ∀ (b : Nat) (sp : Nat → Bool) (hd : Bool), DataW.TrodAll enc P W' b sp hd f.resultTypes.toList ((Value.bool true).resultList f.resultTypes.size) [.lit (.bool true)] [] := by
    intro b sp hd
    rw [hres]
    exact trodAll_cons_mk (shut_bool hb _) trodAll_mk0
  have hV' : ∀ sp : Nat → Bool, DataW.TrodVars enc P W' sp s.vars [] [] := fun sp => by rw [hvars]; rfl
  refine ⟨ds, gs, before, [], before, [], hW0, ?_, ?_, ?_, ?_, fun _ => ⟨hok, ?_⟩⟩
  · rw [hfn]; exact hR _ _ _
  · rw [hfn]; exact hA' _ (fun x hx => by simpa using hlt x hx)
  · rw [hfn]; exact hV' _
  · refine ⟨hk.os, hk.output, fun i hi => ?_⟩
    rw [hk.block i hi]
    split <;> simp_all
  · refine ⟨[.lit (.bool true)] ++ ds, [], before, ⟨[] ++ before, [], ?_, hV' (fun _ => true), by simp, ?_, ?_⟩, fun x hx _ => hx⟩
    · exact trodAll_append (hA' (fun _ => true) (fun _ _ => rfl)) (hR 0 (fun _ => true) true)
    · intro b off hp
      have : W'.frozen? ⟨b, off, none⟩ = W.frozen? ⟨b, off, none⟩ := World.frozen?_of_block (w := W) (hk.block b (hlt _ hp))
      rw [this]
      exact hz b off hp
    · intro ha; exact hn ha
end
end Go.Proofs.Ytmcfmhiadlkglaa.Sx
