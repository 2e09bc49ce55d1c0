/-
  baffle/bafflelaw15.TrieFull: for every input the law returns true, and each argument reads behind the call as it read before. No condition.
-/
import Derived.Test.YtmcfmhiadlkglaaLwB
import Derived.Test.YtmcfmhiadlkglaaArgs2
import Derived.Test.YtmcfmhiadlkglaaLaw
namespace Go.Proofs.Ytmcfmhiadlkglaa.trieFull
open Go.Proofs.Ytmcfmhiadlkglaa.Sx
open Go Go.ChangeShapes Go.WideShapes Go.ChangeAt Go.RowKit Go.Joins
set_option linter.unusedVariables false
set_option linter.unusedSimpArgs false

theorem own : ownKnob Try.prog.godebug = none := by kernel_rfl
theorem hpar : ∀ t ∈ Try.f4.params.toList, Try.prog.readableRec t = true ∧ t < Try.prog.types.size := by
  rw [Try.params4]
  intro t ht
  simp only [List.mem_cons, List.not_mem_nil, or_false] at ht
  rcases ht with rfl | rfl | rfl <;> exact ⟨by kernel_rfl, of_decide_eq_true (by kernel_rfl)⟩
set_option maxRecDepth 100000 in
theorem lifted (os : Os) (started : os.Started) (H : Type) (enc : TypeId × Value → H) :
    ReturnsInHanded {} Try.checked os 4 .any (Rows.trieFullSpec.pre6 enc Try.prog Try.f4 Rows.trieFullRow.domain false) (Rows.trieFullSpec.post enc Try.prog Try.f4 false true false false) := by
  refine returnsInHanded_of_change (C := Try.checked) own started (by kernel_rfl) Try.func4
    (ChangeSpec.witness6 (enc := enc) (C := Try.checked) false ⟨#[], #[.int .u8 0, .agg #[.int .u8 0, .int .u32 0, .int .u32 0, .int .u16 0, .int .u16 0], .agg #[.int .u8 0, .int .u32 0, .int .u32 0, .int .u16 0, .int .u16 0]], []⟩ 8 (by kernel_rfl) (by kernel_rfl) (by kernel_rfl) (by kernel_rfl)) ?_
  intro W base args ds gs before hval0 hW hcnd _
  have hval : ∀ (j : Nat) t v, Try.f4.params[j]? = some t → args[j]? = some v → Value.okWide Try.prog W .any base t v := hval0
  have hW' := hW
  obtain ⟨p, q, hA0, hV, rfl, hfz, hnd⟩ := hW
  have hA : DataW.TrodAll enc Try.prog W 0 (fun _ => true) true Try.f4.params.toList args.toList ds p := hA0
  rw [Try.params4] at hA hval
  obtain ⟨v0, vs0, d0, ds0, p0, q0, hargs, rfl, rfl, h0, r0⟩ := trodAll_cons hA
  obtain ⟨v1, vs1, d1, ds1, p1, q1, rfl, rfl, rfl, h1, r1⟩ := trodAll_cons r0
  obtain ⟨v2, vs2, d2, ds2, p2, q2, rfl, rfl, rfl, h2, r2⟩ := trodAll_cons r1
  obtain ⟨rfl, rfl, rfl⟩ := trodAll_nil r2
  obtain rfl : args = #[v0, v1, v2] := by cases args; simp_all
  obtain ⟨rfl, rfl⟩ := trodVars_none hV
  obtain ⟨a0, rfl, rfl, rfl, w0⟩ := open_int Try.underlying5 (hval 0 5 v0 rfl rfl) h0
  obtain ⟨ns1, rfl, nl1, nw1⟩ := open_flat (ks := [.u8, .u32, .u32, .u16, .u16]) Try.underlying34 (by kernel_rfl) (hval 1 34 v1 rfl rfl) h1
  obtain ⟨y1_0, y1_1, y1_2, y1_3, y1_4, rfl⟩ := len5 nl1
  obtain ⟨ns2, rfl, nl2, nw2⟩ := open_flat (ks := [.u8, .u32, .u32, .u16, .u16]) Try.underlying34 (by kernel_rfl) (hval 2 34 v2 rfl rfl) h2
  obtain ⟨y2_0, y2_1, y2_2, y2_3, y2_4, rfl⟩ := len5 nl2
  refine Calls.mono (TrieFull_ok (ka := (y1_0, y1_1, y1_2, y1_3, y1_4)) (kb := (y2_0, y2_1, y2_2, y2_3, y2_4)) (Sep.start W) (wf8 w0) ⟨nw1.1, nw1.2.1, nw1.2.2.1, nw1.2.2.2.1, nw1.2.2.2.2.1⟩ ⟨nw2.1, nw2.2.1, nw2.2.2.1, nw2.2.2.2.1, nw2.2.2.2.2.1⟩) fun e W' ⟨v, he, hv, hs⟩ => ?_
  subst he; subst hv
  exact ⟨_, rfl, law_post (tb := 4) (by kernel_rfl) hpar rfl Try.underlying4 rfl rfl hW' (kept_of_sep hs .here) (ok_one (by kernel_rfl) rfl (okWide_bool_mk Try.underlying4 _))⟩

theorem over : Rows.trieFullRow.holds Try.pinned (OpenSpec.ofChange Rows.trieFullSpec) :=
  OpenClaim.holds_of_wide 4 Try.f4 rfl rfl rfl rfl rfl rfl rfl ⟨rfl, rfl, rfl, rfl, rfl⟩ rfl rfl rfl rfl rfl (by kernel_rfl) Try.func4 (by kernel_rfl)
    (of_decide_eq_true (by kernel_rfl)) (by unfold Func.isWrapper; first | (rw [if_pos (by decide +kernel)]; kernel_rfl) | (rw [if_neg (by decide +kernel)]; exact ⟨rfl, rfl⟩))
    (fun os started H enc _ => lifted os started H enc)

theorem proved : Rows.TrieFullSaid :=
  over
#print axioms proved
end Go.Proofs.Ytmcfmhiadlkglaa.trieFull
