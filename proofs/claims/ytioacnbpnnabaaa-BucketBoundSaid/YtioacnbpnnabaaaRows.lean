/-
  No cell of these rows narrows 'for every input' (looked for: loops, veiled, ifaces, maps, wideKeys, modest, calm, conditions, laid).
  DERIVED. THE GIVEN ROWS OF THIS SEAT. 8 by the template 'for every input the law returns true; each argument reads behind the call as it read before'; 0 by the template 'total and deterministic' (their statements: YtioacnbpnnabaaaTotals.lean).
  GIVEN WITH THE SEED: the statements are not yours to turn. If you find one false, say at which input.
  Laid BY PROGRAM, IN A SANDBOX (cutbox-rows.mjs): the forced cells as the released guide's own fill.sh prints them over the translation f394c459377c9fd7… (all of the seat's roots in one cut). By AI agents, Wed Nov 11 2026. No macro, syntax, notation, axiom, sorry.
-/
import Derived.Test.YtioacnbpnnabaaaChecked
import GoSem.Claim
import GoSem.ClaimJoined
import GoSem.ClaimMapViews
import Derived.JoinedTies
import Derived.KernelRfl
namespace Go.Proofs.Ytioacnbpnnabaaa
/- THE CELL 'sum', in the pinned program and in every row, IS THE sha256 OF THE DUMP (.gsa) THAT YtioacnbpnnabaaaProg.lean LOADS. Nothing in Lean hashes anything: it is a label: what it is worth is what the hold of that sum in a sandbox is worth. -/
noncomputable def Try.pinned : Pinned := { name := "ytioacnbpnnabaaa", sum := "f394c459377c9fd7e0fb6e6f503c2d088d646dd889be883a179aefeb9b4ff5c5", checked := Try.checked }
namespace Rows
def none {H : Type} : Left H := { results := [], args := [] }

/-- 'bafflelaw32.BucketTells': WHATEVER THE INPUT: true; the input reads as it did. -/
def bucketTellsSpec : ChangeSpec := { name := "bucketTells", fn := fun _ => fun
  | [d1, d2, d3, d4] => { results := [.lit (.bool true)], args := [d1, d2, d3, d4] }
  | _ => none }
def bucketTellsRow : OpenClaim := { program := "ytioacnbpnnabaaa", sum := "f394c459377c9fd7e0fb6e6f503c2d088d646dd889be883a179aefeb9b4ff5c5", func := "baffle/bafflelaw32.BucketTells", spec := "bucketTells", apart := false }
def BucketTellsSaid : Prop := bucketTellsRow.holds Try.pinned (OpenSpec.ofChange bucketTellsSpec)

/-- ITS FALSE NEIGHBOUR: 'it returns false'. Refute it at one input. -/
def bucketTellsWrong : ChangeSpec := { name := "bucketTells", fn := fun _ => fun
  | [d1, d2, d3, d4] => { results := [.lit (.bool false)], args := [d1, d2, d3, d4] }
  | _ => none }
def BucketTellsWrongFalsely : Prop := bucketTellsRow.holds Try.pinned (OpenSpec.ofChange bucketTellsWrong)

/-- 'bafflelaw32.BucketSmall': WHATEVER THE INPUT: true; the input reads as it did. -/
def bucketSmallSpec : ChangeSpec := { name := "bucketSmall", fn := fun _ => fun
  | [] => { results := [.lit (.bool true)], args := [] }
  | _ => none }
def bucketSmallRow : OpenClaim := { program := "ytioacnbpnnabaaa", sum := "f394c459377c9fd7e0fb6e6f503c2d088d646dd889be883a179aefeb9b4ff5c5", func := "baffle/bafflelaw32.BucketSmall", spec := "bucketSmall", apart := false }
def BucketSmallSaid : Prop := bucketSmallRow.holds Try.pinned (OpenSpec.ofChange bucketSmallSpec)

/-- ITS FALSE NEIGHBOUR: 'it returns false'. Refute it at one input. -/
def bucketSmallWrong : ChangeSpec := { name := "bucketSmall", fn := fun _ => fun
  | [] => { results := [.lit (.bool false)], args := [] }
  | _ => none }
def BucketSmallWrongFalsely : Prop := bucketSmallRow.holds Try.pinned (OpenSpec.ofChange bucketSmallWrong)

/-- 'bafflelaw32.BucketBound': WHATEVER THE INPUT: true; the input reads as it did. -/
def bucketBoundSpec : ChangeSpec := { name := "bucketBound", fn := fun _ => fun
  | [d1, d2, d3] => { results := [.lit (.bool true)], args := [d1, d2, d3] }
  | _ => none }
def bucketBoundRow : OpenClaim := { program := "ytioacnbpnnabaaa", sum := "f394c459377c9fd7e0fb6e6f503c2d088d646dd889be883a179aefeb9b4ff5c5", func := "baffle/bafflelaw32.BucketBound", spec := "bucketBound", apart := false }
def BucketBoundSaid : Prop := bucketBoundRow.holds Try.pinned (OpenSpec.ofChange bucketBoundSpec)

/-- ITS FALSE NEIGHBOUR: 'it returns false'. Refute it at one input. -/
def bucketBoundWrong : ChangeSpec := { name := "bucketBound", fn := fun _ => fun
  | [d1, d2, d3] => { results := [.lit (.bool false)], args := [d1, d2, d3] }
  | _ => none }
def BucketBoundWrongFalsely : Prop := bucketBoundRow.holds Try.pinned (OpenSpec.ofChange bucketBoundWrong)

/-- 'bafflelaw32.BucketFills': WHATEVER THE INPUT: true; the input reads as it did. -/
def bucketFillsSpec : ChangeSpec := { name := "bucketFills", fn := fun _ => fun
  | [d1, d2, d3, d4, d5] => { results := [.lit (.bool true)], args := [d1, d2, d3, d4, d5] }
  | _ => none }
def bucketFillsRow : OpenClaim := { program := "ytioacnbpnnabaaa", sum := "f394c459377c9fd7e0fb6e6f503c2d088d646dd889be883a179aefeb9b4ff5c5", func := "baffle/bafflelaw32.BucketFills", spec := "bucketFills", apart := false }
def BucketFillsSaid : Prop := bucketFillsRow.holds Try.pinned (OpenSpec.ofChange bucketFillsSpec)

/-- ITS FALSE NEIGHBOUR: 'it returns false'. Refute it at one input. -/
def bucketFillsWrong : ChangeSpec := { name := "bucketFills", fn := fun _ => fun
  | [d1, d2, d3, d4, d5] => { results := [.lit (.bool false)], args := [d1, d2, d3, d4, d5] }
  | _ => none }
def BucketFillsWrongFalsely : Prop := bucketFillsRow.holds Try.pinned (OpenSpec.ofChange bucketFillsWrong)

/-- 'bafflelaw32.BucketWaits': WHATEVER THE INPUT: true; the input reads as it did. -/
def bucketWaitsSpec : ChangeSpec := { name := "bucketWaits", fn := fun _ => fun
  | [d1, d2, d3, d4, d5] => { results := [.lit (.bool true)], args := [d1, d2, d3, d4, d5] }
  | _ => none }
def bucketWaitsRow : OpenClaim := { program := "ytioacnbpnnabaaa", sum := "f394c459377c9fd7e0fb6e6f503c2d088d646dd889be883a179aefeb9b4ff5c5", func := "baffle/bafflelaw32.BucketWaits", spec := "bucketWaits", apart := false }
def BucketWaitsSaid : Prop := bucketWaitsRow.holds Try.pinned (OpenSpec.ofChange bucketWaitsSpec)

/-- ITS FALSE NEIGHBOUR: 'it returns false'. Refute it at one input. -/
def bucketWaitsWrong : ChangeSpec := { name := "bucketWaits", fn := fun _ => fun
  | [d1, d2, d3, d4, d5] => { results := [.lit (.bool false)], args := [d1, d2, d3, d4, d5] }
  | _ => none }
def BucketWaitsWrongFalsely : Prop := bucketWaitsRow.holds Try.pinned (OpenSpec.ofChange bucketWaitsWrong)

/-- 'bafflelaw32.BucketTakes': WHATEVER THE INPUT: true; the input reads as it did. -/
def bucketTakesSpec : ChangeSpec := { name := "bucketTakes", fn := fun _ => fun
  | [d1, d2, d3, d4, d5, d6] => { results := [.lit (.bool true)], args := [d1, d2, d3, d4, d5, d6] }
  | _ => none }
def bucketTakesRow : OpenClaim := { program := "ytioacnbpnnabaaa", sum := "f394c459377c9fd7e0fb6e6f503c2d088d646dd889be883a179aefeb9b4ff5c5", func := "baffle/bafflelaw32.BucketTakes", spec := "bucketTakes", apart := false }
def BucketTakesSaid : Prop := bucketTakesRow.holds Try.pinned (OpenSpec.ofChange bucketTakesSpec)

/-- ITS FALSE NEIGHBOUR: 'it returns false'. Refute it at one input. -/
def bucketTakesWrong : ChangeSpec := { name := "bucketTakes", fn := fun _ => fun
  | [d1, d2, d3, d4, d5, d6] => { results := [.lit (.bool false)], args := [d1, d2, d3, d4, d5, d6] }
  | _ => none }
def BucketTakesWrongFalsely : Prop := bucketTakesRow.holds Try.pinned (OpenSpec.ofChange bucketTakesWrong)

/-- 'bafflelaw32.BucketScales': WHATEVER THE INPUT: true; the input reads as it did. -/
def bucketScalesSpec : ChangeSpec := { name := "bucketScales", fn := fun _ => fun
  | [d1, d2, d3] => { results := [.lit (.bool true)], args := [d1, d2, d3] }
  | _ => none }
def bucketScalesRow : OpenClaim := { program := "ytioacnbpnnabaaa", sum := "f394c459377c9fd7e0fb6e6f503c2d088d646dd889be883a179aefeb9b4ff5c5", func := "baffle/bafflelaw32.BucketScales", spec := "bucketScales", apart := false }
def BucketScalesSaid : Prop := bucketScalesRow.holds Try.pinned (OpenSpec.ofChange bucketScalesSpec)

/-- ITS FALSE NEIGHBOUR: 'it returns false'. Refute it at one input. -/
def bucketScalesWrong : ChangeSpec := { name := "bucketScales", fn := fun _ => fun
  | [d1, d2, d3] => { results := [.lit (.bool false)], args := [d1, d2, d3] }
  | _ => none }
def BucketScalesWrongFalsely : Prop := bucketScalesRow.holds Try.pinned (OpenSpec.ofChange bucketScalesWrong)

/-- 'bafflelaw32.BucketWrong': WHATEVER THE INPUT: true; the input reads as it did. -/
def bucketWrongSpec : ChangeSpec := { name := "bucketWrong", fn := fun _ => fun
  | [d1, d2, d3, d4] => { results := [.lit (.bool true)], args := [d1, d2, d3, d4] }
  | _ => none }
def bucketWrongRow : OpenClaim := { program := "ytioacnbpnnabaaa", sum := "f394c459377c9fd7e0fb6e6f503c2d088d646dd889be883a179aefeb9b4ff5c5", func := "baffle/bafflelaw32.BucketWrong", spec := "bucketWrong", apart := false }
def BucketWrongSaid : Prop := bucketWrongRow.holds Try.pinned (OpenSpec.ofChange bucketWrongSpec)

/-- ITS FALSE NEIGHBOUR: 'it returns false'. Refute it at one input. -/
def bucketWrongWrong : ChangeSpec := { name := "bucketWrong", fn := fun _ => fun
  | [d1, d2, d3, d4] => { results := [.lit (.bool false)], args := [d1, d2, d3, d4] }
  | _ => none }
def BucketWrongWrongFalsely : Prop := bucketWrongRow.holds Try.pinned (OpenSpec.ofChange bucketWrongWrong)

/- THE SECOND FORM. 'bulk': how many values and letters a reading holds, each counted each time it is reached (what is shared counts as often as it is met; a slice's spare places count too). A statement '..UptoSaid' is the law's where the arguments, and the package variables that the reading takes, are together of bulk at most 1048576: NARROWER than '..Said'. Prove '..Said' where nothing that the law and all that it calls make is longer than what came in: it says more and counts as full. Else prove '..UptoSaid'. A law counts once. -/
mutual
def uptoBulk {H : Type} : DataW H → Nat
  | .lit (.string bytes) => bytes.length + 1
  | .lit _ => 1
  | .nil => 1
  | .ptr d => uptoBulk d + 1
  | .slice elems spare => uptoBulkAll elems + uptoBulkAll spare + 1
  | .agg parts => uptoBulkAll parts + 1
  | .iface _ d => uptoBulk d + 1
  | .map entries => uptoBulkEntries entries + 1
  | .held _ => 1
def uptoBulkAll {H : Type} : List (DataW H) → Nat
  | [] => 0
  | d :: r => uptoBulk d + uptoBulkAll r
def uptoBulkEntries {H : Type} : List (Lit × DataW H) → Nat
  | [] => 0
  | x :: r => uptoBulkEntry x + uptoBulkEntries r
def uptoBulkEntry {H : Type} : Lit × DataW H → Nat
  | (.string bytes, d) => bytes.length + uptoBulk d + 1
  | (_, d) => uptoBulk d + 1
 end
def uptoSmall : (H : Type) → List (DataW H) → Bool := fun _ ds => decide (uptoBulkAll ds ≤ 1048576)
def OpenSpec.upto (s : _root_.Go.ChangeSpec) : _root_.Go.OpenSpec := { _root_.Go.OpenSpec.ofChange s with cond := some uptoSmall }

/-- 'bafflelaw32.BucketTells', WHERE WHAT IT READS IS OF BULK AT MOST 1048576: true; the input reads as it did. -/
def bucketTellsUptoRow : OpenClaim := { program := "ytioacnbpnnabaaa", sum := "f394c459377c9fd7e0fb6e6f503c2d088d646dd889be883a179aefeb9b4ff5c5", func := "baffle/bafflelaw32.BucketTells", spec := "bucketTells", apart := false, narrowed := true }
def BucketTellsUptoSaid : Prop := bucketTellsUptoRow.holds Try.pinned (OpenSpec.upto bucketTellsSpec)

/-- 'bafflelaw32.BucketSmall', WHERE WHAT IT READS IS OF BULK AT MOST 1048576: true; the input reads as it did. -/
def bucketSmallUptoRow : OpenClaim := { program := "ytioacnbpnnabaaa", sum := "f394c459377c9fd7e0fb6e6f503c2d088d646dd889be883a179aefeb9b4ff5c5", func := "baffle/bafflelaw32.BucketSmall", spec := "bucketSmall", apart := false, narrowed := true }
def BucketSmallUptoSaid : Prop := bucketSmallUptoRow.holds Try.pinned (OpenSpec.upto bucketSmallSpec)

/-- 'bafflelaw32.BucketBound', WHERE WHAT IT READS IS OF BULK AT MOST 1048576: true; the input reads as it did. -/
def bucketBoundUptoRow : OpenClaim := { program := "ytioacnbpnnabaaa", sum := "f394c459377c9fd7e0fb6e6f503c2d088d646dd889be883a179aefeb9b4ff5c5", func := "baffle/bafflelaw32.BucketBound", spec := "bucketBound", apart := false, narrowed := true }
def BucketBoundUptoSaid : Prop := bucketBoundUptoRow.holds Try.pinned (OpenSpec.upto bucketBoundSpec)

/-- 'bafflelaw32.BucketFills', WHERE WHAT IT READS IS OF BULK AT MOST 1048576: true; the input reads as it did. -/
def bucketFillsUptoRow : OpenClaim := { program := "ytioacnbpnnabaaa", sum := "f394c459377c9fd7e0fb6e6f503c2d088d646dd889be883a179aefeb9b4ff5c5", func := "baffle/bafflelaw32.BucketFills", spec := "bucketFills", apart := false, narrowed := true }
def BucketFillsUptoSaid : Prop := bucketFillsUptoRow.holds Try.pinned (OpenSpec.upto bucketFillsSpec)

/-- 'bafflelaw32.BucketWaits', WHERE WHAT IT READS IS OF BULK AT MOST 1048576: true; the input reads as it did. -/
def bucketWaitsUptoRow : OpenClaim := { program := "ytioacnbpnnabaaa", sum := "f394c459377c9fd7e0fb6e6f503c2d088d646dd889be883a179aefeb9b4ff5c5", func := "baffle/bafflelaw32.BucketWaits", spec := "bucketWaits", apart := false, narrowed := true }
def BucketWaitsUptoSaid : Prop := bucketWaitsUptoRow.holds Try.pinned (OpenSpec.upto bucketWaitsSpec)

/-- 'bafflelaw32.BucketTakes', WHERE WHAT IT READS IS OF BULK AT MOST 1048576: true; the input reads as it did. -/
def bucketTakesUptoRow : OpenClaim := { program := "ytioacnbpnnabaaa", sum := "f394c459377c9fd7e0fb6e6f503c2d088d646dd889be883a179aefeb9b4ff5c5", func := "baffle/bafflelaw32.BucketTakes", spec := "bucketTakes", apart := false, narrowed := true }
def BucketTakesUptoSaid : Prop := bucketTakesUptoRow.holds Try.pinned (OpenSpec.upto bucketTakesSpec)

/-- 'bafflelaw32.BucketScales', WHERE WHAT IT READS IS OF BULK AT MOST 1048576: true; the input reads as it did. -/
def bucketScalesUptoRow : OpenClaim := { program := "ytioacnbpnnabaaa", sum := "f394c459377c9fd7e0fb6e6f503c2d088d646dd889be883a179aefeb9b4ff5c5", func := "baffle/bafflelaw32.BucketScales", spec := "bucketScales", apart := false, narrowed := true }
def BucketScalesUptoSaid : Prop := bucketScalesUptoRow.holds Try.pinned (OpenSpec.upto bucketScalesSpec)

/-- 'bafflelaw32.BucketWrong', WHERE WHAT IT READS IS OF BULK AT MOST 1048576: true; the input reads as it did. -/
def bucketWrongUptoRow : OpenClaim := { program := "ytioacnbpnnabaaa", sum := "f394c459377c9fd7e0fb6e6f503c2d088d646dd889be883a179aefeb9b4ff5c5", func := "baffle/bafflelaw32.BucketWrong", spec := "bucketWrong", apart := false, narrowed := true }
def BucketWrongUptoSaid : Prop := bucketWrongUptoRow.holds Try.pinned (OpenSpec.upto bucketWrongSpec)

end Rows
end Go.Proofs.Ytioacnbpnnabaaa
