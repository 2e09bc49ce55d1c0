/-
  No cell of these rows narrows 'for every input' (looked for: loops, veiled, ifaces, maps, wideKeys, modest, calm, conditions, laid).
  DERIVED. THE GIVEN ROWS OF THIS SEAT. 7 by the template 'for every input the law returns true; each argument reads behind the call as it read before'; 0 by the template 'total and deterministic' (their statements: YthjfclljjcpikaaTotals.lean).
  GIVEN WITH THE SEED: the statements are not yours to turn. If you find one false, say at which input.
  Laid BY PROGRAM, IN A SANDBOX (cutbox-rows.mjs): the forced cells as the released guide's own fill.sh prints them over the translation 467c228edf2ce616… (all of the seat's roots in one cut). By AI agents, Wed Nov 11 2026. No macro, syntax, notation, axiom, sorry.
-/
import Derived.Test.YthjfclljjcpikaaChecked
import GoSem.Claim
import GoSem.ClaimJoined
import GoSem.ClaimMapViews
import Derived.JoinedTies
import Derived.KernelRfl
namespace Go.Proofs.Ythjfclljjcpikaa
/- THE CELL 'sum', in the pinned program and in every row, IS THE sha256 OF THE DUMP (.gsa) THAT YthjfclljjcpikaaProg.lean LOADS. Nothing in Lean hashes anything: it is a label: what it is worth is what the hold of that sum in a sandbox is worth. -/
noncomputable def Try.pinned : Pinned := { name := "ythjfclljjcpikaa", sum := "467c228edf2ce616fc51761f350d33a604e4a321ac8e8cc852ba370c8111e117", checked := Try.checked }
namespace Rows
def none {H : Type} : Left H := { results := [], args := [] }

/-- 'bafflelaw31.SourceRecords': WHATEVER THE INPUT: true; the input reads as it did. -/
def sourceRecordsSpec : ChangeSpec := { name := "sourceRecords", fn := fun _ => fun
  | [d1, d2, d3] => { results := [.lit (.bool true)], args := [d1, d2, d3] }
  | _ => none }
def sourceRecordsRow : OpenClaim := { program := "ythjfclljjcpikaa", sum := "467c228edf2ce616fc51761f350d33a604e4a321ac8e8cc852ba370c8111e117", func := "baffle/bafflelaw31.SourceRecords", spec := "sourceRecords", unfollowed := true, recurses := true, apart := false }
def SourceRecordsSaid : Prop := sourceRecordsRow.holds Try.pinned (OpenSpec.ofChange sourceRecordsSpec)

/-- ITS FALSE NEIGHBOUR: 'it returns false'. Refute it at one input. -/
def sourceRecordsWrong : ChangeSpec := { name := "sourceRecords", fn := fun _ => fun
  | [d1, d2, d3] => { results := [.lit (.bool false)], args := [d1, d2, d3] }
  | _ => none }
def SourceRecordsWrongFalsely : Prop := sourceRecordsRow.holds Try.pinned (OpenSpec.ofChange sourceRecordsWrong)

/-- 'bafflelaw31.SourceTells': WHATEVER THE INPUT: true; the input reads as it did. -/
def sourceTellsSpec : ChangeSpec := { name := "sourceTells", fn := fun _ => fun
  | [d1, d2, d3] => { results := [.lit (.bool true)], args := [d1, d2, d3] }
  | _ => none }
def sourceTellsRow : OpenClaim := { program := "ythjfclljjcpikaa", sum := "467c228edf2ce616fc51761f350d33a604e4a321ac8e8cc852ba370c8111e117", func := "baffle/bafflelaw31.SourceTells", spec := "sourceTells", unfollowed := true, recurses := true, apart := false }
def SourceTellsSaid : Prop := sourceTellsRow.holds Try.pinned (OpenSpec.ofChange sourceTellsSpec)

/-- ITS FALSE NEIGHBOUR: 'it returns false'. Refute it at one input. -/
def sourceTellsWrong : ChangeSpec := { name := "sourceTells", fn := fun _ => fun
  | [d1, d2, d3] => { results := [.lit (.bool false)], args := [d1, d2, d3] }
  | _ => none }
def SourceTellsWrongFalsely : Prop := sourceTellsRow.holds Try.pinned (OpenSpec.ofChange sourceTellsWrong)

/-- 'bafflelaw31.SourceSmall': WHATEVER THE INPUT: true; the input reads as it did. -/
def sourceSmallSpec : ChangeSpec := { name := "sourceSmall", fn := fun _ => fun
  | [] => { results := [.lit (.bool true)], args := [] }
  | _ => none }
def sourceSmallRow : OpenClaim := { program := "ythjfclljjcpikaa", sum := "467c228edf2ce616fc51761f350d33a604e4a321ac8e8cc852ba370c8111e117", func := "baffle/bafflelaw31.SourceSmall", spec := "sourceSmall", unfollowed := true, recurses := true, apart := false }
def SourceSmallSaid : Prop := sourceSmallRow.holds Try.pinned (OpenSpec.ofChange sourceSmallSpec)

/-- ITS FALSE NEIGHBOUR: 'it returns false'. Refute it at one input. -/
def sourceSmallWrong : ChangeSpec := { name := "sourceSmall", fn := fun _ => fun
  | [] => { results := [.lit (.bool false)], args := [] }
  | _ => none }
def SourceSmallWrongFalsely : Prop := sourceSmallRow.holds Try.pinned (OpenSpec.ofChange sourceSmallWrong)

/-- 'bafflelaw31.SourceLimit': WHATEVER THE INPUT: true; the input reads as it did. -/
def sourceLimitSpec : ChangeSpec := { name := "sourceLimit", fn := fun _ => fun
  | [d1, d2, d3] => { results := [.lit (.bool true)], args := [d1, d2, d3] }
  | _ => none }
def sourceLimitRow : OpenClaim := { program := "ythjfclljjcpikaa", sum := "467c228edf2ce616fc51761f350d33a604e4a321ac8e8cc852ba370c8111e117", func := "baffle/bafflelaw31.SourceLimit", spec := "sourceLimit", unfollowed := true, recurses := true, apart := false }
def SourceLimitSaid : Prop := sourceLimitRow.holds Try.pinned (OpenSpec.ofChange sourceLimitSpec)

/-- ITS FALSE NEIGHBOUR: 'it returns false'. Refute it at one input. -/
def sourceLimitWrong : ChangeSpec := { name := "sourceLimit", fn := fun _ => fun
  | [d1, d2, d3] => { results := [.lit (.bool false)], args := [d1, d2, d3] }
  | _ => none }
def SourceLimitWrongFalsely : Prop := sourceLimitRow.holds Try.pinned (OpenSpec.ofChange sourceLimitWrong)

/-- 'bafflelaw31.SourceBack': WHATEVER THE INPUT: true; the input reads as it did. -/
def sourceBackSpec : ChangeSpec := { name := "sourceBack", fn := fun _ => fun
  | [d1, d2, d3, d4, d5] => { results := [.lit (.bool true)], args := [d1, d2, d3, d4, d5] }
  | _ => none }
def sourceBackRow : OpenClaim := { program := "ythjfclljjcpikaa", sum := "467c228edf2ce616fc51761f350d33a604e4a321ac8e8cc852ba370c8111e117", func := "baffle/bafflelaw31.SourceBack", spec := "sourceBack", unfollowed := true, recurses := true, apart := false }
def SourceBackSaid : Prop := sourceBackRow.holds Try.pinned (OpenSpec.ofChange sourceBackSpec)

/-- ITS FALSE NEIGHBOUR: 'it returns false'. Refute it at one input. -/
def sourceBackWrong : ChangeSpec := { name := "sourceBack", fn := fun _ => fun
  | [d1, d2, d3, d4, d5] => { results := [.lit (.bool false)], args := [d1, d2, d3, d4, d5] }
  | _ => none }
def SourceBackWrongFalsely : Prop := sourceBackRow.holds Try.pinned (OpenSpec.ofChange sourceBackWrong)

/-- 'bafflelaw31.SourceWrong': WHATEVER THE INPUT: true; the input reads as it did. -/
def sourceWrongSpec : ChangeSpec := { name := "sourceWrong", fn := fun _ => fun
  | [d1, d2, d3, d4, d5] => { results := [.lit (.bool true)], args := [d1, d2, d3, d4, d5] }
  | _ => none }
def sourceWrongRow : OpenClaim := { program := "ythjfclljjcpikaa", sum := "467c228edf2ce616fc51761f350d33a604e4a321ac8e8cc852ba370c8111e117", func := "baffle/bafflelaw31.SourceWrong", spec := "sourceWrong", unfollowed := true, recurses := true, apart := false }
def SourceWrongSaid : Prop := sourceWrongRow.holds Try.pinned (OpenSpec.ofChange sourceWrongSpec)

/-- ITS FALSE NEIGHBOUR: 'it returns false'. Refute it at one input. -/
def sourceWrongWrong : ChangeSpec := { name := "sourceWrong", fn := fun _ => fun
  | [d1, d2, d3, d4, d5] => { results := [.lit (.bool false)], args := [d1, d2, d3, d4, d5] }
  | _ => none }
def SourceWrongWrongFalsely : Prop := sourceWrongRow.holds Try.pinned (OpenSpec.ofChange sourceWrongWrong)

/-- 'bafflelaw31.SourceOrder': WHATEVER THE INPUT: true; the input reads as it did. -/
def sourceOrderSpec : ChangeSpec := { name := "sourceOrder", fn := fun _ => fun
  | [d1, d2, d3] => { results := [.lit (.bool true)], args := [d1, d2, d3] }
  | _ => none }
def sourceOrderRow : OpenClaim := { program := "ythjfclljjcpikaa", sum := "467c228edf2ce616fc51761f350d33a604e4a321ac8e8cc852ba370c8111e117", func := "baffle/bafflelaw31.SourceOrder", spec := "sourceOrder", unfollowed := true, recurses := true, apart := false }
def SourceOrderSaid : Prop := sourceOrderRow.holds Try.pinned (OpenSpec.ofChange sourceOrderSpec)

/-- ITS FALSE NEIGHBOUR: 'it returns false'. Refute it at one input. -/
def sourceOrderWrong : ChangeSpec := { name := "sourceOrder", fn := fun _ => fun
  | [d1, d2, d3] => { results := [.lit (.bool false)], args := [d1, d2, d3] }
  | _ => none }
def SourceOrderWrongFalsely : Prop := sourceOrderRow.holds Try.pinned (OpenSpec.ofChange sourceOrderWrong)

/- THE SECOND FORM. 'bulk': how many values and letters a reading holds, each counted each time it is reached (what is shared counts as often as it is met; a slice's spare places count too). A statement '..UptoSaid' is the law's where the arguments, and the package variables that the reading takes, are together of bulk at most 1048576: NARROWER than '..Said'. Prove '..Said' where nothing that the law and all that it calls make is longer than what came in: it says more and counts as full. Else prove '..UptoSaid'. A law counts once. -/
mutual
def uptoBulk {H : Type} : DataW H → Nat
  | .lit (.string bytes) => bytes.length + 1
  | .lit _ => 1
  | .nil => 1
  | .ptr d => uptoBulk d + 1
  | .slice elems spare => uptoBulkAll elems + uptoBulkAll spare + 1
  | .agg parts => uptoBulkAll parts + 1
  | .iface _ d => uptoBulk d + 1
  | .map entries => uptoBulkEntries entries + 1
  | .held _ => 1
def uptoBulkAll {H : Type} : List (DataW H) → Nat
  | [] => 0
  | d :: r => uptoBulk d + uptoBulkAll r
def uptoBulkEntries {H : Type} : List (Lit × DataW H) → Nat
  | [] => 0
  | x :: r => uptoBulkEntry x + uptoBulkEntries r
def uptoBulkEntry {H : Type} : Lit × DataW H → Nat
  | (.string bytes, d) => bytes.length + uptoBulk d + 1
  | (_, d) => uptoBulk d + 1
 end
def uptoSmall : (H : Type) → List (DataW H) → Bool := fun _ ds => decide (uptoBulkAll ds ≤ 1048576)
def OpenSpec.upto (s : _root_.Go.ChangeSpec) : _root_.Go.OpenSpec := { _root_.Go.OpenSpec.ofChange s with cond := some uptoSmall }

/-- 'bafflelaw31.SourceRecords', WHERE WHAT IT READS IS OF BULK AT MOST 1048576: true; the input reads as it did. -/
def sourceRecordsUptoRow : OpenClaim := { program := "ythjfclljjcpikaa", sum := "467c228edf2ce616fc51761f350d33a604e4a321ac8e8cc852ba370c8111e117", func := "baffle/bafflelaw31.SourceRecords", spec := "sourceRecords", unfollowed := true, recurses := true, apart := false, narrowed := true }
def SourceRecordsUptoSaid : Prop := sourceRecordsUptoRow.holds Try.pinned (OpenSpec.upto sourceRecordsSpec)

/-- 'bafflelaw31.SourceTells', WHERE WHAT IT READS IS OF BULK AT MOST 1048576: true; the input reads as it did. -/
def sourceTellsUptoRow : OpenClaim := { program := "ythjfclljjcpikaa", sum := "467c228edf2ce616fc51761f350d33a604e4a321ac8e8cc852ba370c8111e117", func := "baffle/bafflelaw31.SourceTells", spec := "sourceTells", unfollowed := true, recurses := true, apart := false, narrowed := true }
def SourceTellsUptoSaid : Prop := sourceTellsUptoRow.holds Try.pinned (OpenSpec.upto sourceTellsSpec)

/-- 'bafflelaw31.SourceSmall', WHERE WHAT IT READS IS OF BULK AT MOST 1048576: true; the input reads as it did. -/
def sourceSmallUptoRow : OpenClaim := { program := "ythjfclljjcpikaa", sum := "467c228edf2ce616fc51761f350d33a604e4a321ac8e8cc852ba370c8111e117", func := "baffle/bafflelaw31.SourceSmall", spec := "sourceSmall", unfollowed := true, recurses := true, apart := false, narrowed := true }
def SourceSmallUptoSaid : Prop := sourceSmallUptoRow.holds Try.pinned (OpenSpec.upto sourceSmallSpec)

/-- 'bafflelaw31.SourceLimit', WHERE WHAT IT READS IS OF BULK AT MOST 1048576: true; the input reads as it did. -/
def sourceLimitUptoRow : OpenClaim := { program := "ythjfclljjcpikaa", sum := "467c228edf2ce616fc51761f350d33a604e4a321ac8e8cc852ba370c8111e117", func := "baffle/bafflelaw31.SourceLimit", spec := "sourceLimit", unfollowed := true, recurses := true, apart := false, narrowed := true }
def SourceLimitUptoSaid : Prop := sourceLimitUptoRow.holds Try.pinned (OpenSpec.upto sourceLimitSpec)

/-- 'bafflelaw31.SourceBack', WHERE WHAT IT READS IS OF BULK AT MOST 1048576: true; the input reads as it did. -/
def sourceBackUptoRow : OpenClaim := { program := "ythjfclljjcpikaa", sum := "467c228edf2ce616fc51761f350d33a604e4a321ac8e8cc852ba370c8111e117", func := "baffle/bafflelaw31.SourceBack", spec := "sourceBack", unfollowed := true, recurses := true, apart := false, narrowed := true }
def SourceBackUptoSaid : Prop := sourceBackUptoRow.holds Try.pinned (OpenSpec.upto sourceBackSpec)

/-- 'bafflelaw31.SourceWrong', WHERE WHAT IT READS IS OF BULK AT MOST 1048576: true; the input reads as it did. -/
def sourceWrongUptoRow : OpenClaim := { program := "ythjfclljjcpikaa", sum := "467c228edf2ce616fc51761f350d33a604e4a321ac8e8cc852ba370c8111e117", func := "baffle/bafflelaw31.SourceWrong", spec := "sourceWrong", unfollowed := true, recurses := true, apart := false, narrowed := true }
def SourceWrongUptoSaid : Prop := sourceWrongUptoRow.holds Try.pinned (OpenSpec.upto sourceWrongSpec)

/-- 'bafflelaw31.SourceOrder', WHERE WHAT IT READS IS OF BULK AT MOST 1048576: true; the input reads as it did. -/
def sourceOrderUptoRow : OpenClaim := { program := "ythjfclljjcpikaa", sum := "467c228edf2ce616fc51761f350d33a604e4a321ac8e8cc852ba370c8111e117", func := "baffle/bafflelaw31.SourceOrder", spec := "sourceOrder", unfollowed := true, recurses := true, apart := false, narrowed := true }
def SourceOrderUptoSaid : Prop := sourceOrderUptoRow.holds Try.pinned (OpenSpec.upto sourceOrderSpec)

end Rows
end Go.Proofs.Ythjfclljjcpikaa
