/-
  No cell of these rows narrows 'for every input' (looked for: loops, veiled, ifaces, maps, wideKeys, modest, calm, conditions, laid).
  DERIVED. THE GIVEN ROWS OF THIS SEAT. 5 by the template 'for every input the law returns true; each argument reads behind the call as it read before'; 0 by the template 'total and deterministic' (their statements: YtkhdejjompbklaaTotals.lean).
  GIVEN WITH THE SEED: the statements are not yours to turn. If you find one false, say at which input.
  Laid BY PROGRAM, IN A SANDBOX (cutbox-rows.mjs): the forced cells as the released guide's own fill.sh prints them over the translation 559bf44c5c39529c… (all of the seat's roots in one cut). By AI agents, Wed Nov 11 2026. No macro, syntax, notation, axiom, sorry.
-/
import Derived.Test.YtkhdejjompbklaaChecked
import GoSem.Claim
import GoSem.ClaimJoined
import GoSem.ClaimMapViews
import Derived.JoinedTies
import Derived.KernelRfl
namespace Go.Proofs.Ytkhdejjompbklaa
/- THE CELL 'sum', in the pinned program and in every row, IS THE sha256 OF THE DUMP (.gsa) THAT YtkhdejjompbklaaProg.lean LOADS. Nothing in Lean hashes anything: it is a label: what it is worth is what the hold of that sum in a sandbox is worth. -/
noncomputable def Try.pinned : Pinned := { name := "ytkhdejjompbklaa", sum := "559bf44c5c39529c037b1ec0cf871785e641c99442e310c77510d1ee7e7a3efd", checked := Try.checked }
namespace Rows
def none {H : Type} : Left H := { results := [], args := [] }

/-- 'bafflelaw34.AdmitTokens': WHATEVER THE INPUT: true; the input reads as it did. -/
def admitTokensSpec : ChangeSpec := { name := "admitTokens", fn := fun _ => fun
  | [d1, d2, d3, d4] => { results := [.lit (.bool true)], args := [d1, d2, d3, d4] }
  | _ => none }
def admitTokensRow : OpenClaim := { program := "ytkhdejjompbklaa", sum := "559bf44c5c39529c037b1ec0cf871785e641c99442e310c77510d1ee7e7a3efd", func := "baffle/bafflelaw34.AdmitTokens", spec := "admitTokens", unfollowed := true, recurses := true, apart := false }
def AdmitTokensSaid : Prop := admitTokensRow.holds Try.pinned (OpenSpec.ofChange admitTokensSpec)

/-- ITS FALSE NEIGHBOUR: 'it returns false'. Refute it at one input. -/
def admitTokensWrong : ChangeSpec := { name := "admitTokens", fn := fun _ => fun
  | [d1, d2, d3, d4] => { results := [.lit (.bool false)], args := [d1, d2, d3, d4] }
  | _ => none }
def AdmitTokensWrongFalsely : Prop := admitTokensRow.holds Try.pinned (OpenSpec.ofChange admitTokensWrong)

/-- 'bafflelaw34.AdmitFair': WHATEVER THE INPUT: true; the input reads as it did. -/
def admitFairSpec : ChangeSpec := { name := "admitFair", fn := fun _ => fun
  | [d1, d2] => { results := [.lit (.bool true)], args := [d1, d2] }
  | _ => none }
def admitFairRow : OpenClaim := { program := "ytkhdejjompbklaa", sum := "559bf44c5c39529c037b1ec0cf871785e641c99442e310c77510d1ee7e7a3efd", func := "baffle/bafflelaw34.AdmitFair", spec := "admitFair", unfollowed := true, recurses := true, apart := false }
def AdmitFairSaid : Prop := admitFairRow.holds Try.pinned (OpenSpec.ofChange admitFairSpec)

/-- ITS FALSE NEIGHBOUR: 'it returns false'. Refute it at one input. -/
def admitFairWrong : ChangeSpec := { name := "admitFair", fn := fun _ => fun
  | [d1, d2] => { results := [.lit (.bool false)], args := [d1, d2] }
  | _ => none }
def AdmitFairWrongFalsely : Prop := admitFairRow.holds Try.pinned (OpenSpec.ofChange admitFairWrong)

/-- 'bafflelaw34.AdmitSafe': WHATEVER THE INPUT: true; the input reads as it did. -/
def admitSafeSpec : ChangeSpec := { name := "admitSafe", fn := fun _ => fun
  | [d1, d2, d3] => { results := [.lit (.bool true)], args := [d1, d2, d3] }
  | _ => none }
def admitSafeRow : OpenClaim := { program := "ytkhdejjompbklaa", sum := "559bf44c5c39529c037b1ec0cf871785e641c99442e310c77510d1ee7e7a3efd", func := "baffle/bafflelaw34.AdmitSafe", spec := "admitSafe", unfollowed := true, recurses := true, apart := false }
def AdmitSafeSaid : Prop := admitSafeRow.holds Try.pinned (OpenSpec.ofChange admitSafeSpec)

/-- ITS FALSE NEIGHBOUR: 'it returns false'. Refute it at one input. -/
def admitSafeWrong : ChangeSpec := { name := "admitSafe", fn := fun _ => fun
  | [d1, d2, d3] => { results := [.lit (.bool false)], args := [d1, d2, d3] }
  | _ => none }
def AdmitSafeWrongFalsely : Prop := admitSafeRow.holds Try.pinned (OpenSpec.ofChange admitSafeWrong)

/-- 'bafflelaw34.AdmitWrong': WHATEVER THE INPUT: true; the input reads as it did. -/
def admitWrongSpec : ChangeSpec := { name := "admitWrong", fn := fun _ => fun
  | [d1, d2, d3, d4] => { results := [.lit (.bool true)], args := [d1, d2, d3, d4] }
  | _ => none }
def admitWrongRow : OpenClaim := { program := "ytkhdejjompbklaa", sum := "559bf44c5c39529c037b1ec0cf871785e641c99442e310c77510d1ee7e7a3efd", func := "baffle/bafflelaw34.AdmitWrong", spec := "admitWrong", unfollowed := true, recurses := true, apart := false }
def AdmitWrongSaid : Prop := admitWrongRow.holds Try.pinned (OpenSpec.ofChange admitWrongSpec)

/-- ITS FALSE NEIGHBOUR: 'it returns false'. Refute it at one input. -/
def admitWrongWrong : ChangeSpec := { name := "admitWrong", fn := fun _ => fun
  | [d1, d2, d3, d4] => { results := [.lit (.bool false)], args := [d1, d2, d3, d4] }
  | _ => none }
def AdmitWrongWrongFalsely : Prop := admitWrongRow.holds Try.pinned (OpenSpec.ofChange admitWrongWrong)

/-- 'bafflelaw34.AdmitSlots': WHATEVER THE INPUT: true; the input reads as it did. -/
def admitSlotsSpec : ChangeSpec := { name := "admitSlots", fn := fun _ => fun
  | [d1, d2] => { results := [.lit (.bool true)], args := [d1, d2] }
  | _ => none }
def admitSlotsRow : OpenClaim := { program := "ytkhdejjompbklaa", sum := "559bf44c5c39529c037b1ec0cf871785e641c99442e310c77510d1ee7e7a3efd", func := "baffle/bafflelaw34.AdmitSlots", spec := "admitSlots", unfollowed := true, recurses := true, apart := false }
def AdmitSlotsSaid : Prop := admitSlotsRow.holds Try.pinned (OpenSpec.ofChange admitSlotsSpec)

/-- ITS FALSE NEIGHBOUR: 'it returns false'. Refute it at one input. -/
def admitSlotsWrong : ChangeSpec := { name := "admitSlots", fn := fun _ => fun
  | [d1, d2] => { results := [.lit (.bool false)], args := [d1, d2] }
  | _ => none }
def AdmitSlotsWrongFalsely : Prop := admitSlotsRow.holds Try.pinned (OpenSpec.ofChange admitSlotsWrong)

/- THE SECOND FORM. 'bulk': how many values and letters a reading holds, each counted each time it is reached (what is shared counts as often as it is met; a slice's spare places count too). A statement '..UptoSaid' is the law's where the arguments, and the package variables that the reading takes, are together of bulk at most 1048576: NARROWER than '..Said'. Prove '..Said' where nothing that the law and all that it calls make is longer than what came in: it says more and counts as full. Else prove '..UptoSaid'. A law counts once. -/
mutual
def uptoBulk {H : Type} : DataW H → Nat
  | .lit (.string bytes) => bytes.length + 1
  | .lit _ => 1
  | .nil => 1
  | .ptr d => uptoBulk d + 1
  | .slice elems spare => uptoBulkAll elems + uptoBulkAll spare + 1
  | .agg parts => uptoBulkAll parts + 1
  | .iface _ d => uptoBulk d + 1
  | .map entries => uptoBulkEntries entries + 1
  | .held _ => 1
def uptoBulkAll {H : Type} : List (DataW H) → Nat
  | [] => 0
  | d :: r => uptoBulk d + uptoBulkAll r
def uptoBulkEntries {H : Type} : List (Lit × DataW H) → Nat
  | [] => 0
  | x :: r => uptoBulkEntry x + uptoBulkEntries r
def uptoBulkEntry {H : Type} : Lit × DataW H → Nat
  | (.string bytes, d) => bytes.length + uptoBulk d + 1
  | (_, d) => uptoBulk d + 1
 end
def uptoSmall : (H : Type) → List (DataW H) → Bool := fun _ ds => decide (uptoBulkAll ds ≤ 1048576)
def OpenSpec.upto (s : _root_.Go.ChangeSpec) : _root_.Go.OpenSpec := { _root_.Go.OpenSpec.ofChange s with cond := some uptoSmall }

/-- 'bafflelaw34.AdmitTokens', WHERE WHAT IT READS IS OF BULK AT MOST 1048576: true; the input reads as it did. -/
def admitTokensUptoRow : OpenClaim := { program := "ytkhdejjompbklaa", sum := "559bf44c5c39529c037b1ec0cf871785e641c99442e310c77510d1ee7e7a3efd", func := "baffle/bafflelaw34.AdmitTokens", spec := "admitTokens", unfollowed := true, recurses := true, apart := false, narrowed := true }
def AdmitTokensUptoSaid : Prop := admitTokensUptoRow.holds Try.pinned (OpenSpec.upto admitTokensSpec)

/-- 'bafflelaw34.AdmitFair', WHERE WHAT IT READS IS OF BULK AT MOST 1048576: true; the input reads as it did. -/
def admitFairUptoRow : OpenClaim := { program := "ytkhdejjompbklaa", sum := "559bf44c5c39529c037b1ec0cf871785e641c99442e310c77510d1ee7e7a3efd", func := "baffle/bafflelaw34.AdmitFair", spec := "admitFair", unfollowed := true, recurses := true, apart := false, narrowed := true }
def AdmitFairUptoSaid : Prop := admitFairUptoRow.holds Try.pinned (OpenSpec.upto admitFairSpec)

/-- 'bafflelaw34.AdmitSafe', WHERE WHAT IT READS IS OF BULK AT MOST 1048576: true; the input reads as it did. -/
def admitSafeUptoRow : OpenClaim := { program := "ytkhdejjompbklaa", sum := "559bf44c5c39529c037b1ec0cf871785e641c99442e310c77510d1ee7e7a3efd", func := "baffle/bafflelaw34.AdmitSafe", spec := "admitSafe", unfollowed := true, recurses := true, apart := false, narrowed := true }
def AdmitSafeUptoSaid : Prop := admitSafeUptoRow.holds Try.pinned (OpenSpec.upto admitSafeSpec)

/-- 'bafflelaw34.AdmitWrong', WHERE WHAT IT READS IS OF BULK AT MOST 1048576: true; the input reads as it did. -/
def admitWrongUptoRow : OpenClaim := { program := "ytkhdejjompbklaa", sum := "559bf44c5c39529c037b1ec0cf871785e641c99442e310c77510d1ee7e7a3efd", func := "baffle/bafflelaw34.AdmitWrong", spec := "admitWrong", unfollowed := true, recurses := true, apart := false, narrowed := true }
def AdmitWrongUptoSaid : Prop := admitWrongUptoRow.holds Try.pinned (OpenSpec.upto admitWrongSpec)

/-- 'bafflelaw34.AdmitSlots', WHERE WHAT IT READS IS OF BULK AT MOST 1048576: true; the input reads as it did. -/
def admitSlotsUptoRow : OpenClaim := { program := "ytkhdejjompbklaa", sum := "559bf44c5c39529c037b1ec0cf871785e641c99442e310c77510d1ee7e7a3efd", func := "baffle/bafflelaw34.AdmitSlots", spec := "admitSlots", unfollowed := true, recurses := true, apart := false, narrowed := true }
def AdmitSlotsUptoSaid : Prop := admitSlotsUptoRow.holds Try.pinned (OpenSpec.upto admitSlotsSpec)

end Rows
end Go.Proofs.Ytkhdejjompbklaa
