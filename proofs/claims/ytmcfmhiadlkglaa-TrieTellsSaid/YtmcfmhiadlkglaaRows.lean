/-
  No cell of these rows narrows 'for every input' (looked for: loops, veiled, ifaces, maps, wideKeys, modest, calm, conditions, laid).
  DERIVED. THE GIVEN ROWS OF THIS SEAT. 7 by the template 'for every input the law returns true; each argument reads behind the call as it read before'; 0 by the template 'total and deterministic' (their statements: YtmcfmhiadlkglaaTotals.lean).
  GIVEN WITH THE SEED: the statements are not yours to turn. If you find one false, say at which input.
  Laid BY PROGRAM, IN A SANDBOX (cutbox-rows.mjs): the forced cells as the released guide's own fill.sh prints them over the translation 5544b28d0e0d8bb5… (all of the seat's roots in one cut). By AI agents, Wed Nov 11 2026. No macro, syntax, notation, axiom, sorry.
-/
import Derived.Test.YtmcfmhiadlkglaaChecked
import GoSem.Claim
import GoSem.ClaimJoined
import GoSem.ClaimMapViews
import Derived.JoinedTies
import Derived.KernelRfl
namespace Go.Proofs.Ytmcfmhiadlkglaa
/- THE CELL 'sum', in the pinned program and in every row, IS THE sha256 OF THE DUMP (.gsa) THAT YtmcfmhiadlkglaaProg.lean LOADS. Nothing in Lean hashes anything: it is a label: what it is worth is what the hold of that sum in a sandbox is worth. -/
noncomputable def Try.pinned : Pinned := { name := "ytmcfmhiadlkglaa", sum := "5544b28d0e0d8bb51c7b8cf01c8997c157dc4f3ad3cac5f0408a4d40d43106e8", checked := Try.checked }
namespace Rows
def none {H : Type} : Left H := { results := [], args := [] }

/-- 'bafflelaw15.TrieMap': WHATEVER THE INPUT: true; the input reads as it did. -/
def trieMapSpec : ChangeSpec := { name := "trieMap", fn := fun _ => fun
  | [d1, d2] => { results := [.lit (.bool true)], args := [d1, d2] }
  | _ => none }
def trieMapRow : OpenClaim := { program := "ytmcfmhiadlkglaa", sum := "5544b28d0e0d8bb51c7b8cf01c8997c157dc4f3ad3cac5f0408a4d40d43106e8", func := "baffle/bafflelaw15.TrieMap", spec := "trieMap", unfollowed := true, recurses := true, plainKeys := false, apart := false }
def TrieMapSaid : Prop := trieMapRow.holds Try.pinned (OpenSpec.ofChange trieMapSpec)

/-- ITS FALSE NEIGHBOUR: 'it returns false'. Refute it at one input. -/
def trieMapWrong : ChangeSpec := { name := "trieMap", fn := fun _ => fun
  | [d1, d2] => { results := [.lit (.bool false)], args := [d1, d2] }
  | _ => none }
def TrieMapWrongFalsely : Prop := trieMapRow.holds Try.pinned (OpenSpec.ofChange trieMapWrong)

/-- 'bafflelaw15.TrieFull': WHATEVER THE INPUT: true; the input reads as it did. -/
def trieFullSpec : ChangeSpec := { name := "trieFull", fn := fun _ => fun
  | [d1, d2, d3] => { results := [.lit (.bool true)], args := [d1, d2, d3] }
  | _ => none }
def trieFullRow : OpenClaim := { program := "ytmcfmhiadlkglaa", sum := "5544b28d0e0d8bb51c7b8cf01c8997c157dc4f3ad3cac5f0408a4d40d43106e8", func := "baffle/bafflelaw15.TrieFull", spec := "trieFull", unfollowed := true, recurses := true, plainKeys := false, apart := false }
def TrieFullSaid : Prop := trieFullRow.holds Try.pinned (OpenSpec.ofChange trieFullSpec)

/-- ITS FALSE NEIGHBOUR: 'it returns false'. Refute it at one input. -/
def trieFullWrong : ChangeSpec := { name := "trieFull", fn := fun _ => fun
  | [d1, d2, d3] => { results := [.lit (.bool false)], args := [d1, d2, d3] }
  | _ => none }
def TrieFullWrongFalsely : Prop := trieFullRow.holds Try.pinned (OpenSpec.ofChange trieFullWrong)

/-- 'bafflelaw15.TrieOrder': WHATEVER THE INPUT: true; the input reads as it did. -/
def trieOrderSpec : ChangeSpec := { name := "trieOrder", fn := fun _ => fun
  | [d1, d2] => { results := [.lit (.bool true)], args := [d1, d2] }
  | _ => none }
def trieOrderRow : OpenClaim := { program := "ytmcfmhiadlkglaa", sum := "5544b28d0e0d8bb51c7b8cf01c8997c157dc4f3ad3cac5f0408a4d40d43106e8", func := "baffle/bafflelaw15.TrieOrder", spec := "trieOrder", unfollowed := true, recurses := true, plainKeys := false, apart := false }
def TrieOrderSaid : Prop := trieOrderRow.holds Try.pinned (OpenSpec.ofChange trieOrderSpec)

/-- ITS FALSE NEIGHBOUR: 'it returns false'. Refute it at one input. -/
def trieOrderWrong : ChangeSpec := { name := "trieOrder", fn := fun _ => fun
  | [d1, d2] => { results := [.lit (.bool false)], args := [d1, d2] }
  | _ => none }
def TrieOrderWrongFalsely : Prop := trieOrderRow.holds Try.pinned (OpenSpec.ofChange trieOrderWrong)

/-- 'bafflelaw15.TrieUnder': WHATEVER THE INPUT: true; the input reads as it did. -/
def trieUnderSpec : ChangeSpec := { name := "trieUnder", fn := fun _ => fun
  | [d1, d2, d3] => { results := [.lit (.bool true)], args := [d1, d2, d3] }
  | _ => none }
def trieUnderRow : OpenClaim := { program := "ytmcfmhiadlkglaa", sum := "5544b28d0e0d8bb51c7b8cf01c8997c157dc4f3ad3cac5f0408a4d40d43106e8", func := "baffle/bafflelaw15.TrieUnder", spec := "trieUnder", unfollowed := true, recurses := true, plainKeys := false, apart := false }
def TrieUnderSaid : Prop := trieUnderRow.holds Try.pinned (OpenSpec.ofChange trieUnderSpec)

/-- ITS FALSE NEIGHBOUR: 'it returns false'. Refute it at one input. -/
def trieUnderWrong : ChangeSpec := { name := "trieUnder", fn := fun _ => fun
  | [d1, d2, d3] => { results := [.lit (.bool false)], args := [d1, d2, d3] }
  | _ => none }
def TrieUnderWrongFalsely : Prop := trieUnderRow.holds Try.pinned (OpenSpec.ofChange trieUnderWrong)

/-- 'bafflelaw15.TrieTells': WHATEVER THE INPUT: true; the input reads as it did. -/
def trieTellsSpec : ChangeSpec := { name := "trieTells", fn := fun _ => fun
  | [d1, d2, d3] => { results := [.lit (.bool true)], args := [d1, d2, d3] }
  | _ => none }
def trieTellsRow : OpenClaim := { program := "ytmcfmhiadlkglaa", sum := "5544b28d0e0d8bb51c7b8cf01c8997c157dc4f3ad3cac5f0408a4d40d43106e8", func := "baffle/bafflelaw15.TrieTells", spec := "trieTells", unfollowed := true, recurses := true, plainKeys := false, apart := false }
def TrieTellsSaid : Prop := trieTellsRow.holds Try.pinned (OpenSpec.ofChange trieTellsSpec)

/-- ITS FALSE NEIGHBOUR: 'it returns false'. Refute it at one input. -/
def trieTellsWrong : ChangeSpec := { name := "trieTells", fn := fun _ => fun
  | [d1, d2, d3] => { results := [.lit (.bool false)], args := [d1, d2, d3] }
  | _ => none }
def TrieTellsWrongFalsely : Prop := trieTellsRow.holds Try.pinned (OpenSpec.ofChange trieTellsWrong)

/-- 'bafflelaw15.TrieSmall': WHATEVER THE INPUT: true; the input reads as it did. -/
def trieSmallSpec : ChangeSpec := { name := "trieSmall", fn := fun _ => fun
  | [] => { results := [.lit (.bool true)], args := [] }
  | _ => none }
def trieSmallRow : OpenClaim := { program := "ytmcfmhiadlkglaa", sum := "5544b28d0e0d8bb51c7b8cf01c8997c157dc4f3ad3cac5f0408a4d40d43106e8", func := "baffle/bafflelaw15.TrieSmall", spec := "trieSmall", unfollowed := true, recurses := true, plainKeys := false, apart := false }
def TrieSmallSaid : Prop := trieSmallRow.holds Try.pinned (OpenSpec.ofChange trieSmallSpec)

/-- ITS FALSE NEIGHBOUR: 'it returns false'. Refute it at one input. -/
def trieSmallWrong : ChangeSpec := { name := "trieSmall", fn := fun _ => fun
  | [] => { results := [.lit (.bool false)], args := [] }
  | _ => none }
def TrieSmallWrongFalsely : Prop := trieSmallRow.holds Try.pinned (OpenSpec.ofChange trieSmallWrong)

/-- 'bafflelaw15.TrieSteps': WHATEVER THE INPUT: true; the input reads as it did. -/
def trieStepsSpec : ChangeSpec := { name := "trieSteps", fn := fun _ => fun
  | [d1, d2, d3] => { results := [.lit (.bool true)], args := [d1, d2, d3] }
  | _ => none }
def trieStepsRow : OpenClaim := { program := "ytmcfmhiadlkglaa", sum := "5544b28d0e0d8bb51c7b8cf01c8997c157dc4f3ad3cac5f0408a4d40d43106e8", func := "baffle/bafflelaw15.TrieSteps", spec := "trieSteps", unfollowed := true, recurses := true, plainKeys := false, apart := false }
def TrieStepsSaid : Prop := trieStepsRow.holds Try.pinned (OpenSpec.ofChange trieStepsSpec)

/-- ITS FALSE NEIGHBOUR: 'it returns false'. Refute it at one input. -/
def trieStepsWrong : ChangeSpec := { name := "trieSteps", fn := fun _ => fun
  | [d1, d2, d3] => { results := [.lit (.bool false)], args := [d1, d2, d3] }
  | _ => none }
def TrieStepsWrongFalsely : Prop := trieStepsRow.holds Try.pinned (OpenSpec.ofChange trieStepsWrong)

/- THE SECOND FORM. 'bulk': how many values and letters a reading holds, each counted each time it is reached (what is shared counts as often as it is met; a slice's spare places count too). A statement '..UptoSaid' is the law's where the arguments, and the package variables that the reading takes, are together of bulk at most 1048576: NARROWER than '..Said'. Prove '..Said' where nothing that the law and all that it calls make is longer than what came in: it says more and counts as full. Else prove '..UptoSaid'. A law counts once. -/
mutual
def uptoBulk {H : Type} : DataW H → Nat
  | .lit (.string bytes) => bytes.length + 1
  | .lit _ => 1
  | .nil => 1
  | .ptr d => uptoBulk d + 1
  | .slice elems spare => uptoBulkAll elems + uptoBulkAll spare + 1
  | .agg parts => uptoBulkAll parts + 1
  | .iface _ d => uptoBulk d + 1
  | .map entries => uptoBulkEntries entries + 1
  | .held _ => 1
def uptoBulkAll {H : Type} : List (DataW H) → Nat
  | [] => 0
  | d :: r => uptoBulk d + uptoBulkAll r
def uptoBulkEntries {H : Type} : List (Lit × DataW H) → Nat
  | [] => 0
  | x :: r => uptoBulkEntry x + uptoBulkEntries r
def uptoBulkEntry {H : Type} : Lit × DataW H → Nat
  | (.string bytes, d) => bytes.length + uptoBulk d + 1
  | (_, d) => uptoBulk d + 1
 end
def uptoSmall : (H : Type) → List (DataW H) → Bool := fun _ ds => decide (uptoBulkAll ds ≤ 1048576)
def OpenSpec.upto (s : _root_.Go.ChangeSpec) : _root_.Go.OpenSpec := { _root_.Go.OpenSpec.ofChange s with cond := some uptoSmall }

/-- 'bafflelaw15.TrieMap', WHERE WHAT IT READS IS OF BULK AT MOST 1048576: true; the input reads as it did. -/
def trieMapUptoRow : OpenClaim := { program := "ytmcfmhiadlkglaa", sum := "5544b28d0e0d8bb51c7b8cf01c8997c157dc4f3ad3cac5f0408a4d40d43106e8", func := "baffle/bafflelaw15.TrieMap", spec := "trieMap", unfollowed := true, recurses := true, plainKeys := false, apart := false, narrowed := true }
def TrieMapUptoSaid : Prop := trieMapUptoRow.holds Try.pinned (OpenSpec.upto trieMapSpec)

/-- 'bafflelaw15.TrieFull', WHERE WHAT IT READS IS OF BULK AT MOST 1048576: true; the input reads as it did. -/
def trieFullUptoRow : OpenClaim := { program := "ytmcfmhiadlkglaa", sum := "5544b28d0e0d8bb51c7b8cf01c8997c157dc4f3ad3cac5f0408a4d40d43106e8", func := "baffle/bafflelaw15.TrieFull", spec := "trieFull", unfollowed := true, recurses := true, plainKeys := false, apart := false, narrowed := true }
def TrieFullUptoSaid : Prop := trieFullUptoRow.holds Try.pinned (OpenSpec.upto trieFullSpec)

/-- 'bafflelaw15.TrieOrder', WHERE WHAT IT READS IS OF BULK AT MOST 1048576: true; the input reads as it did. -/
def trieOrderUptoRow : OpenClaim := { program := "ytmcfmhiadlkglaa", sum := "5544b28d0e0d8bb51c7b8cf01c8997c157dc4f3ad3cac5f0408a4d40d43106e8", func := "baffle/bafflelaw15.TrieOrder", spec := "trieOrder", unfollowed := true, recurses := true, plainKeys := false, apart := false, narrowed := true }
def TrieOrderUptoSaid : Prop := trieOrderUptoRow.holds Try.pinned (OpenSpec.upto trieOrderSpec)

/-- 'bafflelaw15.TrieUnder', WHERE WHAT IT READS IS OF BULK AT MOST 1048576: true; the input reads as it did. -/
def trieUnderUptoRow : OpenClaim := { program := "ytmcfmhiadlkglaa", sum := "5544b28d0e0d8bb51c7b8cf01c8997c157dc4f3ad3cac5f0408a4d40d43106e8", func := "baffle/bafflelaw15.TrieUnder", spec := "trieUnder", unfollowed := true, recurses := true, plainKeys := false, apart := false, narrowed := true }
def TrieUnderUptoSaid : Prop := trieUnderUptoRow.holds Try.pinned (OpenSpec.upto trieUnderSpec)

/-- 'bafflelaw15.TrieTells', WHERE WHAT IT READS IS OF BULK AT MOST 1048576: true; the input reads as it did. -/
def trieTellsUptoRow : OpenClaim := { program := "ytmcfmhiadlkglaa", sum := "5544b28d0e0d8bb51c7b8cf01c8997c157dc4f3ad3cac5f0408a4d40d43106e8", func := "baffle/bafflelaw15.TrieTells", spec := "trieTells", unfollowed := true, recurses := true, plainKeys := false, apart := false, narrowed := true }
def TrieTellsUptoSaid : Prop := trieTellsUptoRow.holds Try.pinned (OpenSpec.upto trieTellsSpec)

/-- 'bafflelaw15.TrieSmall', WHERE WHAT IT READS IS OF BULK AT MOST 1048576: true; the input reads as it did. -/
def trieSmallUptoRow : OpenClaim := { program := "ytmcfmhiadlkglaa", sum := "5544b28d0e0d8bb51c7b8cf01c8997c157dc4f3ad3cac5f0408a4d40d43106e8", func := "baffle/bafflelaw15.TrieSmall", spec := "trieSmall", unfollowed := true, recurses := true, plainKeys := false, apart := false, narrowed := true }
def TrieSmallUptoSaid : Prop := trieSmallUptoRow.holds Try.pinned (OpenSpec.upto trieSmallSpec)

/-- 'bafflelaw15.TrieSteps', WHERE WHAT IT READS IS OF BULK AT MOST 1048576: true; the input reads as it did. -/
def trieStepsUptoRow : OpenClaim := { program := "ytmcfmhiadlkglaa", sum := "5544b28d0e0d8bb51c7b8cf01c8997c157dc4f3ad3cac5f0408a4d40d43106e8", func := "baffle/bafflelaw15.TrieSteps", spec := "trieSteps", unfollowed := true, recurses := true, plainKeys := false, apart := false, narrowed := true }
def TrieStepsUptoSaid : Prop := trieStepsUptoRow.holds Try.pinned (OpenSpec.upto trieStepsSpec)

end Rows
end Go.Proofs.Ytmcfmhiadlkglaa
