/-
  No cell of these rows narrows 'for every input' (looked for: loops, veiled, ifaces, maps, wideKeys, modest, calm, conditions, laid).
  DERIVED. THE GIVEN ROWS OF THIS SEAT. 7 by the template 'for every input the law returns true; each argument reads behind the call as it read before'; 0 by the template 'total and deterministic' (their statements: YthhndmlfgjcgpaaTotals.lean).
  GIVEN WITH THE SEED: the statements are not yours to turn. If you find one false, say at which input.
  Laid BY PROGRAM, IN A SANDBOX (cutbox-rows.mjs): the forced cells as the released guide's own fill.sh prints them over the translation bb110e617ce82299… (all of the seat's roots in one cut). By AI agents, Wed Nov 11 2026. No macro, syntax, notation, axiom, sorry.
-/
import Derived.Test.YthhndmlfgjcgpaaChecked
import GoSem.Claim
import GoSem.ClaimJoined
import GoSem.ClaimMapViews
import Derived.JoinedTies
import Derived.KernelRfl
namespace Go.Proofs.Ythhndmlfgjcgpaa
/- THE CELL 'sum', in the pinned program and in every row, IS THE sha256 OF THE DUMP (.gsa) THAT YthhndmlfgjcgpaaProg.lean LOADS. Nothing in Lean hashes anything: it is a label: what it is worth is what the hold of that sum in a sandbox is worth. -/
noncomputable def Try.pinned : Pinned := { name := "ythhndmlfgjcgpaa", sum := "bb110e617ce8229985fe455d29dcc6937a17d74ecc638f6f20424ac349d63679", checked := Try.checked }
namespace Rows
def none {H : Type} : Left H := { results := [], args := [] }

/-- 'bafflelaw16.TableMoves': WHATEVER THE INPUT: true; the input reads as it did. -/
def tableMovesSpec : ChangeSpec := { name := "tableMoves", fn := fun _ => fun
  | [d1, d2, d3] => { results := [.lit (.bool true)], args := [d1, d2, d3] }
  | _ => none }
def tableMovesRow : OpenClaim := { program := "ythhndmlfgjcgpaa", sum := "bb110e617ce8229985fe455d29dcc6937a17d74ecc638f6f20424ac349d63679", func := "baffle/bafflelaw16.TableMoves", spec := "tableMoves", unfollowed := true, recurses := true, apart := false }
def TableMovesSaid : Prop := tableMovesRow.holds Try.pinned (OpenSpec.ofChange tableMovesSpec)

/-- ITS FALSE NEIGHBOUR: 'it returns false'. Refute it at one input. -/
def tableMovesWrong : ChangeSpec := { name := "tableMoves", fn := fun _ => fun
  | [d1, d2, d3] => { results := [.lit (.bool false)], args := [d1, d2, d3] }
  | _ => none }
def TableMovesWrongFalsely : Prop := tableMovesRow.holds Try.pinned (OpenSpec.ofChange tableMovesWrong)

/-- 'bafflelaw16.TableTurned': WHATEVER THE INPUT: true; the input reads as it did. -/
def tableTurnedSpec : ChangeSpec := { name := "tableTurned", fn := fun _ => fun
  | [d1, d2] => { results := [.lit (.bool true)], args := [d1, d2] }
  | _ => none }
def tableTurnedRow : OpenClaim := { program := "ythhndmlfgjcgpaa", sum := "bb110e617ce8229985fe455d29dcc6937a17d74ecc638f6f20424ac349d63679", func := "baffle/bafflelaw16.TableTurned", spec := "tableTurned", unfollowed := true, recurses := true, apart := false }
def TableTurnedSaid : Prop := tableTurnedRow.holds Try.pinned (OpenSpec.ofChange tableTurnedSpec)

/-- ITS FALSE NEIGHBOUR: 'it returns false'. Refute it at one input. -/
def tableTurnedWrong : ChangeSpec := { name := "tableTurned", fn := fun _ => fun
  | [d1, d2] => { results := [.lit (.bool false)], args := [d1, d2] }
  | _ => none }
def TableTurnedWrongFalsely : Prop := tableTurnedRow.holds Try.pinned (OpenSpec.ofChange tableTurnedWrong)

/-- 'bafflelaw16.TableFull': WHATEVER THE INPUT: true; the input reads as it did. -/
def tableFullSpec : ChangeSpec := { name := "tableFull", fn := fun _ => fun
  | [d1, d2] => { results := [.lit (.bool true)], args := [d1, d2] }
  | _ => none }
def tableFullRow : OpenClaim := { program := "ythhndmlfgjcgpaa", sum := "bb110e617ce8229985fe455d29dcc6937a17d74ecc638f6f20424ac349d63679", func := "baffle/bafflelaw16.TableFull", spec := "tableFull", unfollowed := true, recurses := true, apart := false }
def TableFullSaid : Prop := tableFullRow.holds Try.pinned (OpenSpec.ofChange tableFullSpec)

/-- ITS FALSE NEIGHBOUR: 'it returns false'. Refute it at one input. -/
def tableFullWrong : ChangeSpec := { name := "tableFull", fn := fun _ => fun
  | [d1, d2] => { results := [.lit (.bool false)], args := [d1, d2] }
  | _ => none }
def TableFullWrongFalsely : Prop := tableFullRow.holds Try.pinned (OpenSpec.ofChange tableFullWrong)

/-- 'bafflelaw16.TableWhole': WHATEVER THE INPUT: true; the input reads as it did. -/
def tableWholeSpec : ChangeSpec := { name := "tableWhole", fn := fun _ => fun
  | [d1, d2, d3, d4] => { results := [.lit (.bool true)], args := [d1, d2, d3, d4] }
  | _ => none }
def tableWholeRow : OpenClaim := { program := "ythhndmlfgjcgpaa", sum := "bb110e617ce8229985fe455d29dcc6937a17d74ecc638f6f20424ac349d63679", func := "baffle/bafflelaw16.TableWhole", spec := "tableWhole", unfollowed := true, recurses := true, apart := false }
def TableWholeSaid : Prop := tableWholeRow.holds Try.pinned (OpenSpec.ofChange tableWholeSpec)

/-- ITS FALSE NEIGHBOUR: 'it returns false'. Refute it at one input. -/
def tableWholeWrong : ChangeSpec := { name := "tableWhole", fn := fun _ => fun
  | [d1, d2, d3, d4] => { results := [.lit (.bool false)], args := [d1, d2, d3, d4] }
  | _ => none }
def TableWholeWrongFalsely : Prop := tableWholeRow.holds Try.pinned (OpenSpec.ofChange tableWholeWrong)

/-- 'bafflelaw16.TableWrong': WHATEVER THE INPUT: true; the input reads as it did. -/
def tableWrongSpec : ChangeSpec := { name := "tableWrong", fn := fun _ => fun
  | [d1, d2, d3, d4] => { results := [.lit (.bool true)], args := [d1, d2, d3, d4] }
  | _ => none }
def tableWrongRow : OpenClaim := { program := "ythhndmlfgjcgpaa", sum := "bb110e617ce8229985fe455d29dcc6937a17d74ecc638f6f20424ac349d63679", func := "baffle/bafflelaw16.TableWrong", spec := "tableWrong", unfollowed := true, recurses := true, apart := false }
def TableWrongSaid : Prop := tableWrongRow.holds Try.pinned (OpenSpec.ofChange tableWrongSpec)

/-- ITS FALSE NEIGHBOUR: 'it returns false'. Refute it at one input. -/
def tableWrongWrong : ChangeSpec := { name := "tableWrong", fn := fun _ => fun
  | [d1, d2, d3, d4] => { results := [.lit (.bool false)], args := [d1, d2, d3, d4] }
  | _ => none }
def TableWrongWrongFalsely : Prop := tableWrongRow.holds Try.pinned (OpenSpec.ofChange tableWrongWrong)

/-- 'bafflelaw16.TableTells': WHATEVER THE INPUT: true; the input reads as it did. -/
def tableTellsSpec : ChangeSpec := { name := "tableTells", fn := fun _ => fun
  | [d1, d2, d3] => { results := [.lit (.bool true)], args := [d1, d2, d3] }
  | _ => none }
def tableTellsRow : OpenClaim := { program := "ythhndmlfgjcgpaa", sum := "bb110e617ce8229985fe455d29dcc6937a17d74ecc638f6f20424ac349d63679", func := "baffle/bafflelaw16.TableTells", spec := "tableTells", unfollowed := true, recurses := true, apart := false }
def TableTellsSaid : Prop := tableTellsRow.holds Try.pinned (OpenSpec.ofChange tableTellsSpec)

/-- ITS FALSE NEIGHBOUR: 'it returns false'. Refute it at one input. -/
def tableTellsWrong : ChangeSpec := { name := "tableTells", fn := fun _ => fun
  | [d1, d2, d3] => { results := [.lit (.bool false)], args := [d1, d2, d3] }
  | _ => none }
def TableTellsWrongFalsely : Prop := tableTellsRow.holds Try.pinned (OpenSpec.ofChange tableTellsWrong)

/-- 'bafflelaw16.TableSmall': WHATEVER THE INPUT: true; the input reads as it did. -/
def tableSmallSpec : ChangeSpec := { name := "tableSmall", fn := fun _ => fun
  | [] => { results := [.lit (.bool true)], args := [] }
  | _ => none }
def tableSmallRow : OpenClaim := { program := "ythhndmlfgjcgpaa", sum := "bb110e617ce8229985fe455d29dcc6937a17d74ecc638f6f20424ac349d63679", func := "baffle/bafflelaw16.TableSmall", spec := "tableSmall", unfollowed := true, recurses := true, apart := false }
def TableSmallSaid : Prop := tableSmallRow.holds Try.pinned (OpenSpec.ofChange tableSmallSpec)

/-- ITS FALSE NEIGHBOUR: 'it returns false'. Refute it at one input. -/
def tableSmallWrong : ChangeSpec := { name := "tableSmall", fn := fun _ => fun
  | [] => { results := [.lit (.bool false)], args := [] }
  | _ => none }
def TableSmallWrongFalsely : Prop := tableSmallRow.holds Try.pinned (OpenSpec.ofChange tableSmallWrong)

/- THE SECOND FORM. 'bulk': how many values and letters a reading holds, each counted each time it is reached (what is shared counts as often as it is met; a slice's spare places count too). A statement '..UptoSaid' is the law's where the arguments, and the package variables that the reading takes, are together of bulk at most 1048576: NARROWER than '..Said'. Prove '..Said' where nothing that the law and all that it calls make is longer than what came in: it says more and counts as full. Else prove '..UptoSaid'. A law counts once. -/
mutual
def uptoBulk {H : Type} : DataW H → Nat
  | .lit (.string bytes) => bytes.length + 1
  | .lit _ => 1
  | .nil => 1
  | .ptr d => uptoBulk d + 1
  | .slice elems spare => uptoBulkAll elems + uptoBulkAll spare + 1
  | .agg parts => uptoBulkAll parts + 1
  | .iface _ d => uptoBulk d + 1
  | .map entries => uptoBulkEntries entries + 1
  | .held _ => 1
def uptoBulkAll {H : Type} : List (DataW H) → Nat
  | [] => 0
  | d :: r => uptoBulk d + uptoBulkAll r
def uptoBulkEntries {H : Type} : List (Lit × DataW H) → Nat
  | [] => 0
  | x :: r => uptoBulkEntry x + uptoBulkEntries r
def uptoBulkEntry {H : Type} : Lit × DataW H → Nat
  | (.string bytes, d) => bytes.length + uptoBulk d + 1
  | (_, d) => uptoBulk d + 1
 end
def uptoSmall : (H : Type) → List (DataW H) → Bool := fun _ ds => decide (uptoBulkAll ds ≤ 1048576)
def OpenSpec.upto (s : _root_.Go.ChangeSpec) : _root_.Go.OpenSpec := { _root_.Go.OpenSpec.ofChange s with cond := some uptoSmall }

/-- 'bafflelaw16.TableMoves', WHERE WHAT IT READS IS OF BULK AT MOST 1048576: true; the input reads as it did. -/
def tableMovesUptoRow : OpenClaim := { program := "ythhndmlfgjcgpaa", sum := "bb110e617ce8229985fe455d29dcc6937a17d74ecc638f6f20424ac349d63679", func := "baffle/bafflelaw16.TableMoves", spec := "tableMoves", unfollowed := true, recurses := true, apart := false, narrowed := true }
def TableMovesUptoSaid : Prop := tableMovesUptoRow.holds Try.pinned (OpenSpec.upto tableMovesSpec)

/-- 'bafflelaw16.TableTurned', WHERE WHAT IT READS IS OF BULK AT MOST 1048576: true; the input reads as it did. -/
def tableTurnedUptoRow : OpenClaim := { program := "ythhndmlfgjcgpaa", sum := "bb110e617ce8229985fe455d29dcc6937a17d74ecc638f6f20424ac349d63679", func := "baffle/bafflelaw16.TableTurned", spec := "tableTurned", unfollowed := true, recurses := true, apart := false, narrowed := true }
def TableTurnedUptoSaid : Prop := tableTurnedUptoRow.holds Try.pinned (OpenSpec.upto tableTurnedSpec)

/-- 'bafflelaw16.TableFull', WHERE WHAT IT READS IS OF BULK AT MOST 1048576: true; the input reads as it did. -/
def tableFullUptoRow : OpenClaim := { program := "ythhndmlfgjcgpaa", sum := "bb110e617ce8229985fe455d29dcc6937a17d74ecc638f6f20424ac349d63679", func := "baffle/bafflelaw16.TableFull", spec := "tableFull", unfollowed := true, recurses := true, apart := false, narrowed := true }
def TableFullUptoSaid : Prop := tableFullUptoRow.holds Try.pinned (OpenSpec.upto tableFullSpec)

/-- 'bafflelaw16.TableWhole', WHERE WHAT IT READS IS OF BULK AT MOST 1048576: true; the input reads as it did. -/
def tableWholeUptoRow : OpenClaim := { program := "ythhndmlfgjcgpaa", sum := "bb110e617ce8229985fe455d29dcc6937a17d74ecc638f6f20424ac349d63679", func := "baffle/bafflelaw16.TableWhole", spec := "tableWhole", unfollowed := true, recurses := true, apart := false, narrowed := true }
def TableWholeUptoSaid : Prop := tableWholeUptoRow.holds Try.pinned (OpenSpec.upto tableWholeSpec)

/-- 'bafflelaw16.TableWrong', WHERE WHAT IT READS IS OF BULK AT MOST 1048576: true; the input reads as it did. -/
def tableWrongUptoRow : OpenClaim := { program := "ythhndmlfgjcgpaa", sum := "bb110e617ce8229985fe455d29dcc6937a17d74ecc638f6f20424ac349d63679", func := "baffle/bafflelaw16.TableWrong", spec := "tableWrong", unfollowed := true, recurses := true, apart := false, narrowed := true }
def TableWrongUptoSaid : Prop := tableWrongUptoRow.holds Try.pinned (OpenSpec.upto tableWrongSpec)

/-- 'bafflelaw16.TableTells', WHERE WHAT IT READS IS OF BULK AT MOST 1048576: true; the input reads as it did. -/
def tableTellsUptoRow : OpenClaim := { program := "ythhndmlfgjcgpaa", sum := "bb110e617ce8229985fe455d29dcc6937a17d74ecc638f6f20424ac349d63679", func := "baffle/bafflelaw16.TableTells", spec := "tableTells", unfollowed := true, recurses := true, apart := false, narrowed := true }
def TableTellsUptoSaid : Prop := tableTellsUptoRow.holds Try.pinned (OpenSpec.upto tableTellsSpec)

/-- 'bafflelaw16.TableSmall', WHERE WHAT IT READS IS OF BULK AT MOST 1048576: true; the input reads as it did. -/
def tableSmallUptoRow : OpenClaim := { program := "ythhndmlfgjcgpaa", sum := "bb110e617ce8229985fe455d29dcc6937a17d74ecc638f6f20424ac349d63679", func := "baffle/bafflelaw16.TableSmall", spec := "tableSmall", unfollowed := true, recurses := true, apart := false, narrowed := true }
def TableSmallUptoSaid : Prop := tableSmallUptoRow.holds Try.pinned (OpenSpec.upto tableSmallSpec)

end Rows
end Go.Proofs.Ythhndmlfgjcgpaa
