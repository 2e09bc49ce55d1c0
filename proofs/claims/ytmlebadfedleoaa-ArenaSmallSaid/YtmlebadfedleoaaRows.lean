/-
  No cell of these rows narrows 'for every input' (looked for: loops, veiled, ifaces, maps, wideKeys, modest, calm, conditions, laid).
  DERIVED. THE GIVEN ROWS OF THIS SEAT. 6 by the template 'for every input the law returns true; each argument reads behind the call as it read before'; 0 by the template 'total and deterministic' (their statements: YtmlebadfedleoaaTotals.lean).
  GIVEN WITH THE SEED: the statements are not yours to turn. If you find one false, say at which input.
  Laid BY PROGRAM, IN A SANDBOX (cutbox-rows.mjs): the forced cells as the released guide's own fill.sh prints them over the translation cf01de5d0ed3fa1e… (all of the seat's roots in one cut). By AI agents, Wed Nov 11 2026. No macro, syntax, notation, axiom, sorry.
-/
import Derived.Test.YtmlebadfedleoaaChecked
import GoSem.Claim
import GoSem.ClaimJoined
import GoSem.ClaimMapViews
import Derived.JoinedTies
import Derived.KernelRfl
namespace Go.Proofs.Ytmlebadfedleoaa
/- THE CELL 'sum', in the pinned program and in every row, IS THE sha256 OF THE DUMP (.gsa) THAT YtmlebadfedleoaaProg.lean LOADS. Nothing in Lean hashes anything: it is a label: what it is worth is what the hold of that sum in a sandbox is worth. -/
noncomputable def Try.pinned : Pinned := { name := "ytmlebadfedleoaa", sum := "cf01de5d0ed3fa1e73dd0d50c9e081048dd8e8b7a99a7d0706a8a6920c948bc3", checked := Try.checked }
namespace Rows
def none {H : Type} : Left H := { results := [], args := [] }

/-- 'bafflelaw13.ArenaLast': WHATEVER THE INPUT: true; the input reads as it did. -/
def arenaLastSpec : ChangeSpec := { name := "arenaLast", fn := fun _ => fun
  | [d1, d2] => { results := [.lit (.bool true)], args := [d1, d2] }
  | _ => none }
def arenaLastRow : OpenClaim := { program := "ytmlebadfedleoaa", sum := "cf01de5d0ed3fa1e73dd0d50c9e081048dd8e8b7a99a7d0706a8a6920c948bc3", func := "baffle/bafflelaw13.ArenaLast", spec := "arenaLast", unfollowed := true, recurses := true, apart := false }
def ArenaLastSaid : Prop := arenaLastRow.holds Try.pinned (OpenSpec.ofChange arenaLastSpec)

/-- ITS FALSE NEIGHBOUR: 'it returns false'. Refute it at one input. -/
def arenaLastWrong : ChangeSpec := { name := "arenaLast", fn := fun _ => fun
  | [d1, d2] => { results := [.lit (.bool false)], args := [d1, d2] }
  | _ => none }
def ArenaLastWrongFalsely : Prop := arenaLastRow.holds Try.pinned (OpenSpec.ofChange arenaLastWrong)

/-- 'bafflelaw13.ArenaWrong': WHATEVER THE INPUT: true; the input reads as it did. -/
def arenaWrongSpec : ChangeSpec := { name := "arenaWrong", fn := fun _ => fun
  | [d1, d2, d3] => { results := [.lit (.bool true)], args := [d1, d2, d3] }
  | _ => none }
def arenaWrongRow : OpenClaim := { program := "ytmlebadfedleoaa", sum := "cf01de5d0ed3fa1e73dd0d50c9e081048dd8e8b7a99a7d0706a8a6920c948bc3", func := "baffle/bafflelaw13.ArenaWrong", spec := "arenaWrong", unfollowed := true, recurses := true, apart := false }
def ArenaWrongSaid : Prop := arenaWrongRow.holds Try.pinned (OpenSpec.ofChange arenaWrongSpec)

/-- ITS FALSE NEIGHBOUR: 'it returns false'. Refute it at one input. -/
def arenaWrongWrong : ChangeSpec := { name := "arenaWrong", fn := fun _ => fun
  | [d1, d2, d3] => { results := [.lit (.bool false)], args := [d1, d2, d3] }
  | _ => none }
def ArenaWrongWrongFalsely : Prop := arenaWrongRow.holds Try.pinned (OpenSpec.ofChange arenaWrongWrong)

/-- 'bafflelaw13.ArenaSafe': WHATEVER THE INPUT: true; the input reads as it did. -/
def arenaSafeSpec : ChangeSpec := { name := "arenaSafe", fn := fun _ => fun
  | [d1, d2] => { results := [.lit (.bool true)], args := [d1, d2] }
  | _ => none }
def arenaSafeRow : OpenClaim := { program := "ytmlebadfedleoaa", sum := "cf01de5d0ed3fa1e73dd0d50c9e081048dd8e8b7a99a7d0706a8a6920c948bc3", func := "baffle/bafflelaw13.ArenaSafe", spec := "arenaSafe", unfollowed := true, recurses := true, apart := false }
def ArenaSafeSaid : Prop := arenaSafeRow.holds Try.pinned (OpenSpec.ofChange arenaSafeSpec)

/-- ITS FALSE NEIGHBOUR: 'it returns false'. Refute it at one input. -/
def arenaSafeWrong : ChangeSpec := { name := "arenaSafe", fn := fun _ => fun
  | [d1, d2] => { results := [.lit (.bool false)], args := [d1, d2] }
  | _ => none }
def ArenaSafeWrongFalsely : Prop := arenaSafeRow.holds Try.pinned (OpenSpec.ofChange arenaSafeWrong)

/-- 'bafflelaw13.ArenaClear': WHATEVER THE INPUT: true; the input reads as it did. -/
def arenaClearSpec : ChangeSpec := { name := "arenaClear", fn := fun _ => fun
  | [d1, d2, d3] => { results := [.lit (.bool true)], args := [d1, d2, d3] }
  | _ => none }
def arenaClearRow : OpenClaim := { program := "ytmlebadfedleoaa", sum := "cf01de5d0ed3fa1e73dd0d50c9e081048dd8e8b7a99a7d0706a8a6920c948bc3", func := "baffle/bafflelaw13.ArenaClear", spec := "arenaClear", unfollowed := true, recurses := true, apart := false }
def ArenaClearSaid : Prop := arenaClearRow.holds Try.pinned (OpenSpec.ofChange arenaClearSpec)

/-- ITS FALSE NEIGHBOUR: 'it returns false'. Refute it at one input. -/
def arenaClearWrong : ChangeSpec := { name := "arenaClear", fn := fun _ => fun
  | [d1, d2, d3] => { results := [.lit (.bool false)], args := [d1, d2, d3] }
  | _ => none }
def ArenaClearWrongFalsely : Prop := arenaClearRow.holds Try.pinned (OpenSpec.ofChange arenaClearWrong)

/-- 'bafflelaw13.ArenaTells': WHATEVER THE INPUT: true; the input reads as it did. -/
def arenaTellsSpec : ChangeSpec := { name := "arenaTells", fn := fun _ => fun
  | [d1, d2] => { results := [.lit (.bool true)], args := [d1, d2] }
  | _ => none }
def arenaTellsRow : OpenClaim := { program := "ytmlebadfedleoaa", sum := "cf01de5d0ed3fa1e73dd0d50c9e081048dd8e8b7a99a7d0706a8a6920c948bc3", func := "baffle/bafflelaw13.ArenaTells", spec := "arenaTells", unfollowed := true, recurses := true, apart := false }
def ArenaTellsSaid : Prop := arenaTellsRow.holds Try.pinned (OpenSpec.ofChange arenaTellsSpec)

/-- ITS FALSE NEIGHBOUR: 'it returns false'. Refute it at one input. -/
def arenaTellsWrong : ChangeSpec := { name := "arenaTells", fn := fun _ => fun
  | [d1, d2] => { results := [.lit (.bool false)], args := [d1, d2] }
  | _ => none }
def ArenaTellsWrongFalsely : Prop := arenaTellsRow.holds Try.pinned (OpenSpec.ofChange arenaTellsWrong)

/-- 'bafflelaw13.ArenaSmall': WHATEVER THE INPUT: true; the input reads as it did. -/
def arenaSmallSpec : ChangeSpec := { name := "arenaSmall", fn := fun _ => fun
  | [] => { results := [.lit (.bool true)], args := [] }
  | _ => none }
def arenaSmallRow : OpenClaim := { program := "ytmlebadfedleoaa", sum := "cf01de5d0ed3fa1e73dd0d50c9e081048dd8e8b7a99a7d0706a8a6920c948bc3", func := "baffle/bafflelaw13.ArenaSmall", spec := "arenaSmall", unfollowed := true, recurses := true, apart := false }
def ArenaSmallSaid : Prop := arenaSmallRow.holds Try.pinned (OpenSpec.ofChange arenaSmallSpec)

/-- ITS FALSE NEIGHBOUR: 'it returns false'. Refute it at one input. -/
def arenaSmallWrong : ChangeSpec := { name := "arenaSmall", fn := fun _ => fun
  | [] => { results := [.lit (.bool false)], args := [] }
  | _ => none }
def ArenaSmallWrongFalsely : Prop := arenaSmallRow.holds Try.pinned (OpenSpec.ofChange arenaSmallWrong)

/- THE SECOND FORM. 'bulk': how many values and letters a reading holds, each counted each time it is reached (what is shared counts as often as it is met; a slice's spare places count too). A statement '..UptoSaid' is the law's where the arguments, and the package variables that the reading takes, are together of bulk at most 1048576: NARROWER than '..Said'. Prove '..Said' where nothing that the law and all that it calls make is longer than what came in: it says more and counts as full. Else prove '..UptoSaid'. A law counts once. -/
mutual
def uptoBulk {H : Type} : DataW H → Nat
  | .lit (.string bytes) => bytes.length + 1
  | .lit _ => 1
  | .nil => 1
  | .ptr d => uptoBulk d + 1
  | .slice elems spare => uptoBulkAll elems + uptoBulkAll spare + 1
  | .agg parts => uptoBulkAll parts + 1
  | .iface _ d => uptoBulk d + 1
  | .map entries => uptoBulkEntries entries + 1
  | .held _ => 1
def uptoBulkAll {H : Type} : List (DataW H) → Nat
  | [] => 0
  | d :: r => uptoBulk d + uptoBulkAll r
def uptoBulkEntries {H : Type} : List (Lit × DataW H) → Nat
  | [] => 0
  | x :: r => uptoBulkEntry x + uptoBulkEntries r
def uptoBulkEntry {H : Type} : Lit × DataW H → Nat
  | (.string bytes, d) => bytes.length + uptoBulk d + 1
  | (_, d) => uptoBulk d + 1
 end
def uptoSmall : (H : Type) → List (DataW H) → Bool := fun _ ds => decide (uptoBulkAll ds ≤ 1048576)
def OpenSpec.upto (s : _root_.Go.ChangeSpec) : _root_.Go.OpenSpec := { _root_.Go.OpenSpec.ofChange s with cond := some uptoSmall }

/-- 'bafflelaw13.ArenaLast', WHERE WHAT IT READS IS OF BULK AT MOST 1048576: true; the input reads as it did. -/
def arenaLastUptoRow : OpenClaim := { program := "ytmlebadfedleoaa", sum := "cf01de5d0ed3fa1e73dd0d50c9e081048dd8e8b7a99a7d0706a8a6920c948bc3", func := "baffle/bafflelaw13.ArenaLast", spec := "arenaLast", unfollowed := true, recurses := true, apart := false, narrowed := true }
def ArenaLastUptoSaid : Prop := arenaLastUptoRow.holds Try.pinned (OpenSpec.upto arenaLastSpec)

/-- 'bafflelaw13.ArenaWrong', WHERE WHAT IT READS IS OF BULK AT MOST 1048576: true; the input reads as it did. -/
def arenaWrongUptoRow : OpenClaim := { program := "ytmlebadfedleoaa", sum := "cf01de5d0ed3fa1e73dd0d50c9e081048dd8e8b7a99a7d0706a8a6920c948bc3", func := "baffle/bafflelaw13.ArenaWrong", spec := "arenaWrong", unfollowed := true, recurses := true, apart := false, narrowed := true }
def ArenaWrongUptoSaid : Prop := arenaWrongUptoRow.holds Try.pinned (OpenSpec.upto arenaWrongSpec)

/-- 'bafflelaw13.ArenaSafe', WHERE WHAT IT READS IS OF BULK AT MOST 1048576: true; the input reads as it did. -/
def arenaSafeUptoRow : OpenClaim := { program := "ytmlebadfedleoaa", sum := "cf01de5d0ed3fa1e73dd0d50c9e081048dd8e8b7a99a7d0706a8a6920c948bc3", func := "baffle/bafflelaw13.ArenaSafe", spec := "arenaSafe", unfollowed := true, recurses := true, apart := false, narrowed := true }
def ArenaSafeUptoSaid : Prop := arenaSafeUptoRow.holds Try.pinned (OpenSpec.upto arenaSafeSpec)

/-- 'bafflelaw13.ArenaClear', WHERE WHAT IT READS IS OF BULK AT MOST 1048576: true; the input reads as it did. -/
def arenaClearUptoRow : OpenClaim := { program := "ytmlebadfedleoaa", sum := "cf01de5d0ed3fa1e73dd0d50c9e081048dd8e8b7a99a7d0706a8a6920c948bc3", func := "baffle/bafflelaw13.ArenaClear", spec := "arenaClear", unfollowed := true, recurses := true, apart := false, narrowed := true }
def ArenaClearUptoSaid : Prop := arenaClearUptoRow.holds Try.pinned (OpenSpec.upto arenaClearSpec)

/-- 'bafflelaw13.ArenaTells', WHERE WHAT IT READS IS OF BULK AT MOST 1048576: true; the input reads as it did. -/
def arenaTellsUptoRow : OpenClaim := { program := "ytmlebadfedleoaa", sum := "cf01de5d0ed3fa1e73dd0d50c9e081048dd8e8b7a99a7d0706a8a6920c948bc3", func := "baffle/bafflelaw13.ArenaTells", spec := "arenaTells", unfollowed := true, recurses := true, apart := false, narrowed := true }
def ArenaTellsUptoSaid : Prop := arenaTellsUptoRow.holds Try.pinned (OpenSpec.upto arenaTellsSpec)

/-- 'bafflelaw13.ArenaSmall', WHERE WHAT IT READS IS OF BULK AT MOST 1048576: true; the input reads as it did. -/
def arenaSmallUptoRow : OpenClaim := { program := "ytmlebadfedleoaa", sum := "cf01de5d0ed3fa1e73dd0d50c9e081048dd8e8b7a99a7d0706a8a6920c948bc3", func := "baffle/bafflelaw13.ArenaSmall", spec := "arenaSmall", unfollowed := true, recurses := true, apart := false, narrowed := true }
def ArenaSmallUptoSaid : Prop := arenaSmallUptoRow.holds Try.pinned (OpenSpec.upto arenaSmallSpec)

end Rows
end Go.Proofs.Ytmlebadfedleoaa
