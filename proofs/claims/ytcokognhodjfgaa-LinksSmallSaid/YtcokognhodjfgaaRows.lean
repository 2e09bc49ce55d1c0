/-
  No cell of these rows narrows 'for every input' (looked for: loops, veiled, ifaces, maps, wideKeys, modest, calm, conditions, laid).
  DERIVED. THE GIVEN ROWS OF THIS SEAT. 6 by the template 'for every input the law returns true; each argument reads behind the call as it read before'; 0 by the template 'total and deterministic' (their statements: YtcokognhodjfgaaTotals.lean).
  GIVEN WITH THE SEED: the statements are not yours to turn. If you find one false, say at which input.
  Laid BY PROGRAM, IN A SANDBOX (cutbox-rows.mjs): the forced cells as the released guide's own fill.sh prints them over the translation 556e9205a560cd94… (all of the seat's roots in one cut). By AI agents, Wed Nov 11 2026. No macro, syntax, notation, axiom, sorry.
-/
import Derived.Test.YtcokognhodjfgaaChecked
import GoSem.Claim
import GoSem.ClaimJoined
import GoSem.ClaimMapViews
import Derived.JoinedTies
import Derived.KernelRfl
namespace Go.Proofs.Ytcokognhodjfgaa
/- THE CELL 'sum', in the pinned program and in every row, IS THE sha256 OF THE DUMP (.gsa) THAT YtcokognhodjfgaaProg.lean LOADS. Nothing in Lean hashes anything: it is a label: what it is worth is what the hold of that sum in a sandbox is worth. -/
noncomputable def Try.pinned : Pinned := { name := "ytcokognhodjfgaa", sum := "556e9205a560cd9428e23ea571c22e6de57649d7b1b559cc3f58e3c8d339c744", checked := Try.checked }
namespace Rows
def none {H : Type} : Left H := { results := [], args := [] }

/-- 'bafflelaw14.LinksBack': WHATEVER THE INPUT: true; the input reads as it did. -/
def linksBackSpec : ChangeSpec := { name := "linksBack", fn := fun _ => fun
  | [d1, d2, d3, d4, d5] => { results := [.lit (.bool true)], args := [d1, d2, d3, d4, d5] }
  | _ => none }
def linksBackRow : OpenClaim := { program := "ytcokognhodjfgaa", sum := "556e9205a560cd9428e23ea571c22e6de57649d7b1b559cc3f58e3c8d339c744", func := "baffle/bafflelaw14.LinksBack", spec := "linksBack", unfollowed := true, recurses := true, apart := false }
def LinksBackSaid : Prop := linksBackRow.holds Try.pinned (OpenSpec.ofChange linksBackSpec)

/-- ITS FALSE NEIGHBOUR: 'it returns false'. Refute it at one input. -/
def linksBackWrong : ChangeSpec := { name := "linksBack", fn := fun _ => fun
  | [d1, d2, d3, d4, d5] => { results := [.lit (.bool false)], args := [d1, d2, d3, d4, d5] }
  | _ => none }
def LinksBackWrongFalsely : Prop := linksBackRow.holds Try.pinned (OpenSpec.ofChange linksBackWrong)

/-- 'bafflelaw14.LinksTells': WHATEVER THE INPUT: true; the input reads as it did. -/
def linksTellsSpec : ChangeSpec := { name := "linksTells", fn := fun _ => fun
  | [d1, d2, d3, d4] => { results := [.lit (.bool true)], args := [d1, d2, d3, d4] }
  | _ => none }
def linksTellsRow : OpenClaim := { program := "ytcokognhodjfgaa", sum := "556e9205a560cd9428e23ea571c22e6de57649d7b1b559cc3f58e3c8d339c744", func := "baffle/bafflelaw14.LinksTells", spec := "linksTells", unfollowed := true, recurses := true, apart := false }
def LinksTellsSaid : Prop := linksTellsRow.holds Try.pinned (OpenSpec.ofChange linksTellsSpec)

/-- ITS FALSE NEIGHBOUR: 'it returns false'. Refute it at one input. -/
def linksTellsWrong : ChangeSpec := { name := "linksTells", fn := fun _ => fun
  | [d1, d2, d3, d4] => { results := [.lit (.bool false)], args := [d1, d2, d3, d4] }
  | _ => none }
def LinksTellsWrongFalsely : Prop := linksTellsRow.holds Try.pinned (OpenSpec.ofChange linksTellsWrong)

/-- 'bafflelaw14.LinksSmall': WHATEVER THE INPUT: true; the input reads as it did. -/
def linksSmallSpec : ChangeSpec := { name := "linksSmall", fn := fun _ => fun
  | [] => { results := [.lit (.bool true)], args := [] }
  | _ => none }
def linksSmallRow : OpenClaim := { program := "ytcokognhodjfgaa", sum := "556e9205a560cd9428e23ea571c22e6de57649d7b1b559cc3f58e3c8d339c744", func := "baffle/bafflelaw14.LinksSmall", spec := "linksSmall", unfollowed := true, recurses := true, apart := false }
def LinksSmallSaid : Prop := linksSmallRow.holds Try.pinned (OpenSpec.ofChange linksSmallSpec)

/-- ITS FALSE NEIGHBOUR: 'it returns false'. Refute it at one input. -/
def linksSmallWrong : ChangeSpec := { name := "linksSmall", fn := fun _ => fun
  | [] => { results := [.lit (.bool false)], args := [] }
  | _ => none }
def LinksSmallWrongFalsely : Prop := linksSmallRow.holds Try.pinned (OpenSpec.ofChange linksSmallWrong)

/-- 'bafflelaw14.LinksWhole': WHATEVER THE INPUT: true; the input reads as it did. -/
def linksWholeSpec : ChangeSpec := { name := "linksWhole", fn := fun _ => fun
  | [d1, d2, d3] => { results := [.lit (.bool true)], args := [d1, d2, d3] }
  | _ => none }
def linksWholeRow : OpenClaim := { program := "ytcokognhodjfgaa", sum := "556e9205a560cd9428e23ea571c22e6de57649d7b1b559cc3f58e3c8d339c744", func := "baffle/bafflelaw14.LinksWhole", spec := "linksWhole", unfollowed := true, recurses := true, apart := false }
def LinksWholeSaid : Prop := linksWholeRow.holds Try.pinned (OpenSpec.ofChange linksWholeSpec)

/-- ITS FALSE NEIGHBOUR: 'it returns false'. Refute it at one input. -/
def linksWholeWrong : ChangeSpec := { name := "linksWhole", fn := fun _ => fun
  | [d1, d2, d3] => { results := [.lit (.bool false)], args := [d1, d2, d3] }
  | _ => none }
def LinksWholeWrongFalsely : Prop := linksWholeRow.holds Try.pinned (OpenSpec.ofChange linksWholeWrong)

/-- 'bafflelaw14.LinksJoined': WHATEVER THE INPUT: true; the input reads as it did. -/
def linksJoinedSpec : ChangeSpec := { name := "linksJoined", fn := fun _ => fun
  | [d] => { results := [.lit (.bool true)], args := [d] }
  | _ => none }
def linksJoinedRow : OpenClaim := { program := "ytcokognhodjfgaa", sum := "556e9205a560cd9428e23ea571c22e6de57649d7b1b559cc3f58e3c8d339c744", func := "baffle/bafflelaw14.LinksJoined", spec := "linksJoined", unfollowed := true, recurses := true, apart := false }
def LinksJoinedSaid : Prop := linksJoinedRow.holds Try.pinned (OpenSpec.ofChange linksJoinedSpec)

/-- ITS FALSE NEIGHBOUR: 'it returns false'. Refute it at one input. -/
def linksJoinedWrong : ChangeSpec := { name := "linksJoined", fn := fun _ => fun
  | [d] => { results := [.lit (.bool false)], args := [d] }
  | _ => none }
def LinksJoinedWrongFalsely : Prop := linksJoinedRow.holds Try.pinned (OpenSpec.ofChange linksJoinedWrong)

/-- 'bafflelaw14.LinksWrong': WHATEVER THE INPUT: true; the input reads as it did. -/
def linksWrongSpec : ChangeSpec := { name := "linksWrong", fn := fun _ => fun
  | [d1, d2, d3] => { results := [.lit (.bool true)], args := [d1, d2, d3] }
  | _ => none }
def linksWrongRow : OpenClaim := { program := "ytcokognhodjfgaa", sum := "556e9205a560cd9428e23ea571c22e6de57649d7b1b559cc3f58e3c8d339c744", func := "baffle/bafflelaw14.LinksWrong", spec := "linksWrong", unfollowed := true, recurses := true, apart := false }
def LinksWrongSaid : Prop := linksWrongRow.holds Try.pinned (OpenSpec.ofChange linksWrongSpec)

/-- ITS FALSE NEIGHBOUR: 'it returns false'. Refute it at one input. -/
def linksWrongWrong : ChangeSpec := { name := "linksWrong", fn := fun _ => fun
  | [d1, d2, d3] => { results := [.lit (.bool false)], args := [d1, d2, d3] }
  | _ => none }
def LinksWrongWrongFalsely : Prop := linksWrongRow.holds Try.pinned (OpenSpec.ofChange linksWrongWrong)

/- THE SECOND FORM. 'bulk': how many values and letters a reading holds, each counted each time it is reached (what is shared counts as often as it is met; a slice's spare places count too). A statement '..UptoSaid' is the law's where the arguments, and the package variables that the reading takes, are together of bulk at most 1048576: NARROWER than '..Said'. Prove '..Said' where nothing that the law and all that it calls make is longer than what came in: it says more and counts as full. Else prove '..UptoSaid'. A law counts once. -/
mutual
def uptoBulk {H : Type} : DataW H → Nat
  | .lit (.string bytes) => bytes.length + 1
  | .lit _ => 1
  | .nil => 1
  | .ptr d => uptoBulk d + 1
  | .slice elems spare => uptoBulkAll elems + uptoBulkAll spare + 1
  | .agg parts => uptoBulkAll parts + 1
  | .iface _ d => uptoBulk d + 1
  | .map entries => uptoBulkEntries entries + 1
  | .held _ => 1
def uptoBulkAll {H : Type} : List (DataW H) → Nat
  | [] => 0
  | d :: r => uptoBulk d + uptoBulkAll r
def uptoBulkEntries {H : Type} : List (Lit × DataW H) → Nat
  | [] => 0
  | x :: r => uptoBulkEntry x + uptoBulkEntries r
def uptoBulkEntry {H : Type} : Lit × DataW H → Nat
  | (.string bytes, d) => bytes.length + uptoBulk d + 1
  | (_, d) => uptoBulk d + 1
 end
def uptoSmall : (H : Type) → List (DataW H) → Bool := fun _ ds => decide (uptoBulkAll ds ≤ 1048576)
def OpenSpec.upto (s : _root_.Go.ChangeSpec) : _root_.Go.OpenSpec := { _root_.Go.OpenSpec.ofChange s with cond := some uptoSmall }

/-- 'bafflelaw14.LinksBack', WHERE WHAT IT READS IS OF BULK AT MOST 1048576: true; the input reads as it did. -/
def linksBackUptoRow : OpenClaim := { program := "ytcokognhodjfgaa", sum := "556e9205a560cd9428e23ea571c22e6de57649d7b1b559cc3f58e3c8d339c744", func := "baffle/bafflelaw14.LinksBack", spec := "linksBack", unfollowed := true, recurses := true, apart := false, narrowed := true }
def LinksBackUptoSaid : Prop := linksBackUptoRow.holds Try.pinned (OpenSpec.upto linksBackSpec)

/-- 'bafflelaw14.LinksTells', WHERE WHAT IT READS IS OF BULK AT MOST 1048576: true; the input reads as it did. -/
def linksTellsUptoRow : OpenClaim := { program := "ytcokognhodjfgaa", sum := "556e9205a560cd9428e23ea571c22e6de57649d7b1b559cc3f58e3c8d339c744", func := "baffle/bafflelaw14.LinksTells", spec := "linksTells", unfollowed := true, recurses := true, apart := false, narrowed := true }
def LinksTellsUptoSaid : Prop := linksTellsUptoRow.holds Try.pinned (OpenSpec.upto linksTellsSpec)

/-- 'bafflelaw14.LinksSmall', WHERE WHAT IT READS IS OF BULK AT MOST 1048576: true; the input reads as it did. -/
def linksSmallUptoRow : OpenClaim := { program := "ytcokognhodjfgaa", sum := "556e9205a560cd9428e23ea571c22e6de57649d7b1b559cc3f58e3c8d339c744", func := "baffle/bafflelaw14.LinksSmall", spec := "linksSmall", unfollowed := true, recurses := true, apart := false, narrowed := true }
def LinksSmallUptoSaid : Prop := linksSmallUptoRow.holds Try.pinned (OpenSpec.upto linksSmallSpec)

/-- 'bafflelaw14.LinksWhole', WHERE WHAT IT READS IS OF BULK AT MOST 1048576: true; the input reads as it did. -/
def linksWholeUptoRow : OpenClaim := { program := "ytcokognhodjfgaa", sum := "556e9205a560cd9428e23ea571c22e6de57649d7b1b559cc3f58e3c8d339c744", func := "baffle/bafflelaw14.LinksWhole", spec := "linksWhole", unfollowed := true, recurses := true, apart := false, narrowed := true }
def LinksWholeUptoSaid : Prop := linksWholeUptoRow.holds Try.pinned (OpenSpec.upto linksWholeSpec)

/-- 'bafflelaw14.LinksJoined', WHERE WHAT IT READS IS OF BULK AT MOST 1048576: true; the input reads as it did. -/
def linksJoinedUptoRow : OpenClaim := { program := "ytcokognhodjfgaa", sum := "556e9205a560cd9428e23ea571c22e6de57649d7b1b559cc3f58e3c8d339c744", func := "baffle/bafflelaw14.LinksJoined", spec := "linksJoined", unfollowed := true, recurses := true, apart := false, narrowed := true }
def LinksJoinedUptoSaid : Prop := linksJoinedUptoRow.holds Try.pinned (OpenSpec.upto linksJoinedSpec)

/-- 'bafflelaw14.LinksWrong', WHERE WHAT IT READS IS OF BULK AT MOST 1048576: true; the input reads as it did. -/
def linksWrongUptoRow : OpenClaim := { program := "ytcokognhodjfgaa", sum := "556e9205a560cd9428e23ea571c22e6de57649d7b1b559cc3f58e3c8d339c744", func := "baffle/bafflelaw14.LinksWrong", spec := "linksWrong", unfollowed := true, recurses := true, apart := false, narrowed := true }
def LinksWrongUptoSaid : Prop := linksWrongUptoRow.holds Try.pinned (OpenSpec.upto linksWrongSpec)

end Rows
end Go.Proofs.Ytcokognhodjfgaa
