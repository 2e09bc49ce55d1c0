/-
  No cell of these rows narrows 'for every input' (looked for: loops, veiled, ifaces, maps, wideKeys, modest, calm, conditions, laid).
  DERIVED. THE GIVEN ROWS OF THIS SEAT. 7 by the template 'for every input the law returns true; each argument reads behind the call as it read before'; 0 by the template 'total and deterministic' (their statements: YtojeibjlkbffcaaTotals.lean).
  GIVEN WITH THE SEED: the statements are not yours to turn. If you find one false, say at which input.
  Laid BY PROGRAM, IN A SANDBOX (cutbox-rows.mjs): the forced cells as the released guide's own fill.sh prints them over the translation 4dcdbd3a264dcc7c… (all of the seat's roots in one cut). By AI agents, Wed Nov 11 2026. No macro, syntax, notation, axiom, sorry.
-/
import Derived.Test.YtojeibjlkbffcaaChecked
import GoSem.Claim
import GoSem.ClaimJoined
import GoSem.ClaimMapViews
import Derived.JoinedTies
import Derived.KernelRfl
namespace Go.Proofs.Ytojeibjlkbffcaa
/- THE CELL 'sum', in the pinned program and in every row, IS THE sha256 OF THE DUMP (.gsa) THAT YtojeibjlkbffcaaProg.lean LOADS. Nothing in Lean hashes anything: it is a label: what it is worth is what the hold of that sum in a sandbox is worth. -/
noncomputable def Try.pinned : Pinned := { name := "ytojeibjlkbffcaa", sum := "4dcdbd3a264dcc7c7f3a8128efc66cb5ad84765a3599aea5f7f7bc9359c0581a", checked := Try.checked }
namespace Rows
def none {H : Type} : Left H := { results := [], args := [] }

/-- 'bafflelaw33.LruEmptied': WHATEVER THE INPUT: true; the input reads as it did. -/
def lruEmptiedSpec : ChangeSpec := { name := "lruEmptied", fn := fun _ => fun
  | [d] => { results := [.lit (.bool true)], args := [d] }
  | _ => none }
def lruEmptiedRow : OpenClaim := { program := "ytojeibjlkbffcaa", sum := "4dcdbd3a264dcc7c7f3a8128efc66cb5ad84765a3599aea5f7f7bc9359c0581a", func := "baffle/bafflelaw33.LruEmptied", spec := "lruEmptied", unfollowed := true, recurses := true, apart := false }
def LruEmptiedSaid : Prop := lruEmptiedRow.holds Try.pinned (OpenSpec.ofChange lruEmptiedSpec)

/-- ITS FALSE NEIGHBOUR: 'it returns false'. Refute it at one input. -/
def lruEmptiedWrong : ChangeSpec := { name := "lruEmptied", fn := fun _ => fun
  | [d] => { results := [.lit (.bool false)], args := [d] }
  | _ => none }
def LruEmptiedWrongFalsely : Prop := lruEmptiedRow.holds Try.pinned (OpenSpec.ofChange lruEmptiedWrong)

/-- 'bafflelaw33.LruSince': WHATEVER THE INPUT: true; the input reads as it did. -/
def lruSinceSpec : ChangeSpec := { name := "lruSince", fn := fun _ => fun
  | [d1, d2, d3] => { results := [.lit (.bool true)], args := [d1, d2, d3] }
  | _ => none }
def lruSinceRow : OpenClaim := { program := "ytojeibjlkbffcaa", sum := "4dcdbd3a264dcc7c7f3a8128efc66cb5ad84765a3599aea5f7f7bc9359c0581a", func := "baffle/bafflelaw33.LruSince", spec := "lruSince", unfollowed := true, recurses := true, apart := false }
def LruSinceSaid : Prop := lruSinceRow.holds Try.pinned (OpenSpec.ofChange lruSinceSpec)

/-- ITS FALSE NEIGHBOUR: 'it returns false'. Refute it at one input. -/
def lruSinceWrong : ChangeSpec := { name := "lruSince", fn := fun _ => fun
  | [d1, d2, d3] => { results := [.lit (.bool false)], args := [d1, d2, d3] }
  | _ => none }
def LruSinceWrongFalsely : Prop := lruSinceRow.holds Try.pinned (OpenSpec.ofChange lruSinceWrong)

/-- 'bafflelaw33.LruWrong': WHATEVER THE INPUT: true; the input reads as it did. -/
def lruWrongSpec : ChangeSpec := { name := "lruWrong", fn := fun _ => fun
  | [d1, d2] => { results := [.lit (.bool true)], args := [d1, d2] }
  | _ => none }
def lruWrongRow : OpenClaim := { program := "ytojeibjlkbffcaa", sum := "4dcdbd3a264dcc7c7f3a8128efc66cb5ad84765a3599aea5f7f7bc9359c0581a", func := "baffle/bafflelaw33.LruWrong", spec := "lruWrong", unfollowed := true, recurses := true, apart := false }
def LruWrongSaid : Prop := lruWrongRow.holds Try.pinned (OpenSpec.ofChange lruWrongSpec)

/-- ITS FALSE NEIGHBOUR: 'it returns false'. Refute it at one input. -/
def lruWrongWrong : ChangeSpec := { name := "lruWrong", fn := fun _ => fun
  | [d1, d2] => { results := [.lit (.bool false)], args := [d1, d2] }
  | _ => none }
def LruWrongWrongFalsely : Prop := lruWrongRow.holds Try.pinned (OpenSpec.ofChange lruWrongWrong)

/-- 'bafflelaw33.LruTells': WHATEVER THE INPUT: true; the input reads as it did. -/
def lruTellsSpec : ChangeSpec := { name := "lruTells", fn := fun _ => fun
  | [d1, d2, d3] => { results := [.lit (.bool true)], args := [d1, d2, d3] }
  | _ => none }
def lruTellsRow : OpenClaim := { program := "ytojeibjlkbffcaa", sum := "4dcdbd3a264dcc7c7f3a8128efc66cb5ad84765a3599aea5f7f7bc9359c0581a", func := "baffle/bafflelaw33.LruTells", spec := "lruTells", unfollowed := true, recurses := true, apart := false }
def LruTellsSaid : Prop := lruTellsRow.holds Try.pinned (OpenSpec.ofChange lruTellsSpec)

/-- ITS FALSE NEIGHBOUR: 'it returns false'. Refute it at one input. -/
def lruTellsWrong : ChangeSpec := { name := "lruTells", fn := fun _ => fun
  | [d1, d2, d3] => { results := [.lit (.bool false)], args := [d1, d2, d3] }
  | _ => none }
def LruTellsWrongFalsely : Prop := lruTellsRow.holds Try.pinned (OpenSpec.ofChange lruTellsWrong)

/-- 'bafflelaw33.LruSmall': WHATEVER THE INPUT: true; the input reads as it did. -/
def lruSmallSpec : ChangeSpec := { name := "lruSmall", fn := fun _ => fun
  | [] => { results := [.lit (.bool true)], args := [] }
  | _ => none }
def lruSmallRow : OpenClaim := { program := "ytojeibjlkbffcaa", sum := "4dcdbd3a264dcc7c7f3a8128efc66cb5ad84765a3599aea5f7f7bc9359c0581a", func := "baffle/bafflelaw33.LruSmall", spec := "lruSmall", unfollowed := true, recurses := true, apart := false }
def LruSmallSaid : Prop := lruSmallRow.holds Try.pinned (OpenSpec.ofChange lruSmallSpec)

/-- ITS FALSE NEIGHBOUR: 'it returns false'. Refute it at one input. -/
def lruSmallWrong : ChangeSpec := { name := "lruSmall", fn := fun _ => fun
  | [] => { results := [.lit (.bool false)], args := [] }
  | _ => none }
def LruSmallWrongFalsely : Prop := lruSmallRow.holds Try.pinned (OpenSpec.ofChange lruSmallWrong)

/-- 'bafflelaw33.LruOldest': WHATEVER THE INPUT: true; the input reads as it did. -/
def lruOldestSpec : ChangeSpec := { name := "lruOldest", fn := fun _ => fun
  | [d] => { results := [.lit (.bool true)], args := [d] }
  | _ => none }
def lruOldestRow : OpenClaim := { program := "ytojeibjlkbffcaa", sum := "4dcdbd3a264dcc7c7f3a8128efc66cb5ad84765a3599aea5f7f7bc9359c0581a", func := "baffle/bafflelaw33.LruOldest", spec := "lruOldest", unfollowed := true, recurses := true, apart := false }
def LruOldestSaid : Prop := lruOldestRow.holds Try.pinned (OpenSpec.ofChange lruOldestSpec)

/-- ITS FALSE NEIGHBOUR: 'it returns false'. Refute it at one input. -/
def lruOldestWrong : ChangeSpec := { name := "lruOldest", fn := fun _ => fun
  | [d] => { results := [.lit (.bool false)], args := [d] }
  | _ => none }
def LruOldestWrongFalsely : Prop := lruOldestRow.holds Try.pinned (OpenSpec.ofChange lruOldestWrong)

/-- 'bafflelaw33.LruAgain': WHATEVER THE INPUT: true; the input reads as it did. -/
def lruAgainSpec : ChangeSpec := { name := "lruAgain", fn := fun _ => fun
  | [d1, d2] => { results := [.lit (.bool true)], args := [d1, d2] }
  | _ => none }
def lruAgainRow : OpenClaim := { program := "ytojeibjlkbffcaa", sum := "4dcdbd3a264dcc7c7f3a8128efc66cb5ad84765a3599aea5f7f7bc9359c0581a", func := "baffle/bafflelaw33.LruAgain", spec := "lruAgain", unfollowed := true, recurses := true, apart := false }
def LruAgainSaid : Prop := lruAgainRow.holds Try.pinned (OpenSpec.ofChange lruAgainSpec)

/-- ITS FALSE NEIGHBOUR: 'it returns false'. Refute it at one input. -/
def lruAgainWrong : ChangeSpec := { name := "lruAgain", fn := fun _ => fun
  | [d1, d2] => { results := [.lit (.bool false)], args := [d1, d2] }
  | _ => none }
def LruAgainWrongFalsely : Prop := lruAgainRow.holds Try.pinned (OpenSpec.ofChange lruAgainWrong)

/- THE SECOND FORM. 'bulk': how many values and letters a reading holds, each counted each time it is reached (what is shared counts as often as it is met; a slice's spare places count too). A statement '..UptoSaid' is the law's where the arguments, and the package variables that the reading takes, are together of bulk at most 1048576: NARROWER than '..Said'. Prove '..Said' where nothing that the law and all that it calls make is longer than what came in: it says more and counts as full. Else prove '..UptoSaid'. A law counts once. -/
mutual
def uptoBulk {H : Type} : DataW H → Nat
  | .lit (.string bytes) => bytes.length + 1
  | .lit _ => 1
  | .nil => 1
  | .ptr d => uptoBulk d + 1
  | .slice elems spare => uptoBulkAll elems + uptoBulkAll spare + 1
  | .agg parts => uptoBulkAll parts + 1
  | .iface _ d => uptoBulk d + 1
  | .map entries => uptoBulkEntries entries + 1
  | .held _ => 1
def uptoBulkAll {H : Type} : List (DataW H) → Nat
  | [] => 0
  | d :: r => uptoBulk d + uptoBulkAll r
def uptoBulkEntries {H : Type} : List (Lit × DataW H) → Nat
  | [] => 0
  | x :: r => uptoBulkEntry x + uptoBulkEntries r
def uptoBulkEntry {H : Type} : Lit × DataW H → Nat
  | (.string bytes, d) => bytes.length + uptoBulk d + 1
  | (_, d) => uptoBulk d + 1
 end
def uptoSmall : (H : Type) → List (DataW H) → Bool := fun _ ds => decide (uptoBulkAll ds ≤ 1048576)
def OpenSpec.upto (s : _root_.Go.ChangeSpec) : _root_.Go.OpenSpec := { _root_.Go.OpenSpec.ofChange s with cond := some uptoSmall }

/-- 'bafflelaw33.LruEmptied', WHERE WHAT IT READS IS OF BULK AT MOST 1048576: true; the input reads as it did. -/
def lruEmptiedUptoRow : OpenClaim := { program := "ytojeibjlkbffcaa", sum := "4dcdbd3a264dcc7c7f3a8128efc66cb5ad84765a3599aea5f7f7bc9359c0581a", func := "baffle/bafflelaw33.LruEmptied", spec := "lruEmptied", unfollowed := true, recurses := true, apart := false, narrowed := true }
def LruEmptiedUptoSaid : Prop := lruEmptiedUptoRow.holds Try.pinned (OpenSpec.upto lruEmptiedSpec)

/-- 'bafflelaw33.LruSince', WHERE WHAT IT READS IS OF BULK AT MOST 1048576: true; the input reads as it did. -/
def lruSinceUptoRow : OpenClaim := { program := "ytojeibjlkbffcaa", sum := "4dcdbd3a264dcc7c7f3a8128efc66cb5ad84765a3599aea5f7f7bc9359c0581a", func := "baffle/bafflelaw33.LruSince", spec := "lruSince", unfollowed := true, recurses := true, apart := false, narrowed := true }
def LruSinceUptoSaid : Prop := lruSinceUptoRow.holds Try.pinned (OpenSpec.upto lruSinceSpec)

/-- 'bafflelaw33.LruWrong', WHERE WHAT IT READS IS OF BULK AT MOST 1048576: true; the input reads as it did. -/
def lruWrongUptoRow : OpenClaim := { program := "ytojeibjlkbffcaa", sum := "4dcdbd3a264dcc7c7f3a8128efc66cb5ad84765a3599aea5f7f7bc9359c0581a", func := "baffle/bafflelaw33.LruWrong", spec := "lruWrong", unfollowed := true, recurses := true, apart := false, narrowed := true }
def LruWrongUptoSaid : Prop := lruWrongUptoRow.holds Try.pinned (OpenSpec.upto lruWrongSpec)

/-- 'bafflelaw33.LruTells', WHERE WHAT IT READS IS OF BULK AT MOST 1048576: true; the input reads as it did. -/
def lruTellsUptoRow : OpenClaim := { program := "ytojeibjlkbffcaa", sum := "4dcdbd3a264dcc7c7f3a8128efc66cb5ad84765a3599aea5f7f7bc9359c0581a", func := "baffle/bafflelaw33.LruTells", spec := "lruTells", unfollowed := true, recurses := true, apart := false, narrowed := true }
def LruTellsUptoSaid : Prop := lruTellsUptoRow.holds Try.pinned (OpenSpec.upto lruTellsSpec)

/-- 'bafflelaw33.LruSmall', WHERE WHAT IT READS IS OF BULK AT MOST 1048576: true; the input reads as it did. -/
def lruSmallUptoRow : OpenClaim := { program := "ytojeibjlkbffcaa", sum := "4dcdbd3a264dcc7c7f3a8128efc66cb5ad84765a3599aea5f7f7bc9359c0581a", func := "baffle/bafflelaw33.LruSmall", spec := "lruSmall", unfollowed := true, recurses := true, apart := false, narrowed := true }
def LruSmallUptoSaid : Prop := lruSmallUptoRow.holds Try.pinned (OpenSpec.upto lruSmallSpec)

/-- 'bafflelaw33.LruOldest', WHERE WHAT IT READS IS OF BULK AT MOST 1048576: true; the input reads as it did. -/
def lruOldestUptoRow : OpenClaim := { program := "ytojeibjlkbffcaa", sum := "4dcdbd3a264dcc7c7f3a8128efc66cb5ad84765a3599aea5f7f7bc9359c0581a", func := "baffle/bafflelaw33.LruOldest", spec := "lruOldest", unfollowed := true, recurses := true, apart := false, narrowed := true }
def LruOldestUptoSaid : Prop := lruOldestUptoRow.holds Try.pinned (OpenSpec.upto lruOldestSpec)

/-- 'bafflelaw33.LruAgain', WHERE WHAT IT READS IS OF BULK AT MOST 1048576: true; the input reads as it did. -/
def lruAgainUptoRow : OpenClaim := { program := "ytojeibjlkbffcaa", sum := "4dcdbd3a264dcc7c7f3a8128efc66cb5ad84765a3599aea5f7f7bc9359c0581a", func := "baffle/bafflelaw33.LruAgain", spec := "lruAgain", unfollowed := true, recurses := true, apart := false, narrowed := true }
def LruAgainUptoSaid : Prop := lruAgainUptoRow.holds Try.pinned (OpenSpec.upto lruAgainSpec)

end Rows
end Go.Proofs.Ytojeibjlkbffcaa
