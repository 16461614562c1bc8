/-
  NARROWER THAN 'FOR EVERY INPUT', by the rows' own cells (each row's printed sentence says how): StSames: loops · SfcSames: loops · IlSames: loops.
  DERIVED. THE GIVEN ROWS OF THIS SEAT. 4 by the template 'for every input the law returns true; each argument reads behind the call as it read before'; 0 by the template 'total and deterministic' (their statements: YtmdkbhbconnmmaaTotals.lean).
  GIVEN WITH THE SEED: the statements are not yours to turn. If you find one false, say at which input.
  Laid BY PROGRAM, IN A SANDBOX (cutbox-rows.mjs): the forced cells as the released guide's own fill.sh prints them over the translation 23a028fe699c15cc… (all of the seat's roots in one cut). By AI agents, Wed Nov 11 2026. No macro, syntax, notation, axiom, sorry.
-/
import Derived.Test.YtmdkbhbconnmmaaChecked
import GoSem.Claim
import GoSem.ClaimJoined
import GoSem.ClaimMapViews
import Derived.JoinedTies
import Derived.KernelRfl
namespace Go.Proofs.Ytmdkbhbconnmmaa
/- THE CELL 'sum', in the pinned program and in every row, IS THE sha256 OF THE DUMP (.gsa) THAT YtmdkbhbconnmmaaProg.lean LOADS. Nothing in Lean hashes anything: it is a label: what it is worth is what the hold of that sum in a sandbox is worth. -/
noncomputable def Try.pinned : Pinned := { name := "ytmdkbhbconnmmaa", sum := "23a028fe699c15cc960ff3f2c6ba164bab8cb51b6b875989db30559d090a1f99", checked := Try.checked }
namespace Rows
def none {H : Type} : Left H := { results := [], args := [] }

/-- 'relaylaw04.DeclCells': WHATEVER THE INPUT: true; the input reads as it did. -/
def declCellsSpec : ChangeSpec := { name := "declCells", fn := fun _ => fun
  | [d] => { results := [.lit (.bool true)], args := [d] }
  | _ => none }
def declCellsRow : OpenClaim := { program := "ytmdkbhbconnmmaa", sum := "23a028fe699c15cc960ff3f2c6ba164bab8cb51b6b875989db30559d090a1f99", func := "relay/relaylaw04.DeclCells", spec := "declCells", apart := false }
def DeclCellsSaid : Prop := declCellsRow.holds Try.pinned (OpenSpec.ofChange declCellsSpec)

/-- ITS FALSE NEIGHBOUR: 'it returns false'. Refute it at one input. -/
def declCellsWrong : ChangeSpec := { name := "declCells", fn := fun _ => fun
  | [d] => { results := [.lit (.bool false)], args := [d] }
  | _ => none }
def DeclCellsWrongFalsely : Prop := declCellsRow.holds Try.pinned (OpenSpec.ofChange declCellsWrong)

/-- 'relaylaw05.StSames': WHATEVER THE INPUT: true; the input reads as it did. -/
def stSamesSpec : ChangeSpec := { name := "stSames", fn := fun _ => fun
  | [d1, d2] => { results := [.lit (.bool true)], args := [d1, d2] }
  | _ => none }
def stSamesRow : OpenClaim := { program := "ytmdkbhbconnmmaa", sum := "23a028fe699c15cc960ff3f2c6ba164bab8cb51b6b875989db30559d090a1f99", func := "relay/relaylaw05.StSames", spec := "stSames", unfollowed := true, recurses := true, loops := true, apart := false }
def StSamesSaid : Prop := stSamesRow.holds Try.pinned (OpenSpec.ofChange stSamesSpec)

/-- ITS FALSE NEIGHBOUR: 'it returns false'. Refute it at one input. -/
def stSamesWrong : ChangeSpec := { name := "stSames", fn := fun _ => fun
  | [d1, d2] => { results := [.lit (.bool false)], args := [d1, d2] }
  | _ => none }
def StSamesWrongFalsely : Prop := stSamesRow.holds Try.pinned (OpenSpec.ofChange stSamesWrong)

/-- 'relaylaw08.SfcSames': WHATEVER THE INPUT: true; the input reads as it did. -/
def sfcSamesSpec : ChangeSpec := { name := "sfcSames", fn := fun _ => fun
  | [d1, d2] => { results := [.lit (.bool true)], args := [d1, d2] }
  | _ => none }
def sfcSamesRow : OpenClaim := { program := "ytmdkbhbconnmmaa", sum := "23a028fe699c15cc960ff3f2c6ba164bab8cb51b6b875989db30559d090a1f99", func := "relay/relaylaw08.SfcSames", spec := "sfcSames", unfollowed := true, recurses := true, loops := true, apart := false }
def SfcSamesSaid : Prop := sfcSamesRow.holds Try.pinned (OpenSpec.ofChange sfcSamesSpec)

/-- ITS FALSE NEIGHBOUR: 'it returns false'. Refute it at one input. -/
def sfcSamesWrong : ChangeSpec := { name := "sfcSames", fn := fun _ => fun
  | [d1, d2] => { results := [.lit (.bool false)], args := [d1, d2] }
  | _ => none }
def SfcSamesWrongFalsely : Prop := sfcSamesRow.holds Try.pinned (OpenSpec.ofChange sfcSamesWrong)

/-- 'relaylaw06.IlSames': WHATEVER THE INPUT: true; the input reads as it did. -/
def ilSamesSpec : ChangeSpec := { name := "ilSames", fn := fun _ => fun
  | [d1, d2] => { results := [.lit (.bool true)], args := [d1, d2] }
  | _ => none }
def ilSamesRow : OpenClaim := { program := "ytmdkbhbconnmmaa", sum := "23a028fe699c15cc960ff3f2c6ba164bab8cb51b6b875989db30559d090a1f99", func := "relay/relaylaw06.IlSames", spec := "ilSames", unfollowed := true, recurses := true, loops := true, apart := false }
def IlSamesSaid : Prop := ilSamesRow.holds Try.pinned (OpenSpec.ofChange ilSamesSpec)

/-- ITS FALSE NEIGHBOUR: 'it returns false'. Refute it at one input. -/
def ilSamesWrong : ChangeSpec := { name := "ilSames", fn := fun _ => fun
  | [d1, d2] => { results := [.lit (.bool false)], args := [d1, d2] }
  | _ => none }
def IlSamesWrongFalsely : Prop := ilSamesRow.holds Try.pinned (OpenSpec.ofChange ilSamesWrong)

/- THE SECOND FORM. 'bulk': how many values and letters a reading holds, each counted each time it is reached (what is shared counts as often as it is met; a slice's spare places count too). A statement '..UptoSaid' is the law's where the arguments, and the package variables that the reading takes, are together of bulk at most 1048576: NARROWER than '..Said'. Prove '..Said' where nothing that the law and all that it calls make is longer than what came in: it says more and counts as full. Else prove '..UptoSaid'. A law counts once. -/
mutual
def uptoBulk {H : Type} : DataW H → Nat
  | .lit (.string bytes) => bytes.length + 1
  | .lit _ => 1
  | .nil => 1
  | .ptr d => uptoBulk d + 1
  | .slice elems spare => uptoBulkAll elems + uptoBulkAll spare + 1
  | .agg parts => uptoBulkAll parts + 1
  | .iface _ d => uptoBulk d + 1
  | .map entries => uptoBulkEntries entries + 1
  | .held _ => 1
def uptoBulkAll {H : Type} : List (DataW H) → Nat
  | [] => 0
  | d :: r => uptoBulk d + uptoBulkAll r
def uptoBulkEntries {H : Type} : List (Lit × DataW H) → Nat
  | [] => 0
  | x :: r => uptoBulkEntry x + uptoBulkEntries r
def uptoBulkEntry {H : Type} : Lit × DataW H → Nat
  | (.string bytes, d) => bytes.length + uptoBulk d + 1
  | (_, d) => uptoBulk d + 1
 end
def uptoSmall : (H : Type) → List (DataW H) → Bool := fun _ ds => decide (uptoBulkAll ds ≤ 1048576)
def OpenSpec.upto (s : _root_.Go.ChangeSpec) : _root_.Go.OpenSpec := { _root_.Go.OpenSpec.ofChange s with cond := some uptoSmall }

/-- 'relaylaw04.DeclCells', WHERE WHAT IT READS IS OF BULK AT MOST 1048576: true; the input reads as it did. -/
def declCellsUptoRow : OpenClaim := { program := "ytmdkbhbconnmmaa", sum := "23a028fe699c15cc960ff3f2c6ba164bab8cb51b6b875989db30559d090a1f99", func := "relay/relaylaw04.DeclCells", spec := "declCells", apart := false, narrowed := true }
def DeclCellsUptoSaid : Prop := declCellsUptoRow.holds Try.pinned (OpenSpec.upto declCellsSpec)

/-- 'relaylaw05.StSames', WHERE WHAT IT READS IS OF BULK AT MOST 1048576: true; the input reads as it did. -/
def stSamesUptoRow : OpenClaim := { program := "ytmdkbhbconnmmaa", sum := "23a028fe699c15cc960ff3f2c6ba164bab8cb51b6b875989db30559d090a1f99", func := "relay/relaylaw05.StSames", spec := "stSames", unfollowed := true, recurses := true, loops := true, apart := false, narrowed := true }
def StSamesUptoSaid : Prop := stSamesUptoRow.holds Try.pinned (OpenSpec.upto stSamesSpec)

/-- 'relaylaw08.SfcSames', WHERE WHAT IT READS IS OF BULK AT MOST 1048576: true; the input reads as it did. -/
def sfcSamesUptoRow : OpenClaim := { program := "ytmdkbhbconnmmaa", sum := "23a028fe699c15cc960ff3f2c6ba164bab8cb51b6b875989db30559d090a1f99", func := "relay/relaylaw08.SfcSames", spec := "sfcSames", unfollowed := true, recurses := true, loops := true, apart := false, narrowed := true }
def SfcSamesUptoSaid : Prop := sfcSamesUptoRow.holds Try.pinned (OpenSpec.upto sfcSamesSpec)

/-- 'relaylaw06.IlSames', WHERE WHAT IT READS IS OF BULK AT MOST 1048576: true; the input reads as it did. -/
def ilSamesUptoRow : OpenClaim := { program := "ytmdkbhbconnmmaa", sum := "23a028fe699c15cc960ff3f2c6ba164bab8cb51b6b875989db30559d090a1f99", func := "relay/relaylaw06.IlSames", spec := "ilSames", unfollowed := true, recurses := true, loops := true, apart := false, narrowed := true }
def IlSamesUptoSaid : Prop := ilSamesUptoRow.holds Try.pinned (OpenSpec.upto ilSamesSpec)

end Rows
end Go.Proofs.Ytmdkbhbconnmmaa
