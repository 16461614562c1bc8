/-
  No cell of these rows narrows 'for every input' (looked for: loops, veiled, ifaces, maps, wideKeys, modest, calm, conditions, laid).
  DERIVED. THE GIVEN ROWS OF THIS SEAT. 3 by the template 'for every input the law returns true; each argument reads behind the call as it read before'; 0 by the template 'total and deterministic' (their statements: YteoehlcjllbhfaaTotals.lean).
  GIVEN WITH THE SEED: the statements are not yours to turn. If you find one false, say at which input.
  Laid BY PROGRAM, IN A SANDBOX (cutbox-rows.mjs): the forced cells as the released guide's own fill.sh prints them over the translation 657f0bdc837c8fa6… (all of the seat's roots in one cut). By AI agents, Wed Nov 11 2026. No macro, syntax, notation, axiom, sorry.
-/
import Derived.Test.YteoehlcjllbhfaaChecked
import GoSem.Claim
import GoSem.ClaimJoined
import GoSem.ClaimMapViews
import Derived.JoinedTies
import Derived.KernelRfl
namespace Go.Proofs.Yteoehlcjllbhfaa
/- THE CELL 'sum', in the pinned program and in every row, IS THE sha256 OF THE DUMP (.gsa) THAT YteoehlcjllbhfaaProg.lean LOADS. Nothing in Lean hashes anything: it is a label: what it is worth is what the hold of that sum in a sandbox is worth. -/
noncomputable def Try.pinned : Pinned := { name := "yteoehlcjllbhfaa", sum := "657f0bdc837c8fa64b36743748d68cf8d719503b8a6af92e13f1010812b44a48", checked := Try.checked }
namespace Rows
def none {H : Type} : Left H := { results := [], args := [] }

/-- 'relaylaw02.TimesDays': WHATEVER THE INPUT: true; the input reads as it did. -/
def timesDaysSpec : ChangeSpec := { name := "timesDays", fn := fun _ => fun
  | [d1, d2, d3] => { results := [.lit (.bool true)], args := [d1, d2, d3] }
  | _ => none }
def timesDaysRow : OpenClaim := { program := "yteoehlcjllbhfaa", sum := "657f0bdc837c8fa64b36743748d68cf8d719503b8a6af92e13f1010812b44a48", func := "relay/relaylaw02.TimesDays", spec := "timesDays", apart := false }
def TimesDaysSaid : Prop := timesDaysRow.holds Try.pinned (OpenSpec.ofChange timesDaysSpec)

/-- ITS FALSE NEIGHBOUR: 'it returns false'. Refute it at one input. -/
def timesDaysWrong : ChangeSpec := { name := "timesDays", fn := fun _ => fun
  | [d1, d2, d3] => { results := [.lit (.bool false)], args := [d1, d2, d3] }
  | _ => none }
def TimesDaysWrongFalsely : Prop := timesDaysRow.holds Try.pinned (OpenSpec.ofChange timesDaysWrong)

/-- 'relaylaw02.TimesCivil': WHATEVER THE INPUT: true; the input reads as it did. -/
def timesCivilSpec : ChangeSpec := { name := "timesCivil", fn := fun _ => fun
  | [d] => { results := [.lit (.bool true)], args := [d] }
  | _ => none }
def timesCivilRow : OpenClaim := { program := "yteoehlcjllbhfaa", sum := "657f0bdc837c8fa64b36743748d68cf8d719503b8a6af92e13f1010812b44a48", func := "relay/relaylaw02.TimesCivil", spec := "timesCivil", apart := false }
def TimesCivilSaid : Prop := timesCivilRow.holds Try.pinned (OpenSpec.ofChange timesCivilSpec)

/-- ITS FALSE NEIGHBOUR: 'it returns false'. Refute it at one input. -/
def timesCivilWrong : ChangeSpec := { name := "timesCivil", fn := fun _ => fun
  | [d] => { results := [.lit (.bool false)], args := [d] }
  | _ => none }
def TimesCivilWrongFalsely : Prop := timesCivilRow.holds Try.pinned (OpenSpec.ofChange timesCivilWrong)

/-- 'relaylaw02.TimesJoins': WHATEVER THE INPUT: true; the input reads as it did. -/
def timesJoinsSpec : ChangeSpec := { name := "timesJoins", fn := fun _ => fun
  | [d1, d2, d3] => { results := [.lit (.bool true)], args := [d1, d2, d3] }
  | _ => none }
def timesJoinsRow : OpenClaim := { program := "yteoehlcjllbhfaa", sum := "657f0bdc837c8fa64b36743748d68cf8d719503b8a6af92e13f1010812b44a48", func := "relay/relaylaw02.TimesJoins", spec := "timesJoins", inPlace := ["math.Float64frombits"], apart := false }
def TimesJoinsSaid : Prop := timesJoinsRow.holds Try.pinned (OpenSpec.ofChange timesJoinsSpec)

/-- ITS FALSE NEIGHBOUR: 'it returns false'. Refute it at one input. -/
def timesJoinsWrong : ChangeSpec := { name := "timesJoins", fn := fun _ => fun
  | [d1, d2, d3] => { results := [.lit (.bool false)], args := [d1, d2, d3] }
  | _ => none }
def TimesJoinsWrongFalsely : Prop := timesJoinsRow.holds Try.pinned (OpenSpec.ofChange timesJoinsWrong)

/- THE SECOND FORM. 'bulk': how many values and letters a reading holds, each counted each time it is reached (what is shared counts as often as it is met; a slice's spare places count too). A statement '..UptoSaid' is the law's where the arguments, and the package variables that the reading takes, are together of bulk at most 1048576: NARROWER than '..Said'. Prove '..Said' where nothing that the law and all that it calls make is longer than what came in: it says more and counts as full. Else prove '..UptoSaid'. A law counts once. -/
mutual
def uptoBulk {H : Type} : DataW H → Nat
  | .lit (.string bytes) => bytes.length + 1
  | .lit _ => 1
  | .nil => 1
  | .ptr d => uptoBulk d + 1
  | .slice elems spare => uptoBulkAll elems + uptoBulkAll spare + 1
  | .agg parts => uptoBulkAll parts + 1
  | .iface _ d => uptoBulk d + 1
  | .map entries => uptoBulkEntries entries + 1
  | .held _ => 1
def uptoBulkAll {H : Type} : List (DataW H) → Nat
  | [] => 0
  | d :: r => uptoBulk d + uptoBulkAll r
def uptoBulkEntries {H : Type} : List (Lit × DataW H) → Nat
  | [] => 0
  | x :: r => uptoBulkEntry x + uptoBulkEntries r
def uptoBulkEntry {H : Type} : Lit × DataW H → Nat
  | (.string bytes, d) => bytes.length + uptoBulk d + 1
  | (_, d) => uptoBulk d + 1
 end
def uptoSmall : (H : Type) → List (DataW H) → Bool := fun _ ds => decide (uptoBulkAll ds ≤ 1048576)
def OpenSpec.upto (s : _root_.Go.ChangeSpec) : _root_.Go.OpenSpec := { _root_.Go.OpenSpec.ofChange s with cond := some uptoSmall }

/-- 'relaylaw02.TimesDays', WHERE WHAT IT READS IS OF BULK AT MOST 1048576: true; the input reads as it did. -/
def timesDaysUptoRow : OpenClaim := { program := "yteoehlcjllbhfaa", sum := "657f0bdc837c8fa64b36743748d68cf8d719503b8a6af92e13f1010812b44a48", func := "relay/relaylaw02.TimesDays", spec := "timesDays", apart := false, narrowed := true }
def TimesDaysUptoSaid : Prop := timesDaysUptoRow.holds Try.pinned (OpenSpec.upto timesDaysSpec)

/-- 'relaylaw02.TimesCivil', WHERE WHAT IT READS IS OF BULK AT MOST 1048576: true; the input reads as it did. -/
def timesCivilUptoRow : OpenClaim := { program := "yteoehlcjllbhfaa", sum := "657f0bdc837c8fa64b36743748d68cf8d719503b8a6af92e13f1010812b44a48", func := "relay/relaylaw02.TimesCivil", spec := "timesCivil", apart := false, narrowed := true }
def TimesCivilUptoSaid : Prop := timesCivilUptoRow.holds Try.pinned (OpenSpec.upto timesCivilSpec)

/-- 'relaylaw02.TimesJoins', WHERE WHAT IT READS IS OF BULK AT MOST 1048576: true; the input reads as it did. -/
def timesJoinsUptoRow : OpenClaim := { program := "yteoehlcjllbhfaa", sum := "657f0bdc837c8fa64b36743748d68cf8d719503b8a6af92e13f1010812b44a48", func := "relay/relaylaw02.TimesJoins", spec := "timesJoins", inPlace := ["math.Float64frombits"], apart := false, narrowed := true }
def TimesJoinsUptoSaid : Prop := timesJoinsUptoRow.holds Try.pinned (OpenSpec.upto timesJoinsSpec)

end Rows
end Go.Proofs.Yteoehlcjllbhfaa
