/- DeclCells: for every type the program's Cells tells what the document's Cells tells, and the array from 1 to 3 has 3 cells. No condition. -/
import Derived.Test.YtmdkbhbconnmmaaRows
import Derived.Test.YtmdkbhbconnmmaaXDeclCellsx1
import Derived.Test.YtmdkbhbconnmmaaPureDeclCells
import Derived.WalkKit
import Derived.ProofKit
import Derived.OpenShut
import Derived.Carry
import Derived.ChangeOld
import Derived.Below
import Derived.SizedLaws
import Derived.Lib.SmallJoins
namespace Go.Proofs.Ytmdkbhbconnmmaa.declCells
open Go.ChangeShapes Go.WideShapes Go.ChangeAt Go.RowKit Go.Joins
set_option linter.unusedVariables false
theorem own : ownKnob Try.prog.godebug = none := by kernel_rfl
theorem laidOut : laidOutB Try.prog = true := by kernel_rfl
theorem cells24 : Try.prog.cellsOf 24 = 9 := by kernel_rfl
/-- A list of nine. -/
theorem nine {α : Type} {l : List α} (h : l.length = 9) : ∃ a b c d e f g i j, l = [a, b, c, d, e, f, g, i, j] := by
  match l, h with
  | [a, b, c, d, e, f, g, i, j], _ => exact ⟨a, b, c, d, e, f, g, i, j, rfl⟩
/-- A type by value, opened: its nine cells. -/
theorem open_type {H : Type} {enc : TypeId × Value → H} {W : World} {base : Nat} {spare : Nat → Bool} {held : Bool} {r : Reach} {b0 : Nat} {v : Value} {d : DataW H} {p : List MemPlace}
    (hv : Value.okWide Try.prog W r b0 24 v) (h : DataW.Trod enc Try.prog W base spare held 24 v d p) :
    ∃ (a0 : Int) (a1 : Bool) (a2 a3 a4 : Int) (a5 : Bool) (a6 a7 : Int) (a8 : ByteArray), v = .agg #[.int .u8 a0, .bool a1, .int .i64 a2, .int .i64 a3, .int .i64 a4, .bool a5, .int .i64 a6, .int .i64 a7, .string a8] := by
  obtain ⟨cs, rfl, hsz⟩ := okWide_struct Try.underlying24 hv
  obtain ⟨l⟩ := cs
  have hl : l.length = 9 := by simpa [cells24] using hsz
  obtain ⟨c0, c1, c2, c3, c4, c5, c6, c7, c8, rfl⟩ := nine hl
  obtain ⟨fuel, hf⟩ := h
  obtain ⟨xs, n, _, _, _, hx, hg⟩ := DataW.trod_struct Try.underlying24 hf
  obtain ⟨x0, x1, x2, x3, x4, x5, x6, x7, x8, rfl⟩ := nine hx
  have k22 : Try.prog.cellsOf 22 = 1 := by kernel_rfl
  have k4 : Try.prog.cellsOf 4 = 1 := by kernel_rfl
  have k3 : Try.prog.cellsOf 3 = 1 := by kernel_rfl
  have k9 : Try.prog.cellsOf 9 = 1 := by kernel_rfl
  have g0 : DataW.trod enc Try.prog W base spare held n 22 [c0] = some x0 := by simpa [Value.cells, k22] using hg 0 _ rfl
  have g1 : DataW.trod enc Try.prog W base spare held n 4 [c1] = some x1 := by simpa [Value.cells, k4] using hg 1 _ rfl
  have g2 : DataW.trod enc Try.prog W base spare held n 3 [c2] = some x2 := by simpa [Value.cells, k3] using hg 2 _ rfl
  have g3 : DataW.trod enc Try.prog W base spare held n 3 [c3] = some x3 := by simpa [Value.cells, k3] using hg 3 _ rfl
  have g4 : DataW.trod enc Try.prog W base spare held n 3 [c4] = some x4 := by simpa [Value.cells, k3] using hg 4 _ rfl
  have g5 : DataW.trod enc Try.prog W base spare held n 4 [c5] = some x5 := by simpa [Value.cells, k4] using hg 5 _ rfl
  have g6 : DataW.trod enc Try.prog W base spare held n 3 [c6] = some x6 := by simpa [Value.cells, k3] using hg 6 _ rfl
  have g7 : DataW.trod enc Try.prog W base spare held n 3 [c7] = some x7 := by simpa [Value.cells, k3] using hg 7 _ rfl
  have g8 : DataW.trod enc Try.prog W base spare held n 9 [c8] = some x8 := by simpa [Value.cells, k9] using hg 8 _ rfl
  obtain ⟨a0, e0, _, _⟩ := DataW.trod_int Try.underlying22 g0
  obtain ⟨a1, e1, _⟩ := DataW.trod_bool Try.underlying4 g1
  obtain ⟨a2, e2, _, _⟩ := DataW.trod_int Try.underlying3 g2
  obtain ⟨a3, e3, _, _⟩ := DataW.trod_int Try.underlying3 g3
  obtain ⟨a4, e4, _, _⟩ := DataW.trod_int Try.underlying3 g4
  obtain ⟨a5, e5, _⟩ := DataW.trod_bool Try.underlying4 g5
  obtain ⟨a6, e6, _, _⟩ := DataW.trod_int Try.underlying3 g6
  obtain ⟨a7, e7, _, _⟩ := DataW.trod_int Try.underlying3 g7
  obtain ⟨a8, e8, _, _⟩ := DataW.trod_string Try.underlying9 g8
  simp only [List.cons.injEq, and_true] at e0 e1 e2 e3 e4 e5 e6 e7 e8
  subst e0 e1 e2 e3 e4 e5 e6 e7 e8
  exact ⟨a0, a1, a2, a3, a4, a5, a6, a7, a8, rfl⟩
set_option maxRecDepth 100000 in
theorem lifted (os : Os) (started : os.Started) (H : Type) (enc : TypeId × Value → H) :
    ReturnsInHanded {} Try.checked os 3 .any (Rows.declCellsSpec.pre6 enc Try.prog Try.f3 Rows.declCellsRow.domain false) (Rows.declCellsSpec.post enc Try.prog Try.f3 false true false false) := by
  refine returnsInHanded_of_change_sized (C := Try.checked) own started (by kernel_rfl) Try.func3
    (ChangeSpec.witness6 (enc := enc) (C := Try.checked) false ⟨#[], #[.agg #[.int .u8 0, .bool false, .int .i64 0, .int .i64 0, .int .i64 0, .bool false, .int .i64 0, .int .i64 0, .string ByteArray.empty]], []⟩ 8 (by kernel_rfl) (by kernel_rfl) (by kernel_rfl) (by kernel_rfl)) ?_
  intro W base args ds gs before hval0 hW hcnd hsz0 _
  have hval : ∀ (j : Nat) t v, Try.f3.params[j]? = some t → args[j]? = some v → Value.okWide Try.prog W .any base t v := hval0
  have hW' := hW
  obtain ⟨p, q, hA0, hV, rfl, hfz, hnd⟩ := hW
  have hA : DataW.TrodAll enc Try.prog W 0 (fun _ => true) true Try.f3.params.toList args.toList ds p := hA0
  rw [Try.params3] at hA hval
  obtain ⟨v0, vs0, d0, ds0, p0, q0, hargs, rfl, rfl, h0, r0⟩ := trodAll_cons hA
  obtain ⟨rfl, rfl, rfl⟩ := trodAll_nil r0
  obtain rfl : args = #[v0] := by cases args; simp_all
  obtain ⟨rfl, rfl⟩ := trodVars_none hV
  have lt0 : ∀ x ∈ p0, x.block < W.heap.size := by obtain ⟨m, hm⟩ := h0; exact DataW.trod_lt m _ _ _ hm
  obtain ⟨a0, a1, a2, a3, a4, a5, a6, a7, a8, rfl⟩ := open_type (hval 0 24 v0 rfl rfl) h0
  clear hA0 hval0 hsz0
  obtain ⟨k, hk⟩ := Pure.DeclCells a0 a1 a2 a3 a4 a5 a6 a7 a8
  refine (XDeclCells.relaylaw04_DeclCells.calls k a0 a1 a2 a3 a4 a5 a6 a7 a8 true W hk).mono fun e W' ⟨he, bel⟩ => ?_
  subst he
  exact ⟨_, rfl, _, _, _, [], _, [], hW', trodAll_mk1 (shut_bool Try.underlying4 _), trodAll_cons_mk (Below.trod laidOut (by kernel_rfl) (of_decide_eq_true (by kernel_rfl)) h0 bel lt0) trodAll_mk0, rfl, bel.frame _, fun h => by cases h⟩
theorem over : Rows.declCellsRow.holds Try.pinned (OpenSpec.ofChange Rows.declCellsSpec) :=
  OpenClaim.holds_of_wide 3 Try.f3 rfl rfl rfl rfl rfl rfl rfl ⟨rfl, rfl, rfl, rfl, rfl⟩ rfl rfl rfl rfl rfl (by kernel_rfl) Try.func3 (by kernel_rfl)
    (of_decide_eq_true (by kernel_rfl)) (by unfold Func.isWrapper; first | (rw [if_pos (by decide +kernel)]; kernel_rfl) | (rw [if_neg (by decide +kernel)]; exact ⟨rfl, rfl⟩))
    (fun os started H enc _ => lifted os started H enc)
theorem proved : Rows.DeclCellsSaid := over
#print axioms proved
end Go.Proofs.Ytmdkbhbconnmmaa.declCells
namespace Go.Proofs.Ytmdkbhbconnmmaa
/-- The row, under a short name, for the claim. -/
theorem declCells_holds : Rows.DeclCellsSaid := declCells.proved
end Go.Proofs.Ytmdkbhbconnmmaa
