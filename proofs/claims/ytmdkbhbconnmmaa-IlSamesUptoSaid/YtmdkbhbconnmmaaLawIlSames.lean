/- IlSames: for every two lists of instructions, of bulk at most 1048576, the program's comparison of their copies tells what the document's comparison of them tells, a list is the same as itself, and the copies are as the lists. -/
import Derived.Test.YtmdkbhbconnmmaaOpenIl
import Derived.Test.YtmdkbhbconnmmaaPureIlF
import Derived.Test.YtmdkbhbconnmmaaXIlx17
import Derived.JoinedCond
import Derived.Deep.CondSized
namespace Go.Proofs.Ytmdkbhbconnmmaa.ilSames
open Go.ChangeShapes Go.WideShapes Go.ChangeAt Go.RowKit
set_option linter.unusedVariables false
theorem own : ownKnob Try.prog.godebug = none := by kernel_rfl
theorem laidOut : laidOutB Try.prog = true := by kernel_rfl
theorem ends {a b : List XIl.S81} (ha : a.length ≤ 1048576) (hqa : ∀ x ∈ a, XIl.Q81 x) (hb : b.length ≤ 1048576) (hqb : ∀ x ∈ b, XIl.Q81 x) : ∃ n, XIl.relaylaw06_IlSames.f n a b = some true := XIl.law81 (k := XIl.relaylaw06_IlSames.f) (fun n a b => rfl) ha hqa hb hqb
set_option maxHeartbeats 2000000 in
set_option maxRecDepth 100000 in
theorem lifted (os : Os) (started : os.Started) (H : Type) (enc : TypeId × Value → H) (F : Stop.Interp) :
    ReturnsInHanded {} Try.checked os 6 .any ((Rows.OpenSpec.upto Rows.ilSamesSpec).pre6 enc Try.prog Try.f6 Rows.ilSamesUptoRow.domain false) (((Rows.OpenSpec.upto Rows.ilSamesSpec).at F).post enc Try.prog Try.f6 false true false false) := by
  refine returnsInHanded_of_cond_sized (C := Try.checked) (s := Rows.OpenSpec.upto Rows.ilSamesSpec) (k := Rows.uptoSmall) rfl own started (by kernel_rfl) Try.func6
    (OpenSpec.witness (enc := enc) (C := Try.checked) (s := Rows.OpenSpec.upto Rows.ilSamesSpec) (k := Rows.uptoSmall) rfl false ⟨#[], #[.slice none 0 0, .slice none 0 0], []⟩ 8 (by kernel_rfl) (by kernel_rfl) (by kernel_rfl)
      (x := ([.nil, .nil], [], [])) (by kernel_rfl) rfl (by kernel_rfl)) ?_
  intro W base args ds gs before hval0 hW _ hk0 hsz0 _
  have hval : ∀ (j : Nat) t v, Try.f6.params[j]? = some t → args[j]? = some v → Value.okWide Try.prog W .any base t v := hval0
  have hW' := hW
  obtain ⟨p, q, hA0, hV, rfl, hfz, hnd⟩ := hW
  have hA : DataW.TrodAll enc Try.prog W 0 (fun _ => true) true Try.f6.params.toList args.toList ds p := hA0
  rw [Try.params6] at hA hval hsz0
  obtain ⟨v0, vs0, d0, ds0, p0, q0, hargs, rfl, rfl, h0, r0⟩ := trodAll_cons hA
  obtain ⟨v1, vs1, d1, ds1, p1, q1, rfl, rfl, rfl, h1, r1⟩ := trodAll_cons r0
  obtain ⟨rfl, rfl, rfl⟩ := trodAll_nil r1
  obtain rfl : args = #[v0, v1] := by cases args; simp_all
  obtain ⟨rfl, rfl⟩ := trodVars_none hV
  have hb := of_decide_eq_true hk0
  simp only [List.append_nil, Rows.uptoBulkAll] at hb
  have lt0 : ∀ x ∈ p0, x.block < W.heap.size := by obtain ⟨m, hm⟩ := h0; exact DataW.trod_lt m _ _ _ hm
  have lt1 : ∀ x ∈ p1, x.block < W.heap.size := by obtain ⟨m, hm⟩ := h1; exact DataW.trod_lt m _ _ _ hm
  have w0 : ∀ n ∈ d0.weights Try.prog 37, n ≤ reachBytes := fun n hn => by simpa using List.all_eq_true.1 hsz0 n (DataW.weights_mem_each (j := 0) rfl rfl n hn)
  have w1 : ∀ n ∈ d1.weights Try.prog 37, n ≤ reachBytes := fun n hn => by simpa using List.all_eq_true.1 hsz0 n (DataW.weights_mem_each (j := 1) rfl rfl n hn)
  obtain ⟨y0, n0, z0, rfl⟩ := okWide_slice Try.underlying37 (hval 0 37 v0 rfl rfl)
  obtain ⟨y1, n1, z1, rfl⟩ := okWide_slice Try.underlying37 (hval 1 37 v1 rfl rfl)
  have h0' := h0
  have h1' := h1
  obtain ⟨m0, hm0⟩ := h0'
  obtain ⟨m1, hm1⟩ := h1'
  obtain ⟨A0, l0, c0, e0, hl0, hC0, hn0, ho0⟩ := XIl.open_ins hm0 w0 (by show Rows.uptoBulk d0 ≤ 1048576; omega)
  obtain ⟨A1, l1, c1, e1, hl1, hC1, hn1, ho1⟩ := XIl.open_ins hm1 w1 (by show Rows.uptoBulk d1 ≤ 1048576; omega)
  simp only [Value.cells, List.cons.injEq, and_true, Value.slice.injEq] at e0 e1
  obtain ⟨rfl, rfl, rfl⟩ := e0
  obtain ⟨rfl, rfl, rfl⟩ := e1
  clear hA0 hval0 hsz0
  obtain ⟨k, hk⟩ := ends hn0 ho0 hn1 ho1
  refine (XIl.relaylaw06_IlSames.calls k _ _ l0 _ _ l1 true W hC0 hl0 hC1 hl1 hk).mono fun e W' ⟨he, bel⟩ => ?_
  subst he
  exact ⟨_, rfl, _, _, _, [], _, [], hW', trodAll_mk1 (shut_bool Try.underlying4 _), trodAll_cons_mk (Below.trod laidOut (by kernel_rfl) (of_decide_eq_true (by kernel_rfl)) h0 bel lt0) (trodAll_cons_mk (Below.trod laidOut (by kernel_rfl) (of_decide_eq_true (by kernel_rfl)) h1 bel lt1) trodAll_mk0), rfl, bel.frame _, fun h => by cases h⟩
theorem over : Rows.ilSamesUptoRow.holds Try.pinned (Rows.OpenSpec.upto Rows.ilSamesSpec) :=
  OpenClaim.holds_of_cond 6 Try.f6 rfl rfl rfl rfl rfl rfl rfl ⟨rfl, rfl, rfl, rfl, rfl⟩ rfl rfl rfl rfl rfl (by kernel_rfl) Try.func6 (by kernel_rfl)
    (of_decide_eq_true (by kernel_rfl)) (by unfold Func.isWrapper; first | (rw [if_pos (by decide +kernel)]; kernel_rfl) | (rw [if_neg (by decide +kernel)]; exact ⟨rfl, rfl⟩))
    (fun os started H enc _ F => lifted os started H enc F)
theorem proved : Rows.IlSamesUptoSaid := over
#print axioms proved
end Go.Proofs.Ytmdkbhbconnmmaa.ilSames
namespace Go.Proofs.Ytmdkbhbconnmmaa
/-- The row, under a short name, for the claim. -/
theorem ilSames_holds : Rows.IlSamesUptoSaid := ilSames.proved
end Go.Proofs.Ytmdkbhbconnmmaa
