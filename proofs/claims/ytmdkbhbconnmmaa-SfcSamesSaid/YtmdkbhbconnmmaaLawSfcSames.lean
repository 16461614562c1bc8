/- SfcSames: for every two charts the program's comparison of their copies tells what the document's comparison of them tells, a chart is the same as itself, and the copies are as the charts. -/
import Derived.Test.YtmdkbhbconnmmaaOpenSfc
namespace Go.Proofs.Ytmdkbhbconnmmaa.sfcSames
open Go.ChangeShapes Go.WideShapes Go.ChangeAt Go.RowKit
set_option linter.unusedVariables false
theorem own : ownKnob Try.prog.godebug = none := by kernel_rfl
theorem laidOut : laidOutB Try.prog = true := by kernel_rfl
set_option maxHeartbeats 2000000 in
set_option maxRecDepth 100000 in
theorem lifted (os : Os) (started : os.Started) (H : Type) (enc : TypeId × Value → H) :
    ReturnsInHanded {} Try.checked os 5 .any (Rows.sfcSamesSpec.pre6 enc Try.prog Try.f5 Rows.sfcSamesRow.domain false) (Rows.sfcSamesSpec.post enc Try.prog Try.f5 false true false false) := by
  refine returnsInHanded_of_change_sized (C := Try.checked) own started (by kernel_rfl) Try.func5
    (ChangeSpec.witness6 (enc := enc) (C := Try.checked) false ⟨#[], #[.agg #[.slice none 0 0, .slice none 0 0, .slice none 0 0], .agg #[.slice none 0 0, .slice none 0 0, .slice none 0 0]], []⟩ 8 (by kernel_rfl) (by kernel_rfl) (by kernel_rfl) (by kernel_rfl)) ?_
  intro W base args ds gs before hval0 hW hcnd hsz0 _
  have hval : ∀ (j : Nat) t v, Try.f5.params[j]? = some t → args[j]? = some v → Value.okWide Try.prog W .any base t v := hval0
  have hW' := hW
  obtain ⟨p, q, hA0, hV, rfl, hfz, hnd⟩ := hW
  have hA : DataW.TrodAll enc Try.prog W 0 (fun _ => true) true Try.f5.params.toList args.toList ds p := hA0
  rw [Try.params5] at hA hval hsz0
  obtain ⟨v0, vs0, d0, ds0, p0, q0, hargs, rfl, rfl, h0, r0⟩ := trodAll_cons hA
  obtain ⟨v1, vs1, d1, ds1, p1, q1, rfl, rfl, rfl, h1, r1⟩ := trodAll_cons r0
  obtain ⟨rfl, rfl, rfl⟩ := trodAll_nil r1
  obtain rfl : args = #[v0, v1] := by cases args; simp_all
  obtain ⟨rfl, rfl⟩ := trodVars_none hV
  have lt0 : ∀ x ∈ p0, x.block < W.heap.size := by obtain ⟨m, hm⟩ := h0; exact DataW.trod_lt m _ _ _ hm
  have lt1 : ∀ x ∈ p1, x.block < W.heap.size := by obtain ⟨m, hm⟩ := h1; exact DataW.trod_lt m _ _ _ hm
  have w0 : ∀ n ∈ d0.weights Try.prog 34, n ≤ reachBytes := fun n hn => by simpa using List.all_eq_true.1 hsz0 n (DataW.weights_mem_each (j := 0) rfl rfl n hn)
  have w1 : ∀ n ∈ d1.weights Try.prog 34, n ≤ reachBytes := fun n hn => by simpa using List.all_eq_true.1 hsz0 n (DataW.weights_mem_each (j := 1) rfl rfl n hn)
  obtain ⟨y0, rfl, _⟩ := okWide_struct Try.underlying34 (hval 0 34 v0 rfl rfl)
  obtain ⟨y1, rfl, _⟩ := okWide_struct Try.underlying34 (hval 1 34 v1 rfl rfl)
  have h0' := h0
  have h1' := h1
  obtain ⟨m0, hm0⟩ := h0'
  obtain ⟨m1, hm1⟩ := h1'
  obtain ⟨A0, l0, c0, A1, l1, c1, A2, l2, c2, e0, hc0, hr0, hc1, hr1, hc2, hr2, ho0⟩ := XSfc.open_chart hm0 w0
  obtain ⟨D0, n0, b0, D1, n1, b1, D2, n2, b2, e1, hd0, hs0, hd1, hs1, hd2, hs2, ho1⟩ := XSfc.open_chart hm1 w1
  simp only [Value.cells] at e0 e1
  obtain rfl : y0 = #[.slice A0 l0.length c0, .slice A1 l1.length c1, .slice A2 l2.length c2] := Array.ext' e0
  obtain rfl : y1 = #[.slice D0 n0.length b0, .slice D1 n1.length b1, .slice D2 n2.length b2] := Array.ext' e1
  clear hA0 hval0 hsz0
  obtain ⟨k, u, k1, k2, k3, k4, k5, k6, k7⟩ := XSfc.law_ ho0 ho1
  refine (XSfc.relaylaw08_SfcSames.calls k A0 c0 l0 A1 c1 l1 A2 c2 l2 D0 b0 n0 D1 b1 n1 D2 b2 n2 l0 l1 l2 n0 n1 n2 u W hr0 hc0 hs0 hd0 hr1 hc1 hs1 hd1 hr2 hc2 hs2 hd2 k1 k2 k3 k4 k5 k6 k7).mono fun e W' ⟨he, bel⟩ => ?_
  subst he
  exact ⟨_, rfl, _, _, _, [], _, [], hW', trodAll_mk1 (shut_bool Try.underlying4 _), trodAll_cons_mk (Below.trod laidOut (by kernel_rfl) (of_decide_eq_true (by kernel_rfl)) h0 bel lt0) (trodAll_cons_mk (Below.trod laidOut (by kernel_rfl) (of_decide_eq_true (by kernel_rfl)) h1 bel lt1) trodAll_mk0), rfl, bel.frame _, fun h => by cases h⟩
theorem over : Rows.sfcSamesRow.holds Try.pinned (OpenSpec.ofChange Rows.sfcSamesSpec) :=
  OpenClaim.holds_of_wide 5 Try.f5 rfl rfl rfl rfl rfl rfl rfl ⟨rfl, rfl, rfl, rfl, rfl⟩ rfl rfl rfl rfl rfl (by kernel_rfl) Try.func5 (by kernel_rfl)
    (of_decide_eq_true (by kernel_rfl)) (by unfold Func.isWrapper; first | (rw [if_pos (by decide +kernel)]; kernel_rfl) | (rw [if_neg (by decide +kernel)]; exact ⟨rfl, rfl⟩))
    (fun os started H enc _ => lifted os started H enc)
theorem proved : Rows.SfcSamesSaid := over
#print axioms proved
end Go.Proofs.Ytmdkbhbconnmmaa.sfcSames
namespace Go.Proofs.Ytmdkbhbconnmmaa
/-- The row, under a short name, for the claim. -/
theorem sfcSames_holds : Rows.SfcSamesSaid := sfcSames.proved
end Go.Proofs.Ytmdkbhbconnmmaa
