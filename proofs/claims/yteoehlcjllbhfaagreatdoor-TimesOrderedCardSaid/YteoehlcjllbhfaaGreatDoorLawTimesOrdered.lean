/- TimesOrdered: for every two rows of three numbers, Days tells the dates' order. -/
import Derived.Test.YteoehlcjllbhfaaGreatDoorCards
import Derived.Test.YteoehlcjllbhfaaGreatDoorTie
import Derived.Test.YteoehlcjllbhfaaGreatDoorMetRow
import Derived.Test.YteoehlcjllbhfaaGreatDoorWalkOrdered
import Derived.Test.YteoehlcjllbhfaaGreatDoorCalX
import Derived.OpenShut
import Derived.Carry
import Derived.Below
import Derived.Lib.SmallJoins
import Derived.Laws.IdiomArrays
namespace Go.Proofs.YteoehlcjllbhfaaGreatDoor.timesOrdered
open Go.ChangeShapes Go.WideShapes Go.ChangeAt Go.RowKit Go.Proofs.YteoehlcjllbhfaaGreatDoor.XTimes Go.Proofs.YteoehlcjllbhfaaGreatDoor.Cal Go.Proofs.YteoehlcjllbhfaaGreatDoor.CalX Go.Proofs.YteoehlcjllbhfaaGreatDoorW.PrintWords Go.Proofs.YteoehlcjllbhfaaGreatDoorW.PrintLast
set_option linter.unusedVariables false
theorem cells31 : Tryz.prog.cellsOf 31 = 3 := by kernel_rfl
set_option maxRecDepth 100000 in
/-- Three numbers in a row, opened. -/
theorem open_three {H : Type} {enc : TypeId × Value → H} {W : World} {base : Nat} {spare : Nat → Bool} {held : Bool} {r : Reach} {b0 : Nat} {v : Value} {d : DataW H} {p : List MemPlace}
    (hv : Value.okWide Tryz.prog W r b0 31 v) (h : DataW.Trod enc Tryz.prog W base spare held 31 v d p) :
    ∃ a0 a1 a2 : Int, v = .agg #[.int .i64 a0, .int .i64 a1, .int .i64 a2] := by
  simp only [Value.okWide, Tryz.underlying31] at hv
  obtain ⟨cs, rfl, hz, _⟩ := hv
  obtain ⟨c0, c1, c2, rfl⟩ := Go.Joins.array3 (hz.trans cells31)
  obtain ⟨fuel, hf⟩ := h
  obtain ⟨y0, y1, y2, n, _, h0, h1, h2⟩ := trod_array3 Tryz.underlying31 Ordered.cells3 hf
  obtain ⟨a0, e0, _, _⟩ := DataW.trod_int Tryz.underlying3 h0
  obtain ⟨a1, e1, _, _⟩ := DataW.trod_int Tryz.underlying3 h1
  obtain ⟨a2, e2, _, _⟩ := DataW.trod_int Tryz.underlying3 h2
  simp only [List.cons.injEq, and_true] at e0 e1 e2
  subst e0 e1 e2
  exact ⟨a0, a1, a2, rfl⟩
theorem three {α β γ : Type} {g : Nat → Option α} {f : Nat → Option β} {p : Nat → Option γ} {a : α} {b : β} {c : γ} (h : Ev g a) (k : Ev f b) (l : Ev p c) : ∃ n, g n = some a ∧ f n = some b ∧ p n = some c := by
  obtain ⟨n, h1, h2, h3, _⟩ := four h k l l
  exact ⟨n, h1, h2, h3⟩
/-- The law answers true. -/
theorem walk (a0 a1 a2 b0 b1 b2 : Int) (w : World) (hL : LaidW w) : Calls Tryz.prog 4 #[.agg #[.int .i64 a0, .int .i64 a1, .int .i64 a2], .agg #[.int .i64 b0, .int .i64 b1, .int .i64 b2]] w fun e w' => e = .returned (.bool true) ∧ Below w.heap.size w w' := by
  by_cases ha : ok a0 a1 a2
  case neg =>
    by_cases hb : ok b0 b1 b2
    · obtain ⟨k, h1, h2, h3⟩ := three (days_no ha) (days_yes hb) awake
      exact Ordered.outside1 k a0 a1 a2 b0 b1 b2 _ _ _ w hL h1 h2 h3
    · obtain ⟨k, h1, h2, h3⟩ := three (days_no ha) (days_no hb) awake
      exact Ordered.outside1 k a0 a1 a2 b0 b1 b2 _ _ _ w hL h1 h2 h3
  by_cases hb : ok b0 b1 b2
  case neg =>
    obtain ⟨k, h1, h2, h3⟩ := three (days_yes ha) (days_no hb) awake
    exact Ordered.outside2 k a0 a1 a2 b0 b1 b2 _ _ w hL h1 h2 h3
  obtain ⟨k, h1, h2, h3⟩ := three (days_yes ha) (days_yes hb) awake
  rcases later_or (y := a0) (m := a1) (d := a2) (y' := b0) (m' := b1) (d' := b2) with l | l | ⟨rfl, rfl, rfl⟩
  · have g := no_lt ha hb l
    rcases l with l | ⟨rfl, l | ⟨rfl, l⟩⟩
    · exact Ordered.less1 k _ _ _ _ _ _ _ _ w hL h1 h2 l g h3
    · exact Ordered.less2 k _ _ _ _ _ _ _ w hL h1 h2 l g h3
    · exact Ordered.less3 k _ _ _ _ _ _ w hL h1 h2 l g h3
  · have g := no_lt hb ha l
    rcases l with l | ⟨rfl, l | ⟨rfl, l⟩⟩
    · exact Ordered.more1 k _ _ _ _ _ _ _ _ w hL h1 h2 l g h3
    · exact Ordered.more2 k _ _ _ _ _ _ _ w hL h1 h2 l g h3
    · exact Ordered.more3 k _ _ _ _ _ _ w hL h1 h2 l g h3
  · exact Ordered.alike k _ _ _ _ w hL h1 h2 h3
set_option maxRecDepth 100000 in
theorem contract (H : Type) (enc : TypeId × Value → H) (W : World) (base : Nat) (args : Array Value) (ds gs : List (DataW H)) (before : List MemPlace)
    (hval : ∀ (j : Nat) t v, Tryz.f4.params[j]? = some t → args[j]? = some v → Value.okWide Tryz.prog W .any base t v)
    (hW : DataW.Whole enc Tryz.prog Tryz.f4.params.toList Rows.timesOrderedSpec.vars false W args.toList ds gs before) (hL : laidMetH Tryz.prog laidAll W) :
    Calls Tryz.prog 4 args W fun e W' => ∃ v, e = .returned v ∧ Rows.timesOrderedSpec.post enc Tryz.prog Tryz.f4 false true false false W args v W' := by
  have hW' := hW
  obtain ⟨p, q, hA0, hV, rfl, hfz, hnd⟩ := hW
  have hA : DataW.TrodAll enc Tryz.prog W 0 (fun _ => true) true Tryz.f4.params.toList args.toList ds p := hA0
  rw [Tryz.params4] at hA hval
  obtain ⟨v0, vs0, d0, ds0, p0, q0, hargs, rfl, rfl, h0, r0⟩ := trodAll_cons hA
  obtain ⟨v1, vs1, d1, ds1, p1, q1, rfl, rfl, rfl, h1, r1⟩ := trodAll_cons r0
  obtain ⟨rfl, rfl, rfl⟩ := trodAll_nil r1
  obtain rfl : args = #[v0, v1] := by cases args; simp_all
  obtain ⟨rfl, rfl⟩ := trodVars_none hV
  have lt0 : ∀ x ∈ p0, x.block < W.heap.size := by obtain ⟨m, hm⟩ := h0; exact DataW.trod_lt m _ _ _ hm
  have lt1 : ∀ x ∈ p1, x.block < W.heap.size := by obtain ⟨m, hm⟩ := h1; exact DataW.trod_lt m _ _ _ hm
  obtain ⟨a0, a1, a2, rfl⟩ := open_three (hval 0 31 v0 rfl rfl) h0
  obtain ⟨b0, b1, b2, rfl⟩ := open_three (hval 1 31 v1 rfl rfl) h1
  clear hA0
  refine (walk a0 a1 a2 b0 b1 b2 W (laidW_of hL)).mono fun e W' ⟨he, bel⟩ => ?_
  subst he
  exact ⟨_, rfl, _, _, _, [], _, [], hW', trodAll_mk1 (shut_bool Tryz.underlying4 _), trodAll_cons_mk (Below.trod laidOut (by kernel_rfl) (of_decide_eq_true (by kernel_rfl)) h0 bel lt0) (trodAll_cons_mk (Below.trod laidOut (by kernel_rfl) (of_decide_eq_true (by kernel_rfl)) h1 bel lt1) trodAll_mk0), rfl, bel.frame _, fun h => by cases h⟩
set_option maxRecDepth 100000 in
theorem reads (os : Os) {H : Type} (enc : TypeId × Value → H) : ∃ places, DataW.whole enc Tryz.prog ((met os).forCall (fun _ _ => 0) ⟨#[], #[.agg #[.int .i64 0, .int .i64 0, .int .i64 0], .agg #[.int .i64 0, .int .i64 0, .int .i64 0]], []⟩).memory Tryz.f4.params.toList Rows.timesOrderedSpec.vars false (#[.agg #[.int .i64 0, .int .i64 0, .int .i64 0], .agg #[.int .i64 0, .int .i64 0, .int .i64 0]] : Array Value).toList 8 = some ([.agg [.lit (.int .i64 0), .lit (.int .i64 0), .lit (.int .i64 0)], .agg [.lit (.int .i64 0), .lit (.int .i64 0), .lit (.int .i64 0)]], [], places) :=
  ⟨[], by kernel_rfl⟩
set_option maxRecDepth 100000 in
theorem lifted (os : Os) (started : os.Started) (H : Type) (enc : TypeId × Value → H) (F : Stop.Interp) :
    ReturnsInHanded {} Tryz.checked os 4 .any ((OpenSpec.ofChange Rows.timesOrderedSpec).preRow enc Tryz.prog Tryz.f4 Rows.timesOrderedRow.domain false Rows.timesOrderedRow.laid) (((OpenSpec.ofChange Rows.timesOrderedSpec).at F).post enc Tryz.prog Tryz.f4 false true false false) := by
  obtain ⟨places, hx⟩ := reads os enc
  refine returnsInHanded_of_row (C := Tryz.checked) (s := OpenSpec.ofChange Rows.timesOrderedSpec) own started (by kernel_rfl) Tryz.func4
    (witness_row (enc := enc) #[.agg #[.int .i64 0, .int .i64 0, .int .i64 0], .agg #[.int .i64 0, .int .i64 0, .int .i64 0]] (by kernel_rfl) (OpenSpec.preRow_of_cond 8 hx (by kernel_rfl) (fun k hk => by cases hk) (by kernel_rfl) (by rw [laid_plain]; exact met_laid os _))) ?_
  intro W base args ds gs before hval hW _ _ _ hL _ _
  exact contract H enc W base args ds gs before hval hW hL
theorem said : Rows.TimesOrderedSaid :=
  OpenClaim.holds_of_cond 4 Tryz.f4 rfl rfl rfl rfl rfl rfl rfl ⟨rfl, rfl, rfl, rfl, rfl⟩ rfl rfl rfl rfl rfl (by kernel_rfl) Tryz.func4 (by kernel_rfl)
    (of_decide_eq_true (by kernel_rfl)) (by unfold Func.isWrapper; first | (rw [if_pos (by decide +kernel)]; kernel_rfl) | (rw [if_neg (by decide +kernel)]; exact ⟨rfl, rfl⟩))
    (fun os started H enc _ F => by rw [OpenClaim.pre_eq_preRow]; exact lifted os started H enc F)
theorem plain (f : FuncId) (fn : Func) (hf : Tryz.pinned.checked.prog.funcNamed "relay/relaylaw02.TimesOrdered" = some f) (hfn : Tryz.pinned.checked.prog.funcs[f]? = some fn) :
    true = Tryz.pinned.checked.prog.looks [] ∧ ∀ (j : Nat) t, fn.params[j]? = some t → Tryz.pinned.checked.prog.wantsStandIn t = false := by
  obtain rfl : f = 4 := Option.some.inj ((show Tryz.prog.funcNamed "relay/relaylaw02.TimesOrdered" = some 4 by kernel_rfl).symm.trans hf) |>.symm
  obtain rfl : fn = Tryz.f4 := (Option.some.inj (Tryz.func4.symm.trans hfn)).symm
  refine ⟨by kernel_rfl, fun j t ht => ?_⟩
  rw [Tryz.params4] at ht
  obtain rfl : t = 31 := by simpa using Array.mem_of_getElem? ht
  exact (show Tryz.prog.wantsStandIn 31 = false by kernel_rfl)
theorem card : Rows.TimesOrderedCardSaid :=
  Claim7.holds_tied_plain_at .later [] _ _ _ _ said (fun _ h => by cases h) (by kernel_rfl) (fun _ h => by cases h) timesOrdered_row_tie rfl ⟨rfl, rfl⟩ (by kernel_rfl) rfl plain (by kernel_rfl)
end Go.Proofs.YteoehlcjllbhfaaGreatDoor.timesOrdered
namespace Go.Proofs.YteoehlcjllbhfaaGreatDoor
theorem timesOrdered_holds : Rows.TimesOrderedCardSaid := timesOrdered.card
#print axioms timesOrdered_holds
end Go.Proofs.YteoehlcjllbhfaaGreatDoor
