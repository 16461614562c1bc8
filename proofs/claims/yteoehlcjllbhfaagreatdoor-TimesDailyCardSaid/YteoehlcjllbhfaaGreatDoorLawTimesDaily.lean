/- TimesDaily: for every number, what Civil, Days and Week tell fits. -/
import Derived.Test.YteoehlcjllbhfaaGreatDoorCards
import Derived.Test.YteoehlcjllbhfaaGreatDoorTie
import Derived.Test.YteoehlcjllbhfaaGreatDoorMetRow
import Derived.Test.YteoehlcjllbhfaaGreatDoorWalkDaily
import Derived.Test.YteoehlcjllbhfaaGreatDoorCalX
import Derived.OpenShut
namespace Go.Proofs.YteoehlcjllbhfaaGreatDoor.timesDaily
open Go.ChangeShapes Go.WideShapes Go.ChangeAt Go.RowKit Go.Proofs.YteoehlcjllbhfaaGreatDoor.XTimes Go.Proofs.YteoehlcjllbhfaaGreatDoor.Cal Go.Proofs.YteoehlcjllbhfaaGreatDoor.CalX
set_option linter.unusedVariables false
theorem week {d : Int} (h0 : 0 ≤ d) (h1 : d < 84006) : times_Week.f d = some ((d + 4) % 7) := by
  unfold times_Week.f
  rw [Int.tmod_eq_emod_of_nonneg h0, wrap_eq (a := d % 7 + 7) (by omega) (by omega), wrap_eq (by omega) (by omega), Int.tmod_eq_emod_of_nonneg (by omega)]
  congr 1
  omega
/-- The law answers true. -/
theorem walk (days : Int) (w : World) (hL : LaidW w) : Calls Tryz.prog 5 #[.int .i64 days] w fun e w' => e = .returned (.bool true) ∧ Below w.heap.size w w' := by
  by_cases hd : days < 0 ∨ 84005 ≤ days
  · by_cases he : days = 84005
    · subst he
      obtain ⟨y, m, d, _, _, h⟩ := civil_yes (n := 84005) (by omega) (by omega)
      obtain ⟨k, h1, h2⟩ := both h awake
      exact Daily.outside k 84005 y m d true w hL (by omega) h1 h2 (by simp)
    · obtain ⟨k, h1, h2⟩ := both (civil_no (n := days) (by omega)) awake
      exact Daily.outside k days 0 0 0 false w hL hd h1 h2 (by simp [he])
  · have d0 : 0 ≤ days := by omega
    have d1 : days < 84005 := by omega
    obtain ⟨y, m, d, ho, hn, h⟩ := civil_yes (n := days) d0 (by omega)
    obtain ⟨a, b, c, ho', hn', h'⟩ := civil_yes (n := days + 1) (by omega) (by omega)
    have hD := days_yes ho
    rw [hn] at hD
    obtain ⟨k, h1, h2, h3⟩ : ∃ k, times_Civil.f k days = some (y, m, d, true) ∧ times_Days.f k y m d = some (days, true) ∧ times_Civil.f k (days + 1) = some (a, b, c, true) := by
      obtain ⟨k, h1, h2, h3, _⟩ := four h hD h' h'
      exact ⟨k, h1, h2, h3⟩
    have w1 := week d0 (by omega)
    have w2 := week (d := days + 1) (by omega) (by omega)
    have hb := ml_bd y m
    obtain ⟨o1, o2, o3, o4, o5, o6⟩ := id ho
    rcases next ho ho' (by rw [hn, hn']) with ⟨rfl, rfl, rfl⟩ | ⟨rfl, rfl, rfl⟩ | ⟨rfl, rfl, rfl, rfl⟩
    · exact Daily.same k days _ _ _ _ _ w hL d0 d1 o1 o2 o3 o4 o5 (by omega) h1 h2 h3 w1 w2 (by omega) (by omega) (by omega)
    · exact Daily.month k days _ _ _ _ _ w hL d0 d1 o1 o2 o3 o4 o5 (by omega) h1 h2 h3 w1 w2 (by omega) (by omega) (by omega)
    · exact Daily.year k days _ _ _ _ w hL d0 d1 o1 o2 o5 (by omega) h1 h2 h3 w1 w2 (by omega) (by omega) (by omega)
set_option maxRecDepth 100000 in
theorem contract (H : Type) (enc : TypeId × Value → H) (W : World) (base : Nat) (args : Array Value) (ds gs : List (DataW H)) (before : List MemPlace)
    (hval : ∀ (j : Nat) t v, Tryz.f5.params[j]? = some t → args[j]? = some v → Value.okWide Tryz.prog W .any base t v)
    (hW : DataW.Whole enc Tryz.prog Tryz.f5.params.toList Rows.timesDailySpec.vars false W args.toList ds gs before) (hL : laidMetH Tryz.prog laidAll W) :
    Calls Tryz.prog 5 args W fun e W' => ∃ v, e = .returned v ∧ Rows.timesDailySpec.post enc Tryz.prog Tryz.f5 false true false false W args v W' := by
  have hW' := hW
  obtain ⟨p, q, hA0, hV, rfl, hfz, hnd⟩ := hW
  have hA : DataW.TrodAll enc Tryz.prog W 0 (fun _ => true) true Tryz.f5.params.toList args.toList ds p := hA0
  rw [Tryz.params5] at hA hval
  obtain ⟨v0, vs0, d0, ds0, p0, q0, hargs, rfl, rfl, h0, r0⟩ := trodAll_cons hA
  obtain ⟨rfl, rfl, rfl⟩ := trodAll_nil r0
  obtain rfl : args = #[v0] := by cases args; simp_all
  obtain ⟨rfl, rfl⟩ := trodVars_none hV
  obtain ⟨a, rfl, rfl, rfl, wa⟩ := open_int Tryz.underlying3 (hval 0 3 v0 rfl rfl) h0
  clear hA0
  refine (walk a W (laidW_of hL)).mono fun e W' ⟨he, bel⟩ => ?_
  subst he
  exact ⟨_, rfl, _, _, _, [], [], [], hW', trodAll_mk1 (shut_bool Tryz.underlying4 _), trodAll_mk1 (shut_int Tryz.underlying3 wa), rfl, bel.frame _, fun h => by cases h⟩
set_option maxRecDepth 100000 in
theorem reads (os : Os) {H : Type} (enc : TypeId × Value → H) : ∃ places, DataW.whole enc Tryz.prog ((met os).forCall (fun _ _ => 0) ⟨#[], #[.int .i64 0], []⟩).memory Tryz.f5.params.toList Rows.timesDailySpec.vars false #[Value.int .i64 0].toList 8 = some ([.lit (.int .i64 0)], [], places) :=
  ⟨[], by kernel_rfl⟩
set_option maxRecDepth 100000 in
theorem lifted (os : Os) (started : os.Started) (H : Type) (enc : TypeId × Value → H) (F : Stop.Interp) :
    ReturnsInHanded {} Tryz.checked os 5 .any ((OpenSpec.ofChange Rows.timesDailySpec).preRow enc Tryz.prog Tryz.f5 Rows.timesDailyRow.domain false Rows.timesDailyRow.laid) (((OpenSpec.ofChange Rows.timesDailySpec).at F).post enc Tryz.prog Tryz.f5 false true false false) := by
  obtain ⟨places, hx⟩ := reads os enc
  refine returnsInHanded_of_row (C := Tryz.checked) (s := OpenSpec.ofChange Rows.timesDailySpec) own started (by kernel_rfl) Tryz.func5
    (witness_row (enc := enc) #[.int .i64 0] (by kernel_rfl) (OpenSpec.preRow_of_cond 8 hx (by kernel_rfl) (fun k hk => by cases hk) (by kernel_rfl) (by rw [laid_plain]; exact met_laid os _))) ?_
  intro W base args ds gs before hval hW _ _ _ hL _ _
  exact contract H enc W base args ds gs before hval hW hL
theorem said : Rows.TimesDailySaid :=
  OpenClaim.holds_of_cond 5 Tryz.f5 rfl rfl rfl rfl rfl rfl rfl ⟨rfl, rfl, rfl, rfl, rfl⟩ rfl rfl rfl rfl rfl (by kernel_rfl) Tryz.func5 (by kernel_rfl)
    (of_decide_eq_true (by kernel_rfl)) (by unfold Func.isWrapper; first | (rw [if_pos (by decide +kernel)]; kernel_rfl) | (rw [if_neg (by decide +kernel)]; exact ⟨rfl, rfl⟩))
    (fun os started H enc _ F => by rw [OpenClaim.pre_eq_preRow]; exact lifted os started H enc F)
theorem plain (f : FuncId) (fn : Func) (hf : Tryz.pinned.checked.prog.funcNamed "relay/relaylaw02.TimesDaily" = some f) (hfn : Tryz.pinned.checked.prog.funcs[f]? = some fn) :
    true = Tryz.pinned.checked.prog.looks [] ∧ ∀ (j : Nat) t, fn.params[j]? = some t → Tryz.pinned.checked.prog.wantsStandIn t = false := by
  obtain rfl : f = 5 := Option.some.inj ((show Tryz.prog.funcNamed "relay/relaylaw02.TimesDaily" = some 5 by kernel_rfl).symm.trans hf) |>.symm
  obtain rfl : fn = Tryz.f5 := (Option.some.inj (Tryz.func5.symm.trans hfn)).symm
  refine ⟨by kernel_rfl, fun j t ht => ?_⟩
  rw [Tryz.params5] at ht
  obtain rfl : t = 3 := by simpa using Array.mem_of_getElem? ht
  exact (show Tryz.prog.wantsStandIn 3 = false by kernel_rfl)
theorem card : Rows.TimesDailyCardSaid :=
  Claim7.holds_tied_plain_at .later [] _ _ _ _ said (fun _ h => by cases h) (by kernel_rfl) (fun _ h => by cases h) timesDaily_row_tie rfl ⟨rfl, rfl⟩ (by kernel_rfl) rfl plain (by kernel_rfl)
end Go.Proofs.YteoehlcjllbhfaaGreatDoor.timesDaily
namespace Go.Proofs.YteoehlcjllbhfaaGreatDoor
theorem timesDaily_holds : Rows.TimesDailyCardSaid := timesDaily.card
#print axioms timesDaily_holds
end Go.Proofs.YteoehlcjllbhfaaGreatDoor
