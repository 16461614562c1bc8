/- TimesOrdered: the walk of the law, out of the contracts of what it calls. -/
import Derived.Test.YteoehlcjllbhfaaGreatDoorXTimesx13
import Derived.ChangeKeysEq
namespace Go.Proofs.YteoehlcjllbhfaaGreatDoor.Ordered
open Go.RowKit Go.Proofs.YteoehlcjllbhfaaGreatDoor.XTimes Go.Proofs.YteoehlcjllbhfaaGreatDoorW.PrintWords Go.Proofs.YteoehlcjllbhfaaGreatDoorW.PrintLast Go.Proofs.YteoehlcjllbhfaaGreatDoorW.PrintMore
set_option linter.unusedVariables false
set_option linter.unusedSimpArgs false
theorem cells3 : Tryz.prog.cellsOf 3 = 1 := by kernel_rfl
set_option maxRecDepth 100000 in
/-- Two rows of three numbers, compared. -/
theorem eqv (a0 a1 a2 b0 b1 b2 : Int) (w : World) : (Op.equalIn 10000 31 (.agg #[.int .i64 a0, .int .i64 a1, .int .i64 a2]) (.agg #[.int .i64 b0, .int .i64 b1, .int .i64 b2])).run Tryz.prog w = .ok ((a0 == b0) && ((a1 == b1) && (a2 == b2))) w := by
  obtain ⟨i, hi⟩ := info_of_underlying Tryz.underlying3
  rw [show (10000 : Nat) = 9999 + 1 from rfl, run_equalIn_array w 9999 _ _ Tryz.underlying31 hi, cells3]
  have p0 : ∀ x y z : Value, (part 3 #[x, y, z] 0).run Tryz.prog w = .ok x w := fun x y z => by kernel_rfl
  have p1 : ∀ x y z : Value, (part 3 #[x, y, z] 1).run Tryz.prog w = .ok y w := fun x y z => by kernel_rfl
  have p2 : ∀ x y z : Value, (part 3 #[x, y, z] 2).run Tryz.prog w = .ok z w := fun x y z => by kernel_rfl
  have q : ∀ a b : Int, (Op.equalIn 9999 3 (.int .i64 a) (.int .i64 b)).run Tryz.prog w = .ok (a == b) w := fun a b => run_equalIn_int w 9998 3 .i64 .i64 a b Tryz.underlying3
  rw [show List.range 3 = [0, 1, 2] from rfl]
  simp only [Op.eqItems, Sem.run_bind, Nat.mul_one, p0, q, Result.andThen_ok]
  cases a0 == b0
  · simp
  simp only [Bool.not_true, Bool.false_eq_true, if_false, Sem.run_bind, p1, q, Result.andThen_ok, Bool.true_eq_false]
  cases a1 == b1
  · simp
  simp only [Bool.not_true, Bool.false_eq_true, if_false, Sem.run_bind, p2, q, Result.andThen_ok, Bool.true_eq_false]
  cases a2 == b2 <;> simp
attribute [local go_sem] eqv
/-- What the walks ask of the world where the two arguments have their own blocks. -/
abbrev box (w : World) (a0 a1 a2 b0 b1 b2 : Int) : World := (w.alloc (Obj.cells #[Value.int IntKind.i64 a0, Value.int IntKind.i64 a1, Value.int IntKind.i64 a2] 31)).alloc (Obj.cells #[Value.int IntKind.i64 b0, Value.int IntKind.i64 b1, Value.int IntKind.i64 b2] 31)
set_option maxHeartbeats 2000000 in
set_option maxRecDepth 100000 in
theorem outside1 (k : Nat) (a0 a1 a2 b0 b1 b2 m n : Int) (is : Bool) (w : World) (hL : LaidW w) (h1 : times_Days.f k a0 a1 a2 = some (m, false)) (h2 : times_Days.f k b0 b1 b2 = some (n, is)) (h3 : relaylaw02_awake.f k = some true) :
    Calls Tryz.prog 4 #[.agg #[.int .i64 a0, .int .i64 a1, .int .i64 a2], .agg #[.int .i64 b0, .int .i64 b1, .int .i64 b2]] w fun e w' => e = .returned (.bool true) ∧ Below w.heap.size w w' := by
  have H1 := Aside0.mk h1
  have H2 := Aside0.mk h2
  have H3 := Aside0.mk h3
  have hB := Go.Joins.below_alloc2 w (Obj.cells #[Value.int IntKind.i64 a0, Value.int IntKind.i64 a1, Value.int IntKind.i64 a2] 31) (Obj.cells #[Value.int IntKind.i64 b0, Value.int IntKind.i64 b1, Value.int IntKind.i64 b2] 31)
  have HL := Aside0.mk (hL.below hB)
  have HB := Aside0.mk hB
  clear h1 h2 h3 hL hB
  go_enter Tryz.func4, Tryz.ntmps4
  go_wp2_with (first
    | (go_at_call 11; (with_reducible refine (times_Days.calls k a0 a1 a2 m false _ ?h1 H1.out).mono ?_); (case h1 => exact HL.out.drawn (by repeat (first | exact Drawn0.refl _ | apply Drawn0.step))); rintro e w' ⟨rfl, nd, rfl⟩)
    | (go_at_call 11; (with_reducible refine (times_Days.calls k b0 b1 b2 n is _ ?h2 H2.out).mono ?_); (case h2 => exact HL.out.drawn (by repeat (first | exact Drawn0.refl _ | apply Drawn0.step))); rintro e w' ⟨rfl, nd', rfl⟩)
    | (go_at_call 9; (with_reducible refine (relaylaw02_awake.calls k true _ ?h3 H3.out).mono ?_); (case h3 => exact HL.out.drawn (by repeat (first | exact Drawn0.refl _ | apply Drawn0.step))); rintro e w' ⟨rfl, hb⟩))
  go_ret
  exact ⟨rfl, (HB.out.trans (Go.Joins.below_draws _ _ _)).trans (hb.mono (by simp; omega))⟩
set_option maxHeartbeats 2000000 in
set_option maxRecDepth 100000 in
theorem outside2 (k : Nat) (a0 a1 a2 b0 b1 b2 m n : Int) (w : World) (hL : LaidW w) (h1 : times_Days.f k a0 a1 a2 = some (m, true)) (h2 : times_Days.f k b0 b1 b2 = some (n, false)) (h3 : relaylaw02_awake.f k = some true) :
    Calls Tryz.prog 4 #[.agg #[.int .i64 a0, .int .i64 a1, .int .i64 a2], .agg #[.int .i64 b0, .int .i64 b1, .int .i64 b2]] w fun e w' => e = .returned (.bool true) ∧ Below w.heap.size w w' := by
  have H1 := Aside0.mk h1
  have H2 := Aside0.mk h2
  have H3 := Aside0.mk h3
  have hB := Go.Joins.below_alloc2 w (Obj.cells #[Value.int IntKind.i64 a0, Value.int IntKind.i64 a1, Value.int IntKind.i64 a2] 31) (Obj.cells #[Value.int IntKind.i64 b0, Value.int IntKind.i64 b1, Value.int IntKind.i64 b2] 31)
  have HL := Aside0.mk (hL.below hB)
  have HB := Aside0.mk hB
  clear h1 h2 h3 hL hB
  go_enter Tryz.func4, Tryz.ntmps4
  go_wp2_with (first
    | (go_at_call 11; (with_reducible refine (times_Days.calls k a0 a1 a2 m true _ ?h1 H1.out).mono ?_); (case h1 => exact HL.out.drawn (by repeat (first | exact Drawn0.refl _ | apply Drawn0.step))); rintro e w' ⟨rfl, nd, rfl⟩)
    | (go_at_call 11; (with_reducible refine (times_Days.calls k b0 b1 b2 n false _ ?h2 H2.out).mono ?_); (case h2 => exact HL.out.drawn (by repeat (first | exact Drawn0.refl _ | apply Drawn0.step))); rintro e w' ⟨rfl, nd', rfl⟩)
    | (go_at_call 9; (with_reducible refine (relaylaw02_awake.calls k true _ ?h3 H3.out).mono ?_); (case h3 => exact HL.out.drawn (by repeat (first | exact Drawn0.refl _ | apply Drawn0.step))); rintro e w' ⟨rfl, hb⟩))
  go_ret
  exact ⟨rfl, (HB.out.trans (Go.Joins.below_draws _ _ _)).trans (hb.mono (by simp; omega))⟩
set_option maxHeartbeats 2000000 in
set_option maxRecDepth 100000 in
theorem more1 (k : Nat) (a0 a1 a2 b0 b1 b2 m n : Int) (w : World) (hL : LaidW w) (h1 : times_Days.f k a0 a1 a2 = some (m, true)) (h2 : times_Days.f k b0 b1 b2 = some (n, true)) (g0 : a0 > b0) (g3 : m > n) (h3 : relaylaw02_awake.f k = some true) :
    Calls Tryz.prog 4 #[.agg #[.int .i64 a0, .int .i64 a1, .int .i64 a2], .agg #[.int .i64 b0, .int .i64 b1, .int .i64 b2]] w fun e w' => e = .returned (.bool true) ∧ Below w.heap.size w w' := by
  have H1 := Aside0.mk h1
  have H2 := Aside0.mk h2
  have H3 := Aside0.mk h3
  have hB := Go.Joins.below_alloc2 w (Obj.cells #[Value.int IntKind.i64 a0, Value.int IntKind.i64 a1, Value.int IntKind.i64 a2] 31) (Obj.cells #[Value.int IntKind.i64 b0, Value.int IntKind.i64 b1, Value.int IntKind.i64 b2] 31)
  have HL := Aside0.mk (hL.below hB)
  have HB := Aside0.mk hB
  clear h1 h2 h3 hL hB
  have c0 : decide (a0 > b0) = true := decide_eq_true g0
  have d0 : (a0 == b0) = false := beq_eq_false_iff_ne.mpr (by omega)
  have c3 : decide (m > n) = true := decide_eq_true g3
  have d3 : (m == n) = false := beq_eq_false_iff_ne.mpr (by omega)
  go_enter Tryz.func4, Tryz.ntmps4
  go_wp2_with (first
    | (go_at_call 11; (with_reducible refine (times_Days.calls k a0 a1 a2 m true _ ?h1 H1.out).mono ?_); (case h1 => exact HL.out.drawn (by repeat (first | exact Drawn0.refl _ | apply Drawn0.step))); rintro e w' ⟨rfl, nd, rfl⟩)
    | (go_at_call 11; (with_reducible refine (times_Days.calls k b0 b1 b2 n true _ ?h2 H2.out).mono ?_); (case h2 => exact HL.out.drawn (by repeat (first | exact Drawn0.refl _ | apply Drawn0.step))); rintro e w' ⟨rfl, nd', rfl⟩)
    | (go_at_call 9; (with_reducible refine (relaylaw02_awake.calls k true _ ?h3 H3.out).mono ?_); (case h3 => exact HL.out.drawn (by repeat (first | exact Drawn0.refl _ | apply Drawn0.step))); rintro e w' ⟨rfl, hb⟩))
  go_ret
  exact ⟨rfl, (HB.out.trans (Go.Joins.below_draws _ _ _)).trans (hb.mono (by simp; omega))⟩
set_option maxHeartbeats 2000000 in
set_option maxRecDepth 100000 in
theorem more2 (k : Nat) (a0 a1 a2 b1 b2 m n : Int) (w : World) (hL : LaidW w) (h1 : times_Days.f k a0 a1 a2 = some (m, true)) (h2 : times_Days.f k a0 b1 b2 = some (n, true)) (g1 : a1 > b1) (g3 : m > n) (h3 : relaylaw02_awake.f k = some true) :
    Calls Tryz.prog 4 #[.agg #[.int .i64 a0, .int .i64 a1, .int .i64 a2], .agg #[.int .i64 a0, .int .i64 b1, .int .i64 b2]] w fun e w' => e = .returned (.bool true) ∧ Below w.heap.size w w' := by
  have H1 := Aside0.mk h1
  have H2 := Aside0.mk h2
  have H3 := Aside0.mk h3
  have hB := Go.Joins.below_alloc2 w (Obj.cells #[Value.int IntKind.i64 a0, Value.int IntKind.i64 a1, Value.int IntKind.i64 a2] 31) (Obj.cells #[Value.int IntKind.i64 a0, Value.int IntKind.i64 b1, Value.int IntKind.i64 b2] 31)
  have HL := Aside0.mk (hL.below hB)
  have HB := Aside0.mk hB
  clear h1 h2 h3 hL hB
  have c1 : decide (a1 > b1) = true := decide_eq_true g1
  have d1 : (a1 == b1) = false := beq_eq_false_iff_ne.mpr (by omega)
  have c3 : decide (m > n) = true := decide_eq_true g3
  have d3 : (m == n) = false := beq_eq_false_iff_ne.mpr (by omega)
  go_enter Tryz.func4, Tryz.ntmps4
  go_wp2_with (first
    | (go_at_call 11; (with_reducible refine (times_Days.calls k a0 a1 a2 m true _ ?h1 H1.out).mono ?_); (case h1 => exact HL.out.drawn (by repeat (first | exact Drawn0.refl _ | apply Drawn0.step))); rintro e w' ⟨rfl, nd, rfl⟩)
    | (go_at_call 11; (with_reducible refine (times_Days.calls k a0 b1 b2 n true _ ?h2 H2.out).mono ?_); (case h2 => exact HL.out.drawn (by repeat (first | exact Drawn0.refl _ | apply Drawn0.step))); rintro e w' ⟨rfl, nd', rfl⟩)
    | (go_at_call 9; (with_reducible refine (relaylaw02_awake.calls k true _ ?h3 H3.out).mono ?_); (case h3 => exact HL.out.drawn (by repeat (first | exact Drawn0.refl _ | apply Drawn0.step))); rintro e w' ⟨rfl, hb⟩))
  go_ret
  exact ⟨rfl, (HB.out.trans (Go.Joins.below_draws _ _ _)).trans (hb.mono (by simp; omega))⟩
set_option maxHeartbeats 2000000 in
set_option maxRecDepth 100000 in
theorem more3 (k : Nat) (a0 a1 a2 b2 m n : Int) (w : World) (hL : LaidW w) (h1 : times_Days.f k a0 a1 a2 = some (m, true)) (h2 : times_Days.f k a0 a1 b2 = some (n, true)) (g2 : a2 > b2) (g3 : m > n) (h3 : relaylaw02_awake.f k = some true) :
    Calls Tryz.prog 4 #[.agg #[.int .i64 a0, .int .i64 a1, .int .i64 a2], .agg #[.int .i64 a0, .int .i64 a1, .int .i64 b2]] w fun e w' => e = .returned (.bool true) ∧ Below w.heap.size w w' := by
  have H1 := Aside0.mk h1
  have H2 := Aside0.mk h2
  have H3 := Aside0.mk h3
  have hB := Go.Joins.below_alloc2 w (Obj.cells #[Value.int IntKind.i64 a0, Value.int IntKind.i64 a1, Value.int IntKind.i64 a2] 31) (Obj.cells #[Value.int IntKind.i64 a0, Value.int IntKind.i64 a1, Value.int IntKind.i64 b2] 31)
  have HL := Aside0.mk (hL.below hB)
  have HB := Aside0.mk hB
  clear h1 h2 h3 hL hB
  have c2 : decide (a2 > b2) = true := decide_eq_true g2
  have d2 : (a2 == b2) = false := beq_eq_false_iff_ne.mpr (by omega)
  have c3 : decide (m > n) = true := decide_eq_true g3
  have d3 : (m == n) = false := beq_eq_false_iff_ne.mpr (by omega)
  go_enter Tryz.func4, Tryz.ntmps4
  go_wp2_with (first
    | (go_at_call 11; (with_reducible refine (times_Days.calls k a0 a1 a2 m true _ ?h1 H1.out).mono ?_); (case h1 => exact HL.out.drawn (by repeat (first | exact Drawn0.refl _ | apply Drawn0.step))); rintro e w' ⟨rfl, nd, rfl⟩)
    | (go_at_call 11; (with_reducible refine (times_Days.calls k a0 a1 b2 n true _ ?h2 H2.out).mono ?_); (case h2 => exact HL.out.drawn (by repeat (first | exact Drawn0.refl _ | apply Drawn0.step))); rintro e w' ⟨rfl, nd', rfl⟩)
    | (go_at_call 9; (with_reducible refine (relaylaw02_awake.calls k true _ ?h3 H3.out).mono ?_); (case h3 => exact HL.out.drawn (by repeat (first | exact Drawn0.refl _ | apply Drawn0.step))); rintro e w' ⟨rfl, hb⟩))
  go_ret
  exact ⟨rfl, (HB.out.trans (Go.Joins.below_draws _ _ _)).trans (hb.mono (by simp; omega))⟩
set_option maxHeartbeats 2000000 in
set_option maxRecDepth 100000 in
theorem less1 (k : Nat) (a0 a1 a2 b0 b1 b2 m n : Int) (w : World) (hL : LaidW w) (h1 : times_Days.f k a0 a1 a2 = some (m, true)) (h2 : times_Days.f k b0 b1 b2 = some (n, true)) (g0 : a0 < b0) (g3 : m < n) (h3 : relaylaw02_awake.f k = some true) :
    Calls Tryz.prog 4 #[.agg #[.int .i64 a0, .int .i64 a1, .int .i64 a2], .agg #[.int .i64 b0, .int .i64 b1, .int .i64 b2]] w fun e w' => e = .returned (.bool true) ∧ Below w.heap.size w w' := by
  have H1 := Aside0.mk h1
  have H2 := Aside0.mk h2
  have H3 := Aside0.mk h3
  have hB := Go.Joins.below_alloc2 w (Obj.cells #[Value.int IntKind.i64 a0, Value.int IntKind.i64 a1, Value.int IntKind.i64 a2] 31) (Obj.cells #[Value.int IntKind.i64 b0, Value.int IntKind.i64 b1, Value.int IntKind.i64 b2] 31)
  have HL := Aside0.mk (hL.below hB)
  have HB := Aside0.mk hB
  clear h1 h2 h3 hL hB
  have c0 : decide (a0 > b0) = false := decide_eq_false (by omega)
  have d0 : (a0 == b0) = false := beq_eq_false_iff_ne.mpr (by omega)
  have c3 : decide (m > n) = false := decide_eq_false (by omega)
  have d3 : (m == n) = false := beq_eq_false_iff_ne.mpr (by omega)
  go_enter Tryz.func4, Tryz.ntmps4
  go_wp2_with (first
    | (go_at_call 11; (with_reducible refine (times_Days.calls k a0 a1 a2 m true _ ?h1 H1.out).mono ?_); (case h1 => exact HL.out.drawn (by repeat (first | exact Drawn0.refl _ | apply Drawn0.step))); rintro e w' ⟨rfl, nd, rfl⟩)
    | (go_at_call 11; (with_reducible refine (times_Days.calls k b0 b1 b2 n true _ ?h2 H2.out).mono ?_); (case h2 => exact HL.out.drawn (by repeat (first | exact Drawn0.refl _ | apply Drawn0.step))); rintro e w' ⟨rfl, nd', rfl⟩)
    | (go_at_call 9; (with_reducible refine (relaylaw02_awake.calls k true _ ?h3 H3.out).mono ?_); (case h3 => exact HL.out.drawn (by repeat (first | exact Drawn0.refl _ | apply Drawn0.step))); rintro e w' ⟨rfl, hb⟩))
  go_ret
  exact ⟨rfl, (HB.out.trans (Go.Joins.below_draws _ _ _)).trans (hb.mono (by simp; omega))⟩
set_option maxHeartbeats 2000000 in
set_option maxRecDepth 100000 in
theorem less2 (k : Nat) (a0 a1 a2 b1 b2 m n : Int) (w : World) (hL : LaidW w) (h1 : times_Days.f k a0 a1 a2 = some (m, true)) (h2 : times_Days.f k a0 b1 b2 = some (n, true)) (g1 : a1 < b1) (g3 : m < n) (h3 : relaylaw02_awake.f k = some true) :
    Calls Tryz.prog 4 #[.agg #[.int .i64 a0, .int .i64 a1, .int .i64 a2], .agg #[.int .i64 a0, .int .i64 b1, .int .i64 b2]] w fun e w' => e = .returned (.bool true) ∧ Below w.heap.size w w' := by
  have H1 := Aside0.mk h1
  have H2 := Aside0.mk h2
  have H3 := Aside0.mk h3
  have hB := Go.Joins.below_alloc2 w (Obj.cells #[Value.int IntKind.i64 a0, Value.int IntKind.i64 a1, Value.int IntKind.i64 a2] 31) (Obj.cells #[Value.int IntKind.i64 a0, Value.int IntKind.i64 b1, Value.int IntKind.i64 b2] 31)
  have HL := Aside0.mk (hL.below hB)
  have HB := Aside0.mk hB
  clear h1 h2 h3 hL hB
  have c1 : decide (a1 > b1) = false := decide_eq_false (by omega)
  have d1 : (a1 == b1) = false := beq_eq_false_iff_ne.mpr (by omega)
  have c3 : decide (m > n) = false := decide_eq_false (by omega)
  have d3 : (m == n) = false := beq_eq_false_iff_ne.mpr (by omega)
  go_enter Tryz.func4, Tryz.ntmps4
  go_wp2_with (first
    | (go_at_call 11; (with_reducible refine (times_Days.calls k a0 a1 a2 m true _ ?h1 H1.out).mono ?_); (case h1 => exact HL.out.drawn (by repeat (first | exact Drawn0.refl _ | apply Drawn0.step))); rintro e w' ⟨rfl, nd, rfl⟩)
    | (go_at_call 11; (with_reducible refine (times_Days.calls k a0 b1 b2 n true _ ?h2 H2.out).mono ?_); (case h2 => exact HL.out.drawn (by repeat (first | exact Drawn0.refl _ | apply Drawn0.step))); rintro e w' ⟨rfl, nd', rfl⟩)
    | (go_at_call 9; (with_reducible refine (relaylaw02_awake.calls k true _ ?h3 H3.out).mono ?_); (case h3 => exact HL.out.drawn (by repeat (first | exact Drawn0.refl _ | apply Drawn0.step))); rintro e w' ⟨rfl, hb⟩))
  go_ret
  exact ⟨rfl, (HB.out.trans (Go.Joins.below_draws _ _ _)).trans (hb.mono (by simp; omega))⟩
set_option maxHeartbeats 2000000 in
set_option maxRecDepth 100000 in
theorem less3 (k : Nat) (a0 a1 a2 b2 m n : Int) (w : World) (hL : LaidW w) (h1 : times_Days.f k a0 a1 a2 = some (m, true)) (h2 : times_Days.f k a0 a1 b2 = some (n, true)) (g2 : a2 < b2) (g3 : m < n) (h3 : relaylaw02_awake.f k = some true) :
    Calls Tryz.prog 4 #[.agg #[.int .i64 a0, .int .i64 a1, .int .i64 a2], .agg #[.int .i64 a0, .int .i64 a1, .int .i64 b2]] w fun e w' => e = .returned (.bool true) ∧ Below w.heap.size w w' := by
  have H1 := Aside0.mk h1
  have H2 := Aside0.mk h2
  have H3 := Aside0.mk h3
  have hB := Go.Joins.below_alloc2 w (Obj.cells #[Value.int IntKind.i64 a0, Value.int IntKind.i64 a1, Value.int IntKind.i64 a2] 31) (Obj.cells #[Value.int IntKind.i64 a0, Value.int IntKind.i64 a1, Value.int IntKind.i64 b2] 31)
  have HL := Aside0.mk (hL.below hB)
  have HB := Aside0.mk hB
  clear h1 h2 h3 hL hB
  have c2 : decide (a2 > b2) = false := decide_eq_false (by omega)
  have d2 : (a2 == b2) = false := beq_eq_false_iff_ne.mpr (by omega)
  have c3 : decide (m > n) = false := decide_eq_false (by omega)
  have d3 : (m == n) = false := beq_eq_false_iff_ne.mpr (by omega)
  go_enter Tryz.func4, Tryz.ntmps4
  go_wp2_with (first
    | (go_at_call 11; (with_reducible refine (times_Days.calls k a0 a1 a2 m true _ ?h1 H1.out).mono ?_); (case h1 => exact HL.out.drawn (by repeat (first | exact Drawn0.refl _ | apply Drawn0.step))); rintro e w' ⟨rfl, nd, rfl⟩)
    | (go_at_call 11; (with_reducible refine (times_Days.calls k a0 a1 b2 n true _ ?h2 H2.out).mono ?_); (case h2 => exact HL.out.drawn (by repeat (first | exact Drawn0.refl _ | apply Drawn0.step))); rintro e w' ⟨rfl, nd', rfl⟩)
    | (go_at_call 9; (with_reducible refine (relaylaw02_awake.calls k true _ ?h3 H3.out).mono ?_); (case h3 => exact HL.out.drawn (by repeat (first | exact Drawn0.refl _ | apply Drawn0.step))); rintro e w' ⟨rfl, hb⟩))
  go_ret
  exact ⟨rfl, (HB.out.trans (Go.Joins.below_draws _ _ _)).trans (hb.mono (by simp; omega))⟩
set_option maxHeartbeats 2000000 in
set_option maxRecDepth 100000 in
theorem alike (k : Nat) (a0 a1 a2 m : Int) (w : World) (hL : LaidW w) (h1 : times_Days.f k a0 a1 a2 = some (m, true)) (h2 : times_Days.f k a0 a1 a2 = some (m, true)) (h3 : relaylaw02_awake.f k = some true) :
    Calls Tryz.prog 4 #[.agg #[.int .i64 a0, .int .i64 a1, .int .i64 a2], .agg #[.int .i64 a0, .int .i64 a1, .int .i64 a2]] w fun e w' => e = .returned (.bool true) ∧ Below w.heap.size w w' := by
  have H1 := Aside0.mk h1
  have H2 := Aside0.mk h2
  have H3 := Aside0.mk h3
  have hB := Go.Joins.below_alloc2 w (Obj.cells #[Value.int IntKind.i64 a0, Value.int IntKind.i64 a1, Value.int IntKind.i64 a2] 31) (Obj.cells #[Value.int IntKind.i64 a0, Value.int IntKind.i64 a1, Value.int IntKind.i64 a2] 31)
  have HL := Aside0.mk (hL.below hB)
  have HB := Aside0.mk hB
  clear h1 h2 h3 hL hB
  go_enter Tryz.func4, Tryz.ntmps4
  go_wp2_with (first
    | (go_at_call 11; (with_reducible refine (times_Days.calls k a0 a1 a2 m true _ ?h1 H1.out).mono ?_); (case h1 => exact HL.out.drawn (by repeat (first | exact Drawn0.refl _ | apply Drawn0.step))); rintro e w' ⟨rfl, nd, rfl⟩)
    | (go_at_call 11; (with_reducible refine (times_Days.calls k a0 a1 a2 m true _ ?h2 H2.out).mono ?_); (case h2 => exact HL.out.drawn (by repeat (first | exact Drawn0.refl _ | apply Drawn0.step))); rintro e w' ⟨rfl, nd', rfl⟩)
    | (go_at_call 9; (with_reducible refine (relaylaw02_awake.calls k true _ ?h3 H3.out).mono ?_); (case h3 => exact HL.out.drawn (by repeat (first | exact Drawn0.refl _ | apply Drawn0.step))); rintro e w' ⟨rfl, hb⟩))
  go_ret
  exact ⟨rfl, (HB.out.trans (Go.Joins.below_draws _ _ _)).trans (hb.mono (by simp; omega))⟩
end Go.Proofs.YteoehlcjllbhfaaGreatDoor.Ordered
