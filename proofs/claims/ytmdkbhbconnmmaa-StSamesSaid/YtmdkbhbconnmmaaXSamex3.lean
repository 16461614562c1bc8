-- WRITTEN BY wip/tools/xprint.py out of the translation: the kit's print with this work's hooks.
import Derived.Test.YtmdkbhbconnmmaaXSamex0
import Derived.Test.YtmdkbhbconnmmaaXSamex2
namespace Go.Proofs.Ytmdkbhbconnmmaa.XSame
open Go.RowKit Go.Proofs.YtmdkbhbconnmmaaW.PrintWords Go.Proofs.YtmdkbhbconnmmaaW.PrintLast Go.Proofs.YtmdkbhbconnmmaaW.PrintMore
attribute [local go_sem] max2_int min2_int max_two min_two max_three min_three max_four min_four   -- for this text's walks alone
set_option linter.unusedVariables false
set_option linter.unusedSimpArgs false

/-! ### st_sameExprs: function 24 -/
/-- The operation calls what a place holds (a look ahead of a dear step). -/
theorem gate_valued {P : Program} {ops : Array Oper} {rest : List Oper} {o : Oper} {a : Act} {Q : Exit → Act → World → Prop} {W : World} {N : Tmp} {az : Array Operand} {ts : Array TypeId} (_ho : o.op = .call { callee := .value (.tmp N), args := az, argTypes := ts }) (h : wpList P ops Q (o :: rest) a W) : wpList P ops Q (o :: rest) a W := h
/-- A call of the function that a place holds, by its contract. -/
theorem goesV_ {P : Program} {ops : Array Oper} {Q : Exit → Act → World → Prop} {rest : List Oper} {oi : Oper} {a : Act} {w : World} {x : Operand} {f : FuncId} (hx : a.eval x = .func (.func f) #[] #[]) (N : Option Tmp) (hd : oi.dst = N) (hg : oi.guard = none) {fn : Func} {az : Array Operand} {ts : Array TypeId} (hf : P.funcs[f]? = some fn) (hname : (fn.name == "runtime.NumGoroutine") = false) (hb : fn.body.isSome = true) (args : Array Value)
    (hop : oi.op = .call { callee := .value x, args := az, argTypes := ts }) (hargs : az.map a.eval = args)
    (h : Calls P f args w fun e w' => ∃ v, e = .returned v ∧ wpList P ops Q rest (a.put N v) w') : wpList P ops Q (oi :: rest) a w := by
  refine wpList_plain hg fun K hK => ?_
  have he := enters_ hf hname hb args w
  have hrun : (execOp a.eval oi).run P w = .ok (.enter f args) w := by
    unfold execOp
    simp [hop, resolve, Deferred.ofValue, invoke, hx, hargs, he]
  unfold Oper.wp
  rw [hrun, Oper.upon_enter]
  refine h.mono fun e w'' hh => ?_
  obtain ⟨v, rfl, hk⟩ := hh
  subst hd
  exact hK _ _ hk
theorem eqB63 (d : Nat) (w : World) (x0 y0 : Int) (x1 y1 : Int) (x2 y2 : ByteArray) :
    (Op.equalIn (d + 2) 63 (.agg #[.int .u8 x0, .int .u64 x1, .string x2]) (.agg #[.int .u8 y0, .int .u64 y1, .string y2])).run Try.prog w = .ok (x0 == y0 && (x1 == y1 && (x2.toList == y2.toList))) w := by
  refine eqA_of Try.underlying63 (by kernel_rfl) ?_
  refine eqf_cons (by rfl) (by go_simp; rfl) (by go_simp; rfl) (by go_simp) ?_
  refine eqf_cons (by rfl) (by go_simp; rfl) (by go_simp; rfl) (by go_simp) ?_
  exact eqf_last (by rfl) (by go_simp; rfl) (by go_simp; rfl) (by go_simp)
attribute [local go_sem high] eqB63
/-! #### st_sameExprs_1, over st_sameExprs -/
def st_sameExprs_1.fOf (Fn : List (S65) → List (S65) → Option (Bool)) (k : Nat) (a0_0 : Int) (a0_1 : Int) (a0_2 : ByteArray) (a0_3 : ByteArray) (a0_4 : Int) (a0_5 : Int) (a0_6 : ByteArray) (l0_7 : List (S65)) (l0_8 : List ByteArray) (a0_9 : Int) (a0_10 : Int) (a0_11 : Int) (a0_12 : Int) (a0_13 : Int) (a1_0 : Int) (a1_1 : Int) (a1_2 : ByteArray) (a1_3 : ByteArray) (a1_4 : Int) (a1_5 : Int) (a1_6 : ByteArray) (l1_7 : List (S65)) (l1_8 : List ByteArray) (a1_9 : Int) (a1_10 : Int) (a1_11 : Int) (a1_12 : Int) (a1_13 : Int) : Option (Bool) := if a0_0 = a1_0 then (if a0_2.toList = a1_2.toList then (if a0_3.toList = a1_3.toList then (if (a0_4 == a1_4 && (a0_5 == a1_5 && (a0_6.toList == a1_6.toList))) = true then ((slices_Equal_string_string.f k l0_8 l1_8).bind fun t105 => (if t105 = true then ((Fn l0_7 l1_7).bind fun t106 => (some t106)) else (some false))) else (some false)) else (some false)) else (some false)) else (some false)

theorem st_sameExprs_1.monoOf (Fn Fn' : List (S65) → List (S65) → Option (Bool)) (hle_ : ∀ z0 z1, LeO (Fn z0 z1) (Fn' z0 z1)) : ∀ a0 a1 a2 a3 a4 a5 a6 a7 a8 a9 a10 a11 a12 a13 a14 a15 a16 a17 a18 a19 a20 a21 a22 a23 a24 a25 a26 a27 k, LeO (st_sameExprs_1.fOf Fn k a0 a1 a2 a3 a4 a5 a6 a7 a8 a9 a10 a11 a12 a13 a14 a15 a16 a17 a18 a19 a20 a21 a22 a23 a24 a25 a26 a27) (st_sameExprs_1.fOf Fn' (k + 1) a0 a1 a2 a3 a4 a5 a6 a7 a8 a9 a10 a11 a12 a13 a14 a15 a16 a17 a18 a19 a20 a21 a22 a23 a24 a25 a26 a27) := by
  intro a0 a1 a2 a3 a4 a5 a6 a7 a8 a9 a10 a11 a12 a13 a14 a15 a16 a17 a18 a19 a20 a21 a22 a23 a24 a25 a26 a27 k
  unfold st_sameExprs_1.fOf
  repeat' first
      | (with_reducible exact slices_Equal_string_string.mono _ _ _)
      | (with_reducible exact hle_ _ _)
      | (with_reducible exact LeO.refl _)
      | (with_reducible exact LeO.none _)
      | (with_reducible refine LeO.ite ?_ ?_)
      | (with_reducible refine LeO.bind ?_ (fun _ => ?_))
      | exact slices_Equal_string_string.mono _ _ _
      | exact hle_ _ _
      | exact LeO.none _
      | refine LeO.ite ?_ ?_
      | refine LeO.bind ?_ (fun _ => ?_)

set_option maxHeartbeats 8000000 in
set_option maxRecDepth 100000 in
theorem st_sameExprs_1.callsOf (Fn : List (S65) → List (S65) → Option (Bool)) (hFn : ∀ (A0 : Option Addr) (c0 : Nat) (l0 : List (S65)) (A1 : Option Addr) (c1 : Nat) (l1 : List (S65)) (r : Bool) (w : World) (hr0 : Kd.C k65 w A0 l0.length l0) (hc0 : l0.length ≤ c0) (hr1 : Kd.C k65 w A1 l1.length l1) (hc1 : l1.length ≤ c1) (h : Fn l0 l1 = some r), Calls Try.prog 24 #[.slice A0 l0.length c0, .slice A1 l1.length c1] w fun e w' => e = .returned (.bool r) ∧ Below w.heap.size w w') (k : Nat) (a0_0 : Int) (a0_1 : Int) (a0_2 : ByteArray) (a0_3 : ByteArray) (a0_4 : Int) (a0_5 : Int) (a0_6 : ByteArray) (A0_7 : Option Addr) (c0_7 : Nat) (l0_7 : List (S65)) (A0_8 : Option Addr) (c0_8 : Nat) (l0_8 : List ByteArray) (a0_9 : Int) (a0_10 : Int) (a0_11 : Int) (a0_12 : Int) (a0_13 : Int) (a1_0 : Int) (a1_1 : Int) (a1_2 : ByteArray) (a1_3 : ByteArray) (a1_4 : Int) (a1_5 : Int) (a1_6 : ByteArray) (A1_7 : Option Addr) (c1_7 : Nat) (l1_7 : List (S65)) (A1_8 : Option Addr) (c1_8 : Nat) (l1_8 : List ByteArray) (a1_9 : Int) (a1_10 : Int) (a1_11 : Int) (a1_12 : Int) (a1_13 : Int) (r : Bool) (w : World) (hr0_7 : Kd.C k65 w A0_7 l0_7.length l0_7) (hc0_7 : l0_7.length ≤ c0_7) (hr0_8 : Kd.C Kd.string w A0_8 l0_8.length l0_8) (hc0_8 : l0_8.length ≤ c0_8) (hr1_7 : Kd.C k65 w A1_7 l1_7.length l1_7) (hc1_7 : l1_7.length ≤ c1_7) (hr1_8 : Kd.C Kd.string w A1_8 l1_8.length l1_8) (hc1_8 : l1_8.length ≤ c1_8) (h : st_sameExprs_1.fOf Fn k a0_0 a0_1 a0_2 a0_3 a0_4 a0_5 a0_6 l0_7 l0_8 a0_9 a0_10 a0_11 a0_12 a0_13 a1_0 a1_1 a1_2 a1_3 a1_4 a1_5 a1_6 l1_7 l1_8 a1_9 a1_10 a1_11 a1_12 a1_13 = some r) :
    Calls Try.prog 51 #[.agg #[.int .i64 a0_0, .int .i64 a0_1, .string a0_2, .string a0_3, .int .u8 a0_4, .int .u64 a0_5, .string a0_6, .slice A0_7 l0_7.length c0_7, .slice A0_8 l0_8.length c0_8, .int .u8 a0_9, .int .i64 a0_10, .int .i64 a0_11, .int .i64 a0_12, .int .i64 a0_13], .agg #[.int .i64 a1_0, .int .i64 a1_1, .string a1_2, .string a1_3, .int .u8 a1_4, .int .u64 a1_5, .string a1_6, .slice A1_7 l1_7.length c1_7, .slice A1_8 l1_8.length c1_8, .int .u8 a1_9, .int .i64 a1_10, .int .i64 a1_11, .int .i64 a1_12, .int .i64 a1_13]] w fun e w' => e = .returned (.bool r) ∧ Below w.heap.size w w' := by
  have hu65 := Try.underlying65
  have hu63 := Try.underlying63
  have HR0_7 := Aside0.mk hr0_7
  have HC0_7 := Aside0.mk hc0_7
  clear hr0_7 hc0_7
  have HR0_8 := Aside0.mk hr0_8
  have HC0_8 := Aside0.mk hc0_8
  clear hr0_8 hc0_8
  have HR1_7 := Aside0.mk hr1_7
  have HC1_7 := Aside0.mk hc1_7
  clear hr1_7 hc1_7
  have HR1_8 := Aside0.mk hr1_8
  have HC1_8 := Aside0.mk hc1_8
  clear hr1_8 hc1_8
  have HB := Aside0.mk (Below.refl w.heap.size w)
  have H : (if a0_0 = a1_0 then (if a0_2.toList = a1_2.toList then (if a0_3.toList = a1_3.toList then (if (a0_4 == a1_4 && (a0_5 == a1_5 && (a0_6.toList == a1_6.toList))) = true then ((slices_Equal_string_string.f k l0_8 l1_8).bind fun t105 => (if t105 = true then ((Fn l0_7 l1_7).bind fun t106 => (some t106)) else (some false))) else (some false)) else (some false)) else (some false)) else (some false)) = some r := h
  clear h
  refine (Classical.em (a0_0 = a1_0)).elim (fun c3 => ?p1_) (fun c3 => ?n1_)
  case' p1_ =>
    rw [if_pos c3] at H
    have c3b0 : (a0_0 == a1_0) = true := beq_iff_eq.mpr c3
    have c3b1 : (a0_0 != a1_0) = false := bne_eq_false_iff_eq.mpr c3
    clear c3
    refine (Classical.em (a0_2.toList = a1_2.toList)).elim (fun c4 => ?p2_) (fun c4 => ?n2_)
    case' p2_ =>
      rw [if_pos c4] at H
      have c4b0 : (a0_2.toList == a1_2.toList) = true := beq_iff_eq.mpr c4
      have c4b1 : (a0_2.toList != a1_2.toList) = false := bne_eq_false_iff_eq.mpr c4
      clear c4
      refine (Classical.em (a0_3.toList = a1_3.toList)).elim (fun c5 => ?p3_) (fun c5 => ?n3_)
      case' p3_ =>
        rw [if_pos c5] at H
        have c5b0 : (a0_3.toList == a1_3.toList) = true := beq_iff_eq.mpr c5
        have c5b1 : (a0_3.toList != a1_3.toList) = false := bne_eq_false_iff_eq.mpr c5
        clear c5
        refine (Classical.em ((a0_4 == a1_4 && (a0_5 == a1_5 && (a0_6.toList == a1_6.toList))) = true)).elim (fun c6 => ?p4_) (fun c6 => ?n4_)
        case' p4_ =>
          rw [if_pos c6] at H
          have c6b0 : (a0_4 == a1_4 && (a0_5 == a1_5 && (a0_6.toList == a1_6.toList))) = true := c6
          (try (have c6b1 : decide (a0_4 = a1_4 && (a0_5 == a1_5 && (a0_6.toList == a1_6.toList))) = true := by simpa using c6))
          (try (have c6b2 : (a0_4 == a1_4 && (a0_5 == a1_5 && (a0_6.toList == a1_6.toList))) = true := by simpa using c6))
          clear c6
          replace H := Option.bind_eq_some_iff.mp H
          obtain ⟨t105, A70, H⟩ := H
          replace H : (if t105 = true then ((Fn l0_7 l1_7).bind fun t106 => (some t106)) else (some false)) = some r := H
          have A7 := Aside0.mk A70
          clear A70
          refine (Classical.em (t105 = true)).elim (fun c8 => ?p5_) (fun c8 => ?n5_)
          case' p5_ =>
            subst c8
            have H1 : ((Fn l0_7 l1_7).bind fun t106 => (some t106)) = some r := by rw [if_pos rfl] at H; exact H
            clear H
            have H := H1
            clear H1
            replace H := Option.bind_eq_some_iff.mp H
            obtain ⟨t106, A90, H⟩ := H
            replace H : (some t106) = some r := H
            have A9 := Aside0.mk A90
            clear A90
            obtain rfl := Option.some.inj H
            go_enter Try.func51, Try.ntmps51
          case' n5_ =>
            replace c8 := Bool.eq_false_iff.mpr c8
            subst c8
            have H1 : (some false) = some r := by rw [if_neg (show ¬ (false = true) by decide)] at H; exact H
            clear H
            have H := H1
            clear H1
            obtain rfl := Option.some.inj H
            go_enter Try.func51, Try.ntmps51
        case' n4_ =>
          rw [if_neg c6] at H
          have c6b0 : (a0_4 == a1_4 && (a0_5 == a1_5 && (a0_6.toList == a1_6.toList))) = false := by simpa using c6
          (try (have c6b1 : decide (a0_4 = a1_4 && (a0_5 == a1_5 && (a0_6.toList == a1_6.toList))) = false := by simpa using c6))
          (try (have c6b2 : (a0_4 == a1_4 && (a0_5 == a1_5 && (a0_6.toList == a1_6.toList))) = false := by simpa using c6))
          (try (have c6b3 : ¬ (a0_4 = a1_4 && (a0_5 == a1_5 && (a0_6.toList == a1_6.toList))) := by simpa using c6))
          clear c6
          obtain rfl := Option.some.inj H
          go_enter Try.func51, Try.ntmps51
      case' n3_ =>
        rw [if_neg c5] at H
        have c5b0 : (a0_3.toList == a1_3.toList) = false := beq_eq_false_iff_ne.mpr c5
        have c5b1 : (a0_3.toList != a1_3.toList) = true := bne_iff_ne.mpr c5
        obtain rfl := Option.some.inj H
        go_enter Try.func51, Try.ntmps51
    case' n2_ =>
      rw [if_neg c4] at H
      have c4b0 : (a0_2.toList == a1_2.toList) = false := beq_eq_false_iff_ne.mpr c4
      have c4b1 : (a0_2.toList != a1_2.toList) = true := bne_iff_ne.mpr c4
      obtain rfl := Option.some.inj H
      go_enter Try.func51, Try.ntmps51
  case' n1_ =>
    rw [if_neg c3] at H
    have c3b0 : (a0_0 == a1_0) = false := beq_eq_false_iff_ne.mpr c3
    have c3b1 : (a0_0 != a1_0) = true := bne_iff_ne.mpr c3
    obtain rfl := Option.some.inj H
    go_enter Try.func51, Try.ntmps51
  all_goals go_wp2_with (first | ((with_reducible refine gate_dst (N := 2) rfl ?_); refine box_event ?hg (N := 2) ?hd (cs := #[.int .i64 a0_0, .int .i64 a0_1, .string a0_2, .string a0_3, .int .u8 a0_4, .int .u64 a0_5, .string a0_6, .slice A0_7 l0_7.length c0_7, .slice A0_8 l0_8.length c0_8, .int .u8 a0_9, .int .i64 a0_10, .int .i64 a0_11, .int .i64 a0_12, .int .i64 a0_13]) (t := 65) ?hr ?_; (case hd => rfl); (case hg => rfl); (case hr => first | (go_simp; done) | (go_simp; rfl)); intro gb103 hg w10 hbox hb; have n0_ := Aside0.mk (below_step (by repeat (first | (with_reducible first | exact HB.out | apply below_alloc | apply pw_below_drewN | apply below_drew1) | exact HB.out)) hb); have n1_ := Aside0.mk (hbox); have n2_ := Aside0.mk ((by rw [hg]; exact (below_size (by repeat (first | (with_reducible first | exact HB.out | apply below_alloc | apply pw_below_drewN | apply below_drew1) | exact HB.out))) : w.heap.size ≤ gb103)); have n3_ := Aside0.mk ((by rw [hg]; exact (below_size (by repeat (first | (with_reducible first | exact HB.out | apply below_alloc | apply pw_below_drewN | apply below_drew1) | exact HB.out))) : w.heap.size ≤ gb103)); clear HB; have HB := n0_; have BK103 := n1_; have GW103 := n2_; have GE103 := n3_; clear n0_ n1_ n2_ n3_; clear hb hbox hg) | ((with_reducible refine gate_dst (N := 3) rfl ?_); refine box_event ?hg (N := 3) ?hd (cs := #[.int .i64 a1_0, .int .i64 a1_1, .string a1_2, .string a1_3, .int .u8 a1_4, .int .u64 a1_5, .string a1_6, .slice A1_7 l1_7.length c1_7, .slice A1_8 l1_8.length c1_8, .int .u8 a1_9, .int .i64 a1_10, .int .i64 a1_11, .int .i64 a1_12, .int .i64 a1_13]) (t := 65) ?hr ?_; (case hd => rfl); (case hg => rfl); (case hr => first | (go_simp; done) | (go_simp; rfl)); intro gb104 hg w11 hbox hb; have n0_ := Aside0.mk (blk_below (g := gb103) (o := .cells #[.int .i64 a0_0, .int .i64 a0_1, .string a0_2, .string a0_3, .int .u8 a0_4, .int .u64 a0_5, .string a0_6, .slice A0_7 l0_7.length c0_7, .slice A0_8 l0_8.length c0_8, .int .u8 a0_9, .int .i64 a0_10, .int .i64 a0_11, .int .i64 a0_12, .int .i64 a0_13] 65 (0, 0)) (by (with_reducible repeat (first | refine blk_drewN ?_ _ | refine blk_drew ?_ | refine blk_alloc ?_ _)); exact BK103.out) hb); have n1_ := Aside0.mk (below_step (by repeat (first | (with_reducible first | exact HB.out | apply below_alloc | apply pw_below_drewN | apply below_drew1 | refine below_set ?_ GE103.out) | exact HB.out)) hb); have n2_ := Aside0.mk (hbox); have n3_ := Aside0.mk ((by rw [hg]; exact (below_size (by repeat (first | (with_reducible first | exact HB.out | apply below_alloc | apply pw_below_drewN | apply below_drew1 | refine below_set ?_ GE103.out) | exact HB.out))) : w.heap.size ≤ gb104)); have n4_ := Aside0.mk ((by rw [hg]; exact (below_size (by repeat (first | (with_reducible first | exact HB.out | apply below_alloc | apply pw_below_drewN | apply below_drew1 | refine below_set ?_ GE103.out) | exact HB.out))) : w.heap.size ≤ gb104)); have n5_ := Aside0.mk ((by rw [hg]; exact Nat.ne_of_lt (blk_lt (g := gb103) (o := .cells #[.int .i64 a0_0, .int .i64 a0_1, .string a0_2, .string a0_3, .int .u8 a0_4, .int .u64 a0_5, .string a0_6, .slice A0_7 l0_7.length c0_7, .slice A0_8 l0_8.length c0_8, .int .u8 a0_9, .int .i64 a0_10, .int .i64 a0_11, .int .i64 a0_12, .int .i64 a0_13] 65 (0, 0)) (by (with_reducible repeat (first | refine blk_drewN ?_ _ | refine blk_drew ?_ | refine blk_alloc ?_ _)); exact BK103.out)) : gb103 ≠ gb104)); have n6_ := Aside0.mk ((by rw [hg]; exact Nat.ne_of_gt (blk_lt (g := gb103) (o := .cells #[.int .i64 a0_0, .int .i64 a0_1, .string a0_2, .string a0_3, .int .u8 a0_4, .int .u64 a0_5, .string a0_6, .slice A0_7 l0_7.length c0_7, .slice A0_8 l0_8.length c0_8, .int .u8 a0_9, .int .i64 a0_10, .int .i64 a0_11, .int .i64 a0_12, .int .i64 a0_13] 65 (0, 0)) (by (with_reducible repeat (first | refine blk_drewN ?_ _ | refine blk_drew ?_ | refine blk_alloc ?_ _)); exact BK103.out)) : gb104 ≠ gb103)); clear BK103; clear HB; have BK103 := n0_; have HB := n1_; have BK104 := n2_; have GW104 := n3_; have GE104 := n4_; have NB103_104 := n5_; have NB104_103 := n6_; clear n0_ n1_ n2_ n3_ n4_ n5_ n6_; clear hb hbox hg; have hnb12 := NB103_104.out; have hnc12 := NB104_103.out; have hcz13_0 : w11.cell? ⟨gb103, 0, none⟩ = some (.int .i64 a0_0) := (blk_cell BK103.out 0).trans rfl; have hcz13_1 : w11.cell? ⟨gb103, 1, none⟩ = some (.int .i64 a0_1) := (blk_cell BK103.out 1).trans rfl; have hcz13_2 : w11.cell? ⟨gb103, 2, none⟩ = some (.string a0_2) := (blk_cell BK103.out 2).trans rfl; have hcz13_3 : w11.cell? ⟨gb103, 3, none⟩ = some (.string a0_3) := (blk_cell BK103.out 3).trans rfl; have hcz13_4 : w11.cell? ⟨gb103, 4, none⟩ = some (.int .u8 a0_4) := (blk_cell BK103.out 4).trans rfl; have hcz13_5 : w11.cell? ⟨gb103, 5, none⟩ = some (.int .u64 a0_5) := (blk_cell BK103.out 5).trans rfl; have hcz13_6 : w11.cell? ⟨gb103, 6, none⟩ = some (.string a0_6) := (blk_cell BK103.out 6).trans rfl; have hcz13_7 : w11.cell? ⟨gb103, 7, none⟩ = some (.slice A0_7 l0_7.length c0_7) := (blk_cell BK103.out 7).trans rfl; have hcz13_8 : w11.cell? ⟨gb103, 8, none⟩ = some (.slice A0_8 l0_8.length c0_8) := (blk_cell BK103.out 8).trans rfl; have hcz13_9 : w11.cell? ⟨gb103, 9, none⟩ = some (.int .u8 a0_9) := (blk_cell BK103.out 9).trans rfl; have hcz13_10 : w11.cell? ⟨gb103, 10, none⟩ = some (.int .i64 a0_10) := (blk_cell BK103.out 10).trans rfl; have hcz13_11 : w11.cell? ⟨gb103, 11, none⟩ = some (.int .i64 a0_11) := (blk_cell BK103.out 11).trans rfl; have hcz13_12 : w11.cell? ⟨gb103, 12, none⟩ = some (.int .i64 a0_12) := (blk_cell BK103.out 12).trans rfl; have hcz13_13 : w11.cell? ⟨gb103, 13, none⟩ = some (.int .i64 a0_13) := (blk_cell BK103.out 13).trans rfl; have hfz13_0 := blk_frozen BK103.out 0; have hfz13_1 := blk_frozen BK103.out 1; have hfz13_2 := blk_frozen BK103.out 2; have hfz13_3 := blk_frozen BK103.out 3; have hfz13_4 := blk_frozen BK103.out 4; have hfz13_5 := blk_frozen BK103.out 5; have hfz13_6 := blk_frozen BK103.out 6; have hfz13_7 := blk_frozen BK103.out 7; have hfz13_8 := blk_frozen BK103.out 8; have hfz13_9 := blk_frozen BK103.out 9; have hfz13_10 := blk_frozen BK103.out 10; have hfz13_11 := blk_frozen BK103.out 11; have hfz13_12 := blk_frozen BK103.out 12; have hfz13_13 := blk_frozen BK103.out 13; have hcz14_0 : w11.cell? ⟨gb104, 0, none⟩ = some (.int .i64 a1_0) := (blk_cell BK104.out 0).trans rfl; have hcz14_1 : w11.cell? ⟨gb104, 1, none⟩ = some (.int .i64 a1_1) := (blk_cell BK104.out 1).trans rfl; have hcz14_2 : w11.cell? ⟨gb104, 2, none⟩ = some (.string a1_2) := (blk_cell BK104.out 2).trans rfl; have hcz14_3 : w11.cell? ⟨gb104, 3, none⟩ = some (.string a1_3) := (blk_cell BK104.out 3).trans rfl; have hcz14_4 : w11.cell? ⟨gb104, 4, none⟩ = some (.int .u8 a1_4) := (blk_cell BK104.out 4).trans rfl; have hcz14_5 : w11.cell? ⟨gb104, 5, none⟩ = some (.int .u64 a1_5) := (blk_cell BK104.out 5).trans rfl; have hcz14_6 : w11.cell? ⟨gb104, 6, none⟩ = some (.string a1_6) := (blk_cell BK104.out 6).trans rfl; have hcz14_7 : w11.cell? ⟨gb104, 7, none⟩ = some (.slice A1_7 l1_7.length c1_7) := (blk_cell BK104.out 7).trans rfl; have hcz14_8 : w11.cell? ⟨gb104, 8, none⟩ = some (.slice A1_8 l1_8.length c1_8) := (blk_cell BK104.out 8).trans rfl; have hcz14_9 : w11.cell? ⟨gb104, 9, none⟩ = some (.int .u8 a1_9) := (blk_cell BK104.out 9).trans rfl; have hcz14_10 : w11.cell? ⟨gb104, 10, none⟩ = some (.int .i64 a1_10) := (blk_cell BK104.out 10).trans rfl; have hcz14_11 : w11.cell? ⟨gb104, 11, none⟩ = some (.int .i64 a1_11) := (blk_cell BK104.out 11).trans rfl; have hcz14_12 : w11.cell? ⟨gb104, 12, none⟩ = some (.int .i64 a1_12) := (blk_cell BK104.out 12).trans rfl; have hcz14_13 : w11.cell? ⟨gb104, 13, none⟩ = some (.int .i64 a1_13) := (blk_cell BK104.out 13).trans rfl; have hfz14_0 := blk_frozen BK104.out 0; have hfz14_1 := blk_frozen BK104.out 1; have hfz14_2 := blk_frozen BK104.out 2; have hfz14_3 := blk_frozen BK104.out 3; have hfz14_4 := blk_frozen BK104.out 4; have hfz14_5 := blk_frozen BK104.out 5; have hfz14_6 := blk_frozen BK104.out 6; have hfz14_7 := blk_frozen BK104.out 7; have hfz14_8 := blk_frozen BK104.out 8; have hfz14_9 := blk_frozen BK104.out 9; have hfz14_10 := blk_frozen BK104.out 10; have hfz14_11 := blk_frozen BK104.out 11; have hfz14_12 := blk_frozen BK104.out 12; have hfz14_13 := blk_frozen BK104.out 13) | (go_at_call 22; (with_reducible refine (slices_Equal_string_string.calls k _ _ l0_8 _ _ l1_8 _ _ ?side1 ?side2 ?side3 ?side4 A7.out).mono ?_); (case side1 => repeat (first | exact (Kd.C_below HR0_8.out HB.out) | (with_reducible refine Kd.C_alloc ?_ _) | (with_reducible refine Kd.C_drewN ?_ _) | (with_reducible refine Kd.C_drew ?_))); (case side2 => exact HC0_8.out); (case side3 => repeat (first | exact (Kd.C_below HR1_8.out HB.out) | (with_reducible refine Kd.C_alloc ?_ _) | (with_reducible refine Kd.C_drewN ?_ _) | (with_reducible refine Kd.C_drew ?_))); (case side4 => exact HC1_8.out); rintro e w' ⟨rfl, ⟨nd, rfl⟩⟩) | (go_at_call 24; (with_reducible refine (hFn _ _ l0_7 _ _ l1_7 t106 _ ?side1 ?side2 ?side3 ?side4 A9.out).mono ?_); (case side1 => repeat (first | exact (Kd.C_below HR0_7.out (by repeat (first | (with_reducible first | exact HB.out | apply below_alloc | apply pw_below_drewN | apply below_drew1 | refine below_set ?_ GE103.out | refine below_set ?_ GE104.out) | exact HB.out))) | (with_reducible refine Kd.C_alloc ?_ _) | (with_reducible refine Kd.C_drewN ?_ _) | (with_reducible refine Kd.C_drew ?_))); (case side2 => exact HC0_7.out); (case side3 => repeat (first | exact (Kd.C_below HR1_7.out (by repeat (first | (with_reducible first | exact HB.out | apply below_alloc | apply pw_below_drewN | apply below_drew1 | refine below_set ?_ GE103.out | refine below_set ?_ GE104.out) | exact HB.out))) | (with_reducible refine Kd.C_alloc ?_ _) | (with_reducible refine Kd.C_drewN ?_ _) | (with_reducible refine Kd.C_drew ?_))); (case side4 => exact HC1_7.out); rintro e w15 ⟨rfl, hb⟩; have n0_ := Aside0.mk (blk_below (g := gb103) (o := .cells #[.int .i64 a0_0, .int .i64 a0_1, .string a0_2, .string a0_3, .int .u8 a0_4, .int .u64 a0_5, .string a0_6, .slice A0_7 l0_7.length c0_7, .slice A0_8 l0_8.length c0_8, .int .u8 a0_9, .int .i64 a0_10, .int .i64 a0_11, .int .i64 a0_12, .int .i64 a0_13] 65 (0, 0)) (by (with_reducible repeat (first | refine blk_drewN ?_ _ | refine blk_drew ?_ | refine blk_alloc ?_ _)); exact BK103.out) hb); have n1_ := Aside0.mk (blk_below (g := gb104) (o := .cells #[.int .i64 a1_0, .int .i64 a1_1, .string a1_2, .string a1_3, .int .u8 a1_4, .int .u64 a1_5, .string a1_6, .slice A1_7 l1_7.length c1_7, .slice A1_8 l1_8.length c1_8, .int .u8 a1_9, .int .i64 a1_10, .int .i64 a1_11, .int .i64 a1_12, .int .i64 a1_13] 65 (0, 0)) (by (with_reducible repeat (first | refine blk_drewN ?_ _ | refine blk_drew ?_ | refine blk_alloc ?_ _)); exact BK104.out) hb); have n2_ := Aside0.mk (below_step (by repeat (first | (with_reducible first | exact HB.out | apply below_alloc | apply pw_below_drewN | apply below_drew1 | refine below_set ?_ GE103.out | refine below_set ?_ GE104.out) | exact HB.out)) hb); clear BK103; clear BK104; clear HB; have BK103 := n0_; have BK104 := n1_; have HB := n2_; clear n0_ n1_ n2_; (try clear hb); (try clear hb2); (try clear hk); (try clear hi)))
  all_goals first
    | (go_ret
       exact ⟨by first | rfl | (simp [errW_none, errW_some] <;> rfl) | (simp [*, errW_none, errW_some] <;> rfl), by repeat (first | (with_reducible first | exact HB.out | apply below_alloc | apply pw_below_drewN | apply below_drew1 | refine below_set ?_ GE103.out | refine below_set ?_ GE104.out) | exact HB.out)⟩)
/-! #### api_Expr, over st_sameExprs_1 -/
def api_Expr.l0Of (Fn : Int → Int → ByteArray → ByteArray → Int → Int → ByteArray → List (S65) → List ByteArray → Int → Int → Int → Int → Int → Int → Int → ByteArray → ByteArray → Int → Int → ByteArray → List (S65) → List ByteArray → Int → Int → Int → Int → Int → Option (Bool)) : Nat → List (S65) → List (S65) → Int → Int → Option (Bool)
  | 0, _, _, _, _ => none
  | k + 1, x1, x15, x16, x17 => if x17 < x16 then (if 0 ≤ x17 then (if x17 < (x15.length : Int) then (if x17 < (x1.length : Int) then ((Fn ((rd_T65 x15 x17).f0) ((rd_T65 x15 x17).f1) ((rd_T65 x15 x17).f2) ((rd_T65 x15 x17).f3) ((rd_T65 x15 x17).f4.f0) ((rd_T65 x15 x17).f4.f1) ((rd_T65 x15 x17).f4.f2) ((rd_T65 x15 x17).f5) ((rd_T65 x15 x17).f6) ((rd_T65 x15 x17).f7) ((rd_T65 x15 x17).f8) ((rd_T65 x15 x17).f9) ((rd_T65 x15 x17).f10) ((rd_T65 x15 x17).f11) ((rd_T65 x1 x17).f0) ((rd_T65 x1 x17).f1) ((rd_T65 x1 x17).f2) ((rd_T65 x1 x17).f3) ((rd_T65 x1 x17).f4.f0) ((rd_T65 x1 x17).f4.f1) ((rd_T65 x1 x17).f4.f2) ((rd_T65 x1 x17).f5) ((rd_T65 x1 x17).f6) ((rd_T65 x1 x17).f7) ((rd_T65 x1 x17).f8) ((rd_T65 x1 x17).f9) ((rd_T65 x1 x17).f10) ((rd_T65 x1 x17).f11)).bind fun t111 => (if t111 = true then (api_Expr.l0Of Fn k x1 x15 x16 (wrap64 (x17 + 1))) else (some false))) else (none)) else (none)) else (none)) else (some true)
def api_Expr.fOf (Fn : Int → Int → ByteArray → ByteArray → Int → Int → ByteArray → List (S65) → List ByteArray → Int → Int → Int → Int → Int → Int → Int → ByteArray → ByteArray → Int → Int → ByteArray → List (S65) → List ByteArray → Int → Int → Int → Int → Int → Option (Bool)) (k : Nat) (l0 : List (S65)) (l1 : List (S65)) (a2 : Bool) : Option (Bool) := if (l0.length : Int) = (l1.length : Int) then (api_Expr.l0Of Fn k l1 l0 (l0.length : Int) 0) else (some false)

theorem api_Expr.mono_lOf (Fn Fn' : Int → Int → ByteArray → ByteArray → Int → Int → ByteArray → List (S65) → List ByteArray → Int → Int → Int → Int → Int → Int → Int → ByteArray → ByteArray → Int → Int → ByteArray → List (S65) → List ByteArray → Int → Int → Int → Int → Int → Option (Bool)) (hle_ : ∀ z0 z1 z2 z3 z4 z5 z6 z7 z8 z9 z10 z11 z12 z13 z14 z15 z16 z17 z18 z19 z20 z21 z22 z23 z24 z25 z26 z27, LeO (Fn z0 z1 z2 z3 z4 z5 z6 z7 z8 z9 z10 z11 z12 z13 z14 z15 z16 z17 z18 z19 z20 z21 z22 z23 z24 z25 z26 z27) (Fn' z0 z1 z2 z3 z4 z5 z6 z7 z8 z9 z10 z11 z12 z13 z14 z15 z16 z17 z18 z19 z20 z21 z22 z23 z24 z25 z26 z27)) : ∀ k, (∀ y0 y1 y2 y3, LeO (api_Expr.l0Of Fn k y0 y1 y2 y3) (api_Expr.l0Of Fn' (k + 1) y0 y1 y2 y3))
  | 0 => fun _ _ _ _ r h => by simp [api_Expr.l0Of] at h
  | k + 1 => by
    have ih0 := api_Expr.mono_lOf Fn Fn' hle_ k
    · intro y0 y1 y2 y3
      unfold api_Expr.l0Of
      repeat' first
      | (with_reducible exact ih0 _ _ _ _)
      | (with_reducible exact hle_ _ _ _ _ _ _ _ _ _ _ _ _ _ _ _ _ _ _ _ _ _ _ _ _ _ _ _ _)
      | (with_reducible exact LeO.refl _)
      | (with_reducible exact LeO.none _)
      | (with_reducible refine LeO.ite ?_ ?_)
      | (with_reducible refine LeO.bind ?_ (fun _ => ?_))
      | exact ih0 _ _ _ _
      | exact hle_ _ _ _ _ _ _ _ _ _ _ _ _ _ _ _ _ _ _ _ _ _ _ _ _ _ _ _ _
      | exact LeO.none _
      | refine LeO.ite ?_ ?_
      | refine LeO.bind ?_ (fun _ => ?_)
theorem api_Expr.monoOf (Fn Fn' : Int → Int → ByteArray → ByteArray → Int → Int → ByteArray → List (S65) → List ByteArray → Int → Int → Int → Int → Int → Int → Int → ByteArray → ByteArray → Int → Int → ByteArray → List (S65) → List ByteArray → Int → Int → Int → Int → Int → Option (Bool)) (hle_ : ∀ z0 z1 z2 z3 z4 z5 z6 z7 z8 z9 z10 z11 z12 z13 z14 z15 z16 z17 z18 z19 z20 z21 z22 z23 z24 z25 z26 z27, LeO (Fn z0 z1 z2 z3 z4 z5 z6 z7 z8 z9 z10 z11 z12 z13 z14 z15 z16 z17 z18 z19 z20 z21 z22 z23 z24 z25 z26 z27) (Fn' z0 z1 z2 z3 z4 z5 z6 z7 z8 z9 z10 z11 z12 z13 z14 z15 z16 z17 z18 z19 z20 z21 z22 z23 z24 z25 z26 z27)) : ∀ a0 a1 a2 k, LeO (api_Expr.fOf Fn k a0 a1 a2) (api_Expr.fOf Fn' (k + 1) a0 a1 a2) := by
  intro a0 a1 a2 k
  have ih0 := api_Expr.mono_lOf Fn Fn' hle_ k
  unfold api_Expr.fOf
  repeat' first
      | (with_reducible exact ih0 _ _ _ _)
      | (with_reducible exact hle_ _ _ _ _ _ _ _ _ _ _ _ _ _ _ _ _ _ _ _ _ _ _ _ _ _ _ _ _)
      | (with_reducible exact LeO.refl _)
      | (with_reducible exact LeO.none _)
      | (with_reducible refine LeO.ite ?_ ?_)
      | (with_reducible refine LeO.bind ?_ (fun _ => ?_))
      | exact ih0 _ _ _ _
      | exact hle_ _ _ _ _ _ _ _ _ _ _ _ _ _ _ _ _ _ _ _ _ _ _ _ _ _ _ _ _
      | exact LeO.none _
      | refine LeO.ite ?_ ?_
      | refine LeO.bind ?_ (fun _ => ?_)

set_option maxHeartbeats 8000000 in
set_option maxRecDepth 100000 in
theorem api_Expr.callsOf (Fn : Int → Int → ByteArray → ByteArray → Int → Int → ByteArray → List (S65) → List ByteArray → Int → Int → Int → Int → Int → Int → Int → ByteArray → ByteArray → Int → Int → ByteArray → List (S65) → List ByteArray → Int → Int → Int → Int → Int → Option (Bool)) (hFn : ∀ (a0_0 : Int) (a0_1 : Int) (a0_2 : ByteArray) (a0_3 : ByteArray) (a0_4 : Int) (a0_5 : Int) (a0_6 : ByteArray) (A0_7 : Option Addr) (c0_7 : Nat) (l0_7 : List (S65)) (A0_8 : Option Addr) (c0_8 : Nat) (l0_8 : List ByteArray) (a0_9 : Int) (a0_10 : Int) (a0_11 : Int) (a0_12 : Int) (a0_13 : Int) (a1_0 : Int) (a1_1 : Int) (a1_2 : ByteArray) (a1_3 : ByteArray) (a1_4 : Int) (a1_5 : Int) (a1_6 : ByteArray) (A1_7 : Option Addr) (c1_7 : Nat) (l1_7 : List (S65)) (A1_8 : Option Addr) (c1_8 : Nat) (l1_8 : List ByteArray) (a1_9 : Int) (a1_10 : Int) (a1_11 : Int) (a1_12 : Int) (a1_13 : Int) (r : Bool) (w : World) (hr0_7 : Kd.C k65 w A0_7 l0_7.length l0_7) (hc0_7 : l0_7.length ≤ c0_7) (hr0_8 : Kd.C Kd.string w A0_8 l0_8.length l0_8) (hc0_8 : l0_8.length ≤ c0_8) (hr1_7 : Kd.C k65 w A1_7 l1_7.length l1_7) (hc1_7 : l1_7.length ≤ c1_7) (hr1_8 : Kd.C Kd.string w A1_8 l1_8.length l1_8) (hc1_8 : l1_8.length ≤ c1_8) (h : Fn a0_0 a0_1 a0_2 a0_3 a0_4 a0_5 a0_6 l0_7 l0_8 a0_9 a0_10 a0_11 a0_12 a0_13 a1_0 a1_1 a1_2 a1_3 a1_4 a1_5 a1_6 l1_7 l1_8 a1_9 a1_10 a1_11 a1_12 a1_13 = some r), Calls Try.prog 51 #[.agg #[.int .i64 a0_0, .int .i64 a0_1, .string a0_2, .string a0_3, .int .u8 a0_4, .int .u64 a0_5, .string a0_6, .slice A0_7 l0_7.length c0_7, .slice A0_8 l0_8.length c0_8, .int .u8 a0_9, .int .i64 a0_10, .int .i64 a0_11, .int .i64 a0_12, .int .i64 a0_13], .agg #[.int .i64 a1_0, .int .i64 a1_1, .string a1_2, .string a1_3, .int .u8 a1_4, .int .u64 a1_5, .string a1_6, .slice A1_7 l1_7.length c1_7, .slice A1_8 l1_8.length c1_8, .int .u8 a1_9, .int .i64 a1_10, .int .i64 a1_11, .int .i64 a1_12, .int .i64 a1_13]] w fun e w' => e = .returned (.bool r) ∧ Below w.heap.size w w') (k : Nat) (A0 : Option Addr) (c0 : Nat) (l0 : List (S65)) (A1 : Option Addr) (c1 : Nat) (l1 : List (S65)) (a2 : Bool) (r : Bool) (w : World) (hr0 : Kd.C k65 w A0 l0.length l0) (hc0 : l0.length ≤ c0) (hr1 : Kd.C k65 w A1 l1.length l1) (hc1 : l1.length ≤ c1) (h : api_Expr.fOf Fn k l0 l1 a2 = some r) :
    Calls Try.prog 50 #[.slice A0 l0.length c0, .slice A1 l1.length c1, .func (.func 51) #[] #[]] w fun e w' => e = .returned (.bool r) ∧ Below w.heap.size w w' := by
  have hu65 := Try.underlying65
  have HR0 := Aside0.mk hr0
  have HC0 := Aside0.mk hc0
  clear hr0 hc0
  have HR1 := Aside0.mk hr1
  have HC1 := Aside0.mk hc1
  clear hr1 hc1
  have HB := Aside0.mk (Below.refl w.heap.size w)
  have H : (if (l0.length : Int) = (l1.length : Int) then (api_Expr.l0Of Fn k l1 l0 (l0.length : Int) 0) else (some false)) = some r := h
  clear h
  by_cases c4 : (l0.length : Int) = (l1.length : Int)
  · rw [if_pos c4] at H
    have c4b0 : ((l0.length : Int) == (l1.length : Int)) = true := beq_iff_eq.mpr c4
    have c4b1 : ((l0.length : Int) != (l1.length : Int)) = false := bne_eq_false_iff_eq.mpr c4
    have c4b2 : (l0.length == l1.length) = true := by first | simpa using c4 | (simp at c4 ⊢; omega)
    clear c4
    have H' := Aside0.mk H
    clear H
    go_enter Try.func50, Try.ntmps50
    go_wp2
    go_loopg [17] k (fun kq v17 w' => ∃ (x17_1 : Int), v17 = .int .i64 x17_1 ∧ Aside0 (api_Expr.l0Of Fn kq l1 l0 (l0.length : Int) x17_1 = some r) ∧ Aside0 (kq ≤ k) ∧ Aside0 (Below w.heap.size w w'))
    case atStart => exact ⟨(0), (by first | rfl | (simp; done) | (simp [*]; done) | (simp [*, bne]; done)), H', ⟨Nat.le_refl _⟩, ⟨by repeat (first | (with_reducible first | exact HB.out | apply below_alloc | apply pw_below_drewN | apply below_drew1) | exact HB.out)⟩⟩
    case round =>
      clear H'
      try clear c1
      try clear p2
      try clear c4
      try clear c4b0
      try clear c4b1
      try clear c4b2
      obtain ⟨x17_1, rfl, HA, HK1, HB⟩ := hrel
      cases gk with
      | zero => exact absurd HA.out (by simp [api_Expr.l0Of])
      | succ k1 =>
        have H := HA.out
        clear HA
        simp only [api_Expr.l0Of] at H
        refine (Classical.em (x17_1 < (l0.length : Int))).elim (fun c5 => ?p6_) (fun c5 => ?n6_)
        case' p6_ =>
          rw [if_pos c5] at H
          have c5b0 : decide (x17_1 < (l0.length : Int)) = true := decide_eq_true c5
          clear c5
          refine (Classical.em (0 ≤ x17_1)).elim (fun c6 => ?p7_) (fun c6 => ?n7_)
          case' p7_ =>
            rw [if_pos c6] at H
            have c6b0 : decide (0 ≤ x17_1) = true := decide_eq_true c6
            clear c6
            refine (Classical.em (x17_1 < (l0.length : Int))).elim (fun c7 => ?p8_) (fun c7 => ?n8_)
            case' p8_ =>
              rw [if_pos c7] at H
              have c7b0 : decide (x17_1 < (l0.length : Int)) = true := decide_eq_true c7
              clear c7
              refine (Classical.em (x17_1 < (l1.length : Int))).elim (fun c8 => ?p9_) (fun c8 => ?n9_)
              case' p9_ =>
                rw [if_pos c8] at H
                have c8b0 : decide (x17_1 < (l1.length : Int)) = true := decide_eq_true c8
                clear c8
                replace H := Option.bind_eq_some_iff.mp H
                obtain ⟨t111, A90, H⟩ := H
                replace H : (if t111 = true then (api_Expr.l0Of Fn k1 l1 l0 (l0.length : Int) (wrap64 (x17_1 + 1))) else (some false)) = some r := H
                have A9 := Aside0.mk A90
                clear A90
                refine (Classical.em (t111 = true)).elim (fun c10 => ?p10_) (fun c10 => ?n10_)
                case' p10_ =>
                  subst c10
                  have H1 : (api_Expr.l0Of Fn k1 l1 l0 (l0.length : Int) (wrap64 (x17_1 + 1))) = some r := by rw [if_pos rfl] at H; exact H
                  clear H
                  have H := H1
                  clear H1
                  have H' := Aside0.mk H
                  clear H
                  have p107 : 0 ≤ (x17_1 : Int) := of_decide_eq_true (by first | (with_reducible assumption) | assumption)
                  have q107 : x17_1 < (l0.length : Int) := of_decide_eq_true (by first | (with_reducible assumption) | assumption)
                  obtain ⟨ad107, A107_7, c107_7, A107_8, c107_8, e107, hx107_0, hx107_1, hx107_2, hx107_3, hx107_4, hx107_5, hx107_6, hx107_7, hx107_8, hx107_9, hx107_10, hx107_11, hx107_12, hx107_13, hl107_7, hi107_7, hl107_8, hi107_8⟩ := at_T65 HR0.out x17_1 p107 q107
                  cases e107
                  replace hx107_0 := (HB.out.cell (World.block_lt_of_cell? w _ hx107_0)).trans hx107_0
                  replace hx107_1 := (HB.out.cell (World.block_lt_of_cell? w _ hx107_1)).trans hx107_1
                  replace hx107_2 := (HB.out.cell (World.block_lt_of_cell? w _ hx107_2)).trans hx107_2
                  replace hx107_3 := (HB.out.cell (World.block_lt_of_cell? w _ hx107_3)).trans hx107_3
                  replace hx107_4 := (HB.out.cell (World.block_lt_of_cell? w _ hx107_4)).trans hx107_4
                  replace hx107_5 := (HB.out.cell (World.block_lt_of_cell? w _ hx107_5)).trans hx107_5
                  replace hx107_6 := (HB.out.cell (World.block_lt_of_cell? w _ hx107_6)).trans hx107_6
                  replace hx107_7 := (HB.out.cell (World.block_lt_of_cell? w _ hx107_7)).trans hx107_7
                  replace hx107_8 := (HB.out.cell (World.block_lt_of_cell? w _ hx107_8)).trans hx107_8
                  replace hx107_9 := (HB.out.cell (World.block_lt_of_cell? w _ hx107_9)).trans hx107_9
                  replace hx107_10 := (HB.out.cell (World.block_lt_of_cell? w _ hx107_10)).trans hx107_10
                  replace hx107_11 := (HB.out.cell (World.block_lt_of_cell? w _ hx107_11)).trans hx107_11
                  replace hx107_12 := (HB.out.cell (World.block_lt_of_cell? w _ hx107_12)).trans hx107_12
                  replace hx107_13 := (HB.out.cell (World.block_lt_of_cell? w _ hx107_13)).trans hx107_13
                  have HR107_7 := Aside0.mk hi107_7
                  have HC107_7 := Aside0.mk hl107_7
                  clear hi107_7 hl107_7
                  have HR107_8 := Aside0.mk hi107_8
                  have HC107_8 := Aside0.mk hl107_8
                  clear hi107_8 hl107_8
                  replace p107 := eq_true p107
                  replace q107 := eq_true q107
                case' n10_ =>
                  replace c10 := Bool.eq_false_iff.mpr c10
                  subst c10
                  have H1 : (some false) = some r := by rw [if_neg (show ¬ (false = true) by decide)] at H; exact H
                  clear H
                  have H := H1
                  clear H1
                  obtain rfl := Option.some.inj H
                  have p107 : 0 ≤ (x17_1 : Int) := of_decide_eq_true (by first | (with_reducible assumption) | assumption)
                  have q107 : x17_1 < (l0.length : Int) := of_decide_eq_true (by first | (with_reducible assumption) | assumption)
                  obtain ⟨ad107, A107_7, c107_7, A107_8, c107_8, e107, hx107_0, hx107_1, hx107_2, hx107_3, hx107_4, hx107_5, hx107_6, hx107_7, hx107_8, hx107_9, hx107_10, hx107_11, hx107_12, hx107_13, hl107_7, hi107_7, hl107_8, hi107_8⟩ := at_T65 HR0.out x17_1 p107 q107
                  cases e107
                  replace hx107_0 := (HB.out.cell (World.block_lt_of_cell? w _ hx107_0)).trans hx107_0
                  replace hx107_1 := (HB.out.cell (World.block_lt_of_cell? w _ hx107_1)).trans hx107_1
                  replace hx107_2 := (HB.out.cell (World.block_lt_of_cell? w _ hx107_2)).trans hx107_2
                  replace hx107_3 := (HB.out.cell (World.block_lt_of_cell? w _ hx107_3)).trans hx107_3
                  replace hx107_4 := (HB.out.cell (World.block_lt_of_cell? w _ hx107_4)).trans hx107_4
                  replace hx107_5 := (HB.out.cell (World.block_lt_of_cell? w _ hx107_5)).trans hx107_5
                  replace hx107_6 := (HB.out.cell (World.block_lt_of_cell? w _ hx107_6)).trans hx107_6
                  replace hx107_7 := (HB.out.cell (World.block_lt_of_cell? w _ hx107_7)).trans hx107_7
                  replace hx107_8 := (HB.out.cell (World.block_lt_of_cell? w _ hx107_8)).trans hx107_8
                  replace hx107_9 := (HB.out.cell (World.block_lt_of_cell? w _ hx107_9)).trans hx107_9
                  replace hx107_10 := (HB.out.cell (World.block_lt_of_cell? w _ hx107_10)).trans hx107_10
                  replace hx107_11 := (HB.out.cell (World.block_lt_of_cell? w _ hx107_11)).trans hx107_11
                  replace hx107_12 := (HB.out.cell (World.block_lt_of_cell? w _ hx107_12)).trans hx107_12
                  replace hx107_13 := (HB.out.cell (World.block_lt_of_cell? w _ hx107_13)).trans hx107_13
                  have HR107_7 := Aside0.mk hi107_7
                  have HC107_7 := Aside0.mk hl107_7
                  clear hi107_7 hl107_7
                  have HR107_8 := Aside0.mk hi107_8
                  have HC107_8 := Aside0.mk hl107_8
                  clear hi107_8 hl107_8
                  replace p107 := eq_true p107
                  replace q107 := eq_true q107
              case' n9_ =>
                rw [if_neg c8] at H
                exact absurd H (by simp)
            case' n8_ =>
              rw [if_neg c7] at H
              exact absurd H (by simp)
          case' n7_ =>
            rw [if_neg c6] at H
            exact absurd H (by simp)
        case' n6_ =>
          rw [if_neg c5] at H
          have c5b0 : decide (x17_1 < (l0.length : Int)) = false := decide_eq_false c5
          clear c5
          obtain rfl := Option.some.inj H
          go_wp2
          go_ret
          exact ⟨by first | rfl | (simp [errW_none, errW_some] <;> rfl) | (simp [*, errW_none, errW_some] <;> rfl), by repeat (first | (with_reducible first | exact HB.out | apply below_alloc | apply pw_below_drewN | apply below_drew1) | exact HB.out)⟩
        all_goals go_wp2_with (first | ((with_reducible refine gate_dst (N := 8) rfl ?_); refine box_event ?hg (N := 8) ?hd (cs := #[.int .i64 0, .int .i64 0, .string (⟨#[]⟩ : ByteArray), .string (⟨#[]⟩ : ByteArray), .int .u8 0, .int .u64 0, .string (⟨#[]⟩ : ByteArray), .slice none 0 0, .slice none 0 0, .int .u8 0, .int .i64 0, .int .i64 0, .int .i64 0, .int .i64 0]) (t := 65) ?hr ?_; (case hd => rfl); (case hg => rfl); (case hr => first | (go_simp; done) | (go_simp; rfl)); intro gb108 hg w18 hbox hb; have n0_ := Aside0.mk (below_step (by repeat (first | (with_reducible first | exact HB.out | apply below_alloc | apply pw_below_drewN | apply below_drew1) | exact HB.out)) hb); have n1_ := Aside0.mk (hbox); have n2_ := Aside0.mk ((by rw [hg]; exact (below_size (by repeat (first | (with_reducible first | exact HB.out | apply below_alloc | apply pw_below_drewN | apply below_drew1) | exact HB.out))) : w.heap.size ≤ gb108)); have n3_ := Aside0.mk ((by rw [hg]; exact (below_size (by repeat (first | (with_reducible first | exact HB.out | apply below_alloc | apply pw_below_drewN | apply below_drew1) | exact HB.out))) : w.heap.size ≤ gb108)); clear HB; have HB := n0_; have BK108 := n1_; have GW108 := n2_; have GE108 := n3_; clear n0_ n1_ n2_ n3_; clear hb hbox hg; have hcz19_0 : w18.cell? ⟨gb108, 0, none⟩ = some (.int .i64 0) := (blk_cell BK108.out 0).trans rfl; have hcz19_1 : w18.cell? ⟨gb108, 1, none⟩ = some (.int .i64 0) := (blk_cell BK108.out 1).trans rfl; have hcz19_2 : w18.cell? ⟨gb108, 2, none⟩ = some (.string (⟨#[]⟩ : ByteArray)) := (blk_cell BK108.out 2).trans rfl; have hcz19_3 : w18.cell? ⟨gb108, 3, none⟩ = some (.string (⟨#[]⟩ : ByteArray)) := (blk_cell BK108.out 3).trans rfl; have hcz19_4 : w18.cell? ⟨gb108, 4, none⟩ = some (.int .u8 0) := (blk_cell BK108.out 4).trans rfl; have hcz19_5 : w18.cell? ⟨gb108, 5, none⟩ = some (.int .u64 0) := (blk_cell BK108.out 5).trans rfl; have hcz19_6 : w18.cell? ⟨gb108, 6, none⟩ = some (.string (⟨#[]⟩ : ByteArray)) := (blk_cell BK108.out 6).trans rfl; have hcz19_7 : w18.cell? ⟨gb108, 7, none⟩ = some (.slice none 0 0) := (blk_cell BK108.out 7).trans rfl; have hcz19_8 : w18.cell? ⟨gb108, 8, none⟩ = some (.slice none 0 0) := (blk_cell BK108.out 8).trans rfl; have hcz19_9 : w18.cell? ⟨gb108, 9, none⟩ = some (.int .u8 0) := (blk_cell BK108.out 9).trans rfl; have hcz19_10 : w18.cell? ⟨gb108, 10, none⟩ = some (.int .i64 0) := (blk_cell BK108.out 10).trans rfl; have hcz19_11 : w18.cell? ⟨gb108, 11, none⟩ = some (.int .i64 0) := (blk_cell BK108.out 11).trans rfl; have hcz19_12 : w18.cell? ⟨gb108, 12, none⟩ = some (.int .i64 0) := (blk_cell BK108.out 12).trans rfl; have hcz19_13 : w18.cell? ⟨gb108, 13, none⟩ = some (.int .i64 0) := (blk_cell BK108.out 13).trans rfl; have hfz19_0 := blk_frozen BK108.out 0; have hfz19_1 := blk_frozen BK108.out 1; have hfz19_2 := blk_frozen BK108.out 2; have hfz19_3 := blk_frozen BK108.out 3; have hfz19_4 := blk_frozen BK108.out 4; have hfz19_5 := blk_frozen BK108.out 5; have hfz19_6 := blk_frozen BK108.out 6; have hfz19_7 := blk_frozen BK108.out 7; have hfz19_8 := blk_frozen BK108.out 8; have hfz19_9 := blk_frozen BK108.out 9; have hfz19_10 := blk_frozen BK108.out 10; have hfz19_11 := blk_frozen BK108.out 11; have hfz19_12 := blk_frozen BK108.out 12; have hfz19_13 := blk_frozen BK108.out 13; have p109 : 0 ≤ (x17_1 : Int) := of_decide_eq_true (by first | (with_reducible assumption) | assumption); have q109 : x17_1 < (l1.length : Int) := of_decide_eq_true (by first | (with_reducible assumption) | assumption); obtain ⟨ad109, A109_7, c109_7, A109_8, c109_8, e109, hx109_0, hx109_1, hx109_2, hx109_3, hx109_4, hx109_5, hx109_6, hx109_7, hx109_8, hx109_9, hx109_10, hx109_11, hx109_12, hx109_13, hl109_7, hi109_7, hl109_8, hi109_8⟩ := at_T65 HR1.out x17_1 p109 q109; cases e109; have hn109_0 : ad109.block ≠ gb108 := Nat.ne_of_lt (Nat.lt_of_lt_of_le (by have := World.block_lt_of_cell? _ _ hx109_0; first | rwa [add_block] at this | exact this) GW108.out); have hn109_1 := hn109_0; have hn109_2 := hn109_0; have hn109_3 := hn109_0; have hn109_4 := hn109_0; have hn109_5 := hn109_0; have hn109_6 := hn109_0; have hn109_7 := hn109_0; have hn109_8 := hn109_0; have hn109_9 := hn109_0; have hn109_10 := hn109_0; have hn109_11 := hn109_0; have hn109_12 := hn109_0; have hn109_13 := hn109_0; replace hx109_0 := (HB.out.cell (World.block_lt_of_cell? w _ hx109_0)).trans hx109_0; replace hx109_1 := (HB.out.cell (World.block_lt_of_cell? w _ hx109_1)).trans hx109_1; replace hx109_2 := (HB.out.cell (World.block_lt_of_cell? w _ hx109_2)).trans hx109_2; replace hx109_3 := (HB.out.cell (World.block_lt_of_cell? w _ hx109_3)).trans hx109_3; replace hx109_4 := (HB.out.cell (World.block_lt_of_cell? w _ hx109_4)).trans hx109_4; replace hx109_5 := (HB.out.cell (World.block_lt_of_cell? w _ hx109_5)).trans hx109_5; replace hx109_6 := (HB.out.cell (World.block_lt_of_cell? w _ hx109_6)).trans hx109_6; replace hx109_7 := (HB.out.cell (World.block_lt_of_cell? w _ hx109_7)).trans hx109_7; replace hx109_8 := (HB.out.cell (World.block_lt_of_cell? w _ hx109_8)).trans hx109_8; replace hx109_9 := (HB.out.cell (World.block_lt_of_cell? w _ hx109_9)).trans hx109_9; replace hx109_10 := (HB.out.cell (World.block_lt_of_cell? w _ hx109_10)).trans hx109_10; replace hx109_11 := (HB.out.cell (World.block_lt_of_cell? w _ hx109_11)).trans hx109_11; replace hx109_12 := (HB.out.cell (World.block_lt_of_cell? w _ hx109_12)).trans hx109_12; replace hx109_13 := (HB.out.cell (World.block_lt_of_cell? w _ hx109_13)).trans hx109_13; have HR109_7 := Aside0.mk hi109_7; have HC109_7 := Aside0.mk hl109_7; clear hi109_7 hl109_7; have HR109_8 := Aside0.mk hi109_8; have HC109_8 := Aside0.mk hl109_8; clear hi109_8 hl109_8; replace hx109_0 := far14 gb108 (.int .i64 ((rd_T65 l0 x17_1).f0)) (.int .i64 ((rd_T65 l0 x17_1).f1)) (.string ((rd_T65 l0 x17_1).f2)) (.string ((rd_T65 l0 x17_1).f3)) (.int .u8 ((rd_T65 l0 x17_1).f4.f0)) (.int .u64 ((rd_T65 l0 x17_1).f4.f1)) (.string ((rd_T65 l0 x17_1).f4.f2)) (.slice A107_7 ((rd_T65 l0 x17_1).f5).length c107_7) (.slice A107_8 ((rd_T65 l0 x17_1).f6).length c107_8) (.int .u8 ((rd_T65 l0 x17_1).f7)) (.int .i64 ((rd_T65 l0 x17_1).f8)) (.int .i64 ((rd_T65 l0 x17_1).f9)) (.int .i64 ((rd_T65 l0 x17_1).f10)) (.int .i64 ((rd_T65 l0 x17_1).f11)) (by first | (rw [add_block]; exact hn109_0) | (show (Addr.add _ _).block ≠ _; rw [add_block]; exact hn109_0) | exact hn109_0) hx109_0; replace hx109_1 := far14 gb108 (.int .i64 ((rd_T65 l0 x17_1).f0)) (.int .i64 ((rd_T65 l0 x17_1).f1)) (.string ((rd_T65 l0 x17_1).f2)) (.string ((rd_T65 l0 x17_1).f3)) (.int .u8 ((rd_T65 l0 x17_1).f4.f0)) (.int .u64 ((rd_T65 l0 x17_1).f4.f1)) (.string ((rd_T65 l0 x17_1).f4.f2)) (.slice A107_7 ((rd_T65 l0 x17_1).f5).length c107_7) (.slice A107_8 ((rd_T65 l0 x17_1).f6).length c107_8) (.int .u8 ((rd_T65 l0 x17_1).f7)) (.int .i64 ((rd_T65 l0 x17_1).f8)) (.int .i64 ((rd_T65 l0 x17_1).f9)) (.int .i64 ((rd_T65 l0 x17_1).f10)) (.int .i64 ((rd_T65 l0 x17_1).f11)) (by first | (rw [add_block]; exact hn109_0) | (show (Addr.add _ _).block ≠ _; rw [add_block]; exact hn109_0) | exact hn109_0) hx109_1; replace hx109_2 := far14 gb108 (.int .i64 ((rd_T65 l0 x17_1).f0)) (.int .i64 ((rd_T65 l0 x17_1).f1)) (.string ((rd_T65 l0 x17_1).f2)) (.string ((rd_T65 l0 x17_1).f3)) (.int .u8 ((rd_T65 l0 x17_1).f4.f0)) (.int .u64 ((rd_T65 l0 x17_1).f4.f1)) (.string ((rd_T65 l0 x17_1).f4.f2)) (.slice A107_7 ((rd_T65 l0 x17_1).f5).length c107_7) (.slice A107_8 ((rd_T65 l0 x17_1).f6).length c107_8) (.int .u8 ((rd_T65 l0 x17_1).f7)) (.int .i64 ((rd_T65 l0 x17_1).f8)) (.int .i64 ((rd_T65 l0 x17_1).f9)) (.int .i64 ((rd_T65 l0 x17_1).f10)) (.int .i64 ((rd_T65 l0 x17_1).f11)) (by first | (rw [add_block]; exact hn109_0) | (show (Addr.add _ _).block ≠ _; rw [add_block]; exact hn109_0) | exact hn109_0) hx109_2; replace hx109_3 := far14 gb108 (.int .i64 ((rd_T65 l0 x17_1).f0)) (.int .i64 ((rd_T65 l0 x17_1).f1)) (.string ((rd_T65 l0 x17_1).f2)) (.string ((rd_T65 l0 x17_1).f3)) (.int .u8 ((rd_T65 l0 x17_1).f4.f0)) (.int .u64 ((rd_T65 l0 x17_1).f4.f1)) (.string ((rd_T65 l0 x17_1).f4.f2)) (.slice A107_7 ((rd_T65 l0 x17_1).f5).length c107_7) (.slice A107_8 ((rd_T65 l0 x17_1).f6).length c107_8) (.int .u8 ((rd_T65 l0 x17_1).f7)) (.int .i64 ((rd_T65 l0 x17_1).f8)) (.int .i64 ((rd_T65 l0 x17_1).f9)) (.int .i64 ((rd_T65 l0 x17_1).f10)) (.int .i64 ((rd_T65 l0 x17_1).f11)) (by first | (rw [add_block]; exact hn109_0) | (show (Addr.add _ _).block ≠ _; rw [add_block]; exact hn109_0) | exact hn109_0) hx109_3; replace hx109_4 := far14 gb108 (.int .i64 ((rd_T65 l0 x17_1).f0)) (.int .i64 ((rd_T65 l0 x17_1).f1)) (.string ((rd_T65 l0 x17_1).f2)) (.string ((rd_T65 l0 x17_1).f3)) (.int .u8 ((rd_T65 l0 x17_1).f4.f0)) (.int .u64 ((rd_T65 l0 x17_1).f4.f1)) (.string ((rd_T65 l0 x17_1).f4.f2)) (.slice A107_7 ((rd_T65 l0 x17_1).f5).length c107_7) (.slice A107_8 ((rd_T65 l0 x17_1).f6).length c107_8) (.int .u8 ((rd_T65 l0 x17_1).f7)) (.int .i64 ((rd_T65 l0 x17_1).f8)) (.int .i64 ((rd_T65 l0 x17_1).f9)) (.int .i64 ((rd_T65 l0 x17_1).f10)) (.int .i64 ((rd_T65 l0 x17_1).f11)) (by first | (rw [add_block]; exact hn109_0) | (show (Addr.add _ _).block ≠ _; rw [add_block]; exact hn109_0) | exact hn109_0) hx109_4; replace hx109_5 := far14 gb108 (.int .i64 ((rd_T65 l0 x17_1).f0)) (.int .i64 ((rd_T65 l0 x17_1).f1)) (.string ((rd_T65 l0 x17_1).f2)) (.string ((rd_T65 l0 x17_1).f3)) (.int .u8 ((rd_T65 l0 x17_1).f4.f0)) (.int .u64 ((rd_T65 l0 x17_1).f4.f1)) (.string ((rd_T65 l0 x17_1).f4.f2)) (.slice A107_7 ((rd_T65 l0 x17_1).f5).length c107_7) (.slice A107_8 ((rd_T65 l0 x17_1).f6).length c107_8) (.int .u8 ((rd_T65 l0 x17_1).f7)) (.int .i64 ((rd_T65 l0 x17_1).f8)) (.int .i64 ((rd_T65 l0 x17_1).f9)) (.int .i64 ((rd_T65 l0 x17_1).f10)) (.int .i64 ((rd_T65 l0 x17_1).f11)) (by first | (rw [add_block]; exact hn109_0) | (show (Addr.add _ _).block ≠ _; rw [add_block]; exact hn109_0) | exact hn109_0) hx109_5; replace hx109_6 := far14 gb108 (.int .i64 ((rd_T65 l0 x17_1).f0)) (.int .i64 ((rd_T65 l0 x17_1).f1)) (.string ((rd_T65 l0 x17_1).f2)) (.string ((rd_T65 l0 x17_1).f3)) (.int .u8 ((rd_T65 l0 x17_1).f4.f0)) (.int .u64 ((rd_T65 l0 x17_1).f4.f1)) (.string ((rd_T65 l0 x17_1).f4.f2)) (.slice A107_7 ((rd_T65 l0 x17_1).f5).length c107_7) (.slice A107_8 ((rd_T65 l0 x17_1).f6).length c107_8) (.int .u8 ((rd_T65 l0 x17_1).f7)) (.int .i64 ((rd_T65 l0 x17_1).f8)) (.int .i64 ((rd_T65 l0 x17_1).f9)) (.int .i64 ((rd_T65 l0 x17_1).f10)) (.int .i64 ((rd_T65 l0 x17_1).f11)) (by first | (rw [add_block]; exact hn109_0) | (show (Addr.add _ _).block ≠ _; rw [add_block]; exact hn109_0) | exact hn109_0) hx109_6; replace hx109_7 := far14 gb108 (.int .i64 ((rd_T65 l0 x17_1).f0)) (.int .i64 ((rd_T65 l0 x17_1).f1)) (.string ((rd_T65 l0 x17_1).f2)) (.string ((rd_T65 l0 x17_1).f3)) (.int .u8 ((rd_T65 l0 x17_1).f4.f0)) (.int .u64 ((rd_T65 l0 x17_1).f4.f1)) (.string ((rd_T65 l0 x17_1).f4.f2)) (.slice A107_7 ((rd_T65 l0 x17_1).f5).length c107_7) (.slice A107_8 ((rd_T65 l0 x17_1).f6).length c107_8) (.int .u8 ((rd_T65 l0 x17_1).f7)) (.int .i64 ((rd_T65 l0 x17_1).f8)) (.int .i64 ((rd_T65 l0 x17_1).f9)) (.int .i64 ((rd_T65 l0 x17_1).f10)) (.int .i64 ((rd_T65 l0 x17_1).f11)) (by first | (rw [add_block]; exact hn109_0) | (show (Addr.add _ _).block ≠ _; rw [add_block]; exact hn109_0) | exact hn109_0) hx109_7; replace hx109_8 := far14 gb108 (.int .i64 ((rd_T65 l0 x17_1).f0)) (.int .i64 ((rd_T65 l0 x17_1).f1)) (.string ((rd_T65 l0 x17_1).f2)) (.string ((rd_T65 l0 x17_1).f3)) (.int .u8 ((rd_T65 l0 x17_1).f4.f0)) (.int .u64 ((rd_T65 l0 x17_1).f4.f1)) (.string ((rd_T65 l0 x17_1).f4.f2)) (.slice A107_7 ((rd_T65 l0 x17_1).f5).length c107_7) (.slice A107_8 ((rd_T65 l0 x17_1).f6).length c107_8) (.int .u8 ((rd_T65 l0 x17_1).f7)) (.int .i64 ((rd_T65 l0 x17_1).f8)) (.int .i64 ((rd_T65 l0 x17_1).f9)) (.int .i64 ((rd_T65 l0 x17_1).f10)) (.int .i64 ((rd_T65 l0 x17_1).f11)) (by first | (rw [add_block]; exact hn109_0) | (show (Addr.add _ _).block ≠ _; rw [add_block]; exact hn109_0) | exact hn109_0) hx109_8; replace hx109_9 := far14 gb108 (.int .i64 ((rd_T65 l0 x17_1).f0)) (.int .i64 ((rd_T65 l0 x17_1).f1)) (.string ((rd_T65 l0 x17_1).f2)) (.string ((rd_T65 l0 x17_1).f3)) (.int .u8 ((rd_T65 l0 x17_1).f4.f0)) (.int .u64 ((rd_T65 l0 x17_1).f4.f1)) (.string ((rd_T65 l0 x17_1).f4.f2)) (.slice A107_7 ((rd_T65 l0 x17_1).f5).length c107_7) (.slice A107_8 ((rd_T65 l0 x17_1).f6).length c107_8) (.int .u8 ((rd_T65 l0 x17_1).f7)) (.int .i64 ((rd_T65 l0 x17_1).f8)) (.int .i64 ((rd_T65 l0 x17_1).f9)) (.int .i64 ((rd_T65 l0 x17_1).f10)) (.int .i64 ((rd_T65 l0 x17_1).f11)) (by first | (rw [add_block]; exact hn109_0) | (show (Addr.add _ _).block ≠ _; rw [add_block]; exact hn109_0) | exact hn109_0) hx109_9; replace hx109_10 := far14 gb108 (.int .i64 ((rd_T65 l0 x17_1).f0)) (.int .i64 ((rd_T65 l0 x17_1).f1)) (.string ((rd_T65 l0 x17_1).f2)) (.string ((rd_T65 l0 x17_1).f3)) (.int .u8 ((rd_T65 l0 x17_1).f4.f0)) (.int .u64 ((rd_T65 l0 x17_1).f4.f1)) (.string ((rd_T65 l0 x17_1).f4.f2)) (.slice A107_7 ((rd_T65 l0 x17_1).f5).length c107_7) (.slice A107_8 ((rd_T65 l0 x17_1).f6).length c107_8) (.int .u8 ((rd_T65 l0 x17_1).f7)) (.int .i64 ((rd_T65 l0 x17_1).f8)) (.int .i64 ((rd_T65 l0 x17_1).f9)) (.int .i64 ((rd_T65 l0 x17_1).f10)) (.int .i64 ((rd_T65 l0 x17_1).f11)) (by first | (rw [add_block]; exact hn109_0) | (show (Addr.add _ _).block ≠ _; rw [add_block]; exact hn109_0) | exact hn109_0) hx109_10; replace hx109_11 := far14 gb108 (.int .i64 ((rd_T65 l0 x17_1).f0)) (.int .i64 ((rd_T65 l0 x17_1).f1)) (.string ((rd_T65 l0 x17_1).f2)) (.string ((rd_T65 l0 x17_1).f3)) (.int .u8 ((rd_T65 l0 x17_1).f4.f0)) (.int .u64 ((rd_T65 l0 x17_1).f4.f1)) (.string ((rd_T65 l0 x17_1).f4.f2)) (.slice A107_7 ((rd_T65 l0 x17_1).f5).length c107_7) (.slice A107_8 ((rd_T65 l0 x17_1).f6).length c107_8) (.int .u8 ((rd_T65 l0 x17_1).f7)) (.int .i64 ((rd_T65 l0 x17_1).f8)) (.int .i64 ((rd_T65 l0 x17_1).f9)) (.int .i64 ((rd_T65 l0 x17_1).f10)) (.int .i64 ((rd_T65 l0 x17_1).f11)) (by first | (rw [add_block]; exact hn109_0) | (show (Addr.add _ _).block ≠ _; rw [add_block]; exact hn109_0) | exact hn109_0) hx109_11; replace hx109_12 := far14 gb108 (.int .i64 ((rd_T65 l0 x17_1).f0)) (.int .i64 ((rd_T65 l0 x17_1).f1)) (.string ((rd_T65 l0 x17_1).f2)) (.string ((rd_T65 l0 x17_1).f3)) (.int .u8 ((rd_T65 l0 x17_1).f4.f0)) (.int .u64 ((rd_T65 l0 x17_1).f4.f1)) (.string ((rd_T65 l0 x17_1).f4.f2)) (.slice A107_7 ((rd_T65 l0 x17_1).f5).length c107_7) (.slice A107_8 ((rd_T65 l0 x17_1).f6).length c107_8) (.int .u8 ((rd_T65 l0 x17_1).f7)) (.int .i64 ((rd_T65 l0 x17_1).f8)) (.int .i64 ((rd_T65 l0 x17_1).f9)) (.int .i64 ((rd_T65 l0 x17_1).f10)) (.int .i64 ((rd_T65 l0 x17_1).f11)) (by first | (rw [add_block]; exact hn109_0) | (show (Addr.add _ _).block ≠ _; rw [add_block]; exact hn109_0) | exact hn109_0) hx109_12; replace hx109_13 := far14 gb108 (.int .i64 ((rd_T65 l0 x17_1).f0)) (.int .i64 ((rd_T65 l0 x17_1).f1)) (.string ((rd_T65 l0 x17_1).f2)) (.string ((rd_T65 l0 x17_1).f3)) (.int .u8 ((rd_T65 l0 x17_1).f4.f0)) (.int .u64 ((rd_T65 l0 x17_1).f4.f1)) (.string ((rd_T65 l0 x17_1).f4.f2)) (.slice A107_7 ((rd_T65 l0 x17_1).f5).length c107_7) (.slice A107_8 ((rd_T65 l0 x17_1).f6).length c107_8) (.int .u8 ((rd_T65 l0 x17_1).f7)) (.int .i64 ((rd_T65 l0 x17_1).f8)) (.int .i64 ((rd_T65 l0 x17_1).f9)) (.int .i64 ((rd_T65 l0 x17_1).f10)) (.int .i64 ((rd_T65 l0 x17_1).f11)) (by first | (rw [add_block]; exact hn109_0) | (show (Addr.add _ _).block ≠ _; rw [add_block]; exact hn109_0) | exact hn109_0) hx109_13; clear hn109_0; clear hn109_1; clear hn109_2; clear hn109_3; clear hn109_4; clear hn109_5; clear hn109_6; clear hn109_7; clear hn109_8; clear hn109_9; clear hn109_10; clear hn109_11; clear hn109_12; clear hn109_13; replace p109 := eq_true p109; replace q109 := eq_true q109) | ((with_reducible refine gate_dst (N := 9) rfl ?_); refine box_event ?hg (N := 9) ?hd (cs := #[.int .i64 0, .int .i64 0, .string (⟨#[]⟩ : ByteArray), .string (⟨#[]⟩ : ByteArray), .int .u8 0, .int .u64 0, .string (⟨#[]⟩ : ByteArray), .slice none 0 0, .slice none 0 0, .int .u8 0, .int .i64 0, .int .i64 0, .int .i64 0, .int .i64 0]) (t := 65) ?hr ?_; (case hd => rfl); (case hg => rfl); (case hr => first | (go_simp; done) | (go_simp; rfl)); intro gb110 hg w20 hbox hb; have n0_ := Aside0.mk (blk_below (g := gb108) (o := .cells #[.int .i64 ((rd_T65 l0 x17_1).f0), .int .i64 ((rd_T65 l0 x17_1).f1), .string ((rd_T65 l0 x17_1).f2), .string ((rd_T65 l0 x17_1).f3), .int .u8 ((rd_T65 l0 x17_1).f4.f0), .int .u64 ((rd_T65 l0 x17_1).f4.f1), .string ((rd_T65 l0 x17_1).f4.f2), .slice A107_7 ((rd_T65 l0 x17_1).f5).length c107_7, .slice A107_8 ((rd_T65 l0 x17_1).f6).length c107_8, .int .u8 ((rd_T65 l0 x17_1).f7), .int .i64 ((rd_T65 l0 x17_1).f8), .int .i64 ((rd_T65 l0 x17_1).f9), .int .i64 ((rd_T65 l0 x17_1).f10), .int .i64 ((rd_T65 l0 x17_1).f11)] 65 (0, 0)) (by (with_reducible repeat (first | refine blk_drewN ?_ _ | refine blk_drew ?_ | refine blk_alloc ?_ _)); apply put14; (with_reducible repeat (first | refine blk_drewN ?_ _ | refine blk_drew ?_ | refine blk_alloc ?_ _)); exact BK108.out) hb); have n1_ := Aside0.mk (below_step (by repeat (first | (with_reducible first | exact HB.out | apply below_alloc | apply pw_below_drewN | apply below_drew1 | refine below_set ?_ GE108.out) | exact HB.out)) hb); have n2_ := Aside0.mk (hbox); have n3_ := Aside0.mk ((by rw [hg]; exact (below_size (by repeat (first | (with_reducible first | exact HB.out | apply below_alloc | apply pw_below_drewN | apply below_drew1 | refine below_set ?_ GE108.out) | exact HB.out))) : w.heap.size ≤ gb110)); have n4_ := Aside0.mk ((by rw [hg]; exact (below_size (by repeat (first | (with_reducible first | exact HB.out | apply below_alloc | apply pw_below_drewN | apply below_drew1 | refine below_set ?_ GE108.out) | exact HB.out))) : w.heap.size ≤ gb110)); have n5_ := Aside0.mk ((by rw [hg]; exact Nat.ne_of_lt (blk_lt (g := gb108) (o := .cells #[.int .i64 ((rd_T65 l0 x17_1).f0), .int .i64 ((rd_T65 l0 x17_1).f1), .string ((rd_T65 l0 x17_1).f2), .string ((rd_T65 l0 x17_1).f3), .int .u8 ((rd_T65 l0 x17_1).f4.f0), .int .u64 ((rd_T65 l0 x17_1).f4.f1), .string ((rd_T65 l0 x17_1).f4.f2), .slice A107_7 ((rd_T65 l0 x17_1).f5).length c107_7, .slice A107_8 ((rd_T65 l0 x17_1).f6).length c107_8, .int .u8 ((rd_T65 l0 x17_1).f7), .int .i64 ((rd_T65 l0 x17_1).f8), .int .i64 ((rd_T65 l0 x17_1).f9), .int .i64 ((rd_T65 l0 x17_1).f10), .int .i64 ((rd_T65 l0 x17_1).f11)] 65 (0, 0)) (by (with_reducible repeat (first | refine blk_drewN ?_ _ | refine blk_drew ?_ | refine blk_alloc ?_ _)); apply put14; (with_reducible repeat (first | refine blk_drewN ?_ _ | refine blk_drew ?_ | refine blk_alloc ?_ _)); exact BK108.out)) : gb108 ≠ gb110)); have n6_ := Aside0.mk ((by rw [hg]; exact Nat.ne_of_gt (blk_lt (g := gb108) (o := .cells #[.int .i64 ((rd_T65 l0 x17_1).f0), .int .i64 ((rd_T65 l0 x17_1).f1), .string ((rd_T65 l0 x17_1).f2), .string ((rd_T65 l0 x17_1).f3), .int .u8 ((rd_T65 l0 x17_1).f4.f0), .int .u64 ((rd_T65 l0 x17_1).f4.f1), .string ((rd_T65 l0 x17_1).f4.f2), .slice A107_7 ((rd_T65 l0 x17_1).f5).length c107_7, .slice A107_8 ((rd_T65 l0 x17_1).f6).length c107_8, .int .u8 ((rd_T65 l0 x17_1).f7), .int .i64 ((rd_T65 l0 x17_1).f8), .int .i64 ((rd_T65 l0 x17_1).f9), .int .i64 ((rd_T65 l0 x17_1).f10), .int .i64 ((rd_T65 l0 x17_1).f11)] 65 (0, 0)) (by (with_reducible repeat (first | refine blk_drewN ?_ _ | refine blk_drew ?_ | refine blk_alloc ?_ _)); apply put14; (with_reducible repeat (first | refine blk_drewN ?_ _ | refine blk_drew ?_ | refine blk_alloc ?_ _)); exact BK108.out)) : gb110 ≠ gb108)); clear BK108; clear HB; have BK108 := n0_; have HB := n1_; have BK110 := n2_; have GW110 := n3_; have GE110 := n4_; have NB108_110 := n5_; have NB110_108 := n6_; clear n0_ n1_ n2_ n3_ n4_ n5_ n6_; clear hb hbox hg; have hnb21 := NB110_108.out; have hnc21 := NB108_110.out; have hcz22_0 : w20.cell? ⟨gb110, 0, none⟩ = some (.int .i64 0) := (blk_cell BK110.out 0).trans rfl; have hcz22_1 : w20.cell? ⟨gb110, 1, none⟩ = some (.int .i64 0) := (blk_cell BK110.out 1).trans rfl; have hcz22_2 : w20.cell? ⟨gb110, 2, none⟩ = some (.string (⟨#[]⟩ : ByteArray)) := (blk_cell BK110.out 2).trans rfl; have hcz22_3 : w20.cell? ⟨gb110, 3, none⟩ = some (.string (⟨#[]⟩ : ByteArray)) := (blk_cell BK110.out 3).trans rfl; have hcz22_4 : w20.cell? ⟨gb110, 4, none⟩ = some (.int .u8 0) := (blk_cell BK110.out 4).trans rfl; have hcz22_5 : w20.cell? ⟨gb110, 5, none⟩ = some (.int .u64 0) := (blk_cell BK110.out 5).trans rfl; have hcz22_6 : w20.cell? ⟨gb110, 6, none⟩ = some (.string (⟨#[]⟩ : ByteArray)) := (blk_cell BK110.out 6).trans rfl; have hcz22_7 : w20.cell? ⟨gb110, 7, none⟩ = some (.slice none 0 0) := (blk_cell BK110.out 7).trans rfl; have hcz22_8 : w20.cell? ⟨gb110, 8, none⟩ = some (.slice none 0 0) := (blk_cell BK110.out 8).trans rfl; have hcz22_9 : w20.cell? ⟨gb110, 9, none⟩ = some (.int .u8 0) := (blk_cell BK110.out 9).trans rfl; have hcz22_10 : w20.cell? ⟨gb110, 10, none⟩ = some (.int .i64 0) := (blk_cell BK110.out 10).trans rfl; have hcz22_11 : w20.cell? ⟨gb110, 11, none⟩ = some (.int .i64 0) := (blk_cell BK110.out 11).trans rfl; have hcz22_12 : w20.cell? ⟨gb110, 12, none⟩ = some (.int .i64 0) := (blk_cell BK110.out 12).trans rfl; have hcz22_13 : w20.cell? ⟨gb110, 13, none⟩ = some (.int .i64 0) := (blk_cell BK110.out 13).trans rfl; have hfz22_0 := blk_frozen BK110.out 0; have hfz22_1 := blk_frozen BK110.out 1; have hfz22_2 := blk_frozen BK110.out 2; have hfz22_3 := blk_frozen BK110.out 3; have hfz22_4 := blk_frozen BK110.out 4; have hfz22_5 := blk_frozen BK110.out 5; have hfz22_6 := blk_frozen BK110.out 6; have hfz22_7 := blk_frozen BK110.out 7; have hfz22_8 := blk_frozen BK110.out 8; have hfz22_9 := blk_frozen BK110.out 9; have hfz22_10 := blk_frozen BK110.out 10; have hfz22_11 := blk_frozen BK110.out 11; have hfz22_12 := blk_frozen BK110.out 12; have hfz22_13 := blk_frozen BK110.out 13; have hcz23_0 : w20.cell? ⟨gb108, 0, none⟩ = some (.int .i64 ((rd_T65 l0 x17_1).f0)) := (blk_cell BK108.out 0).trans rfl; have hcz23_1 : w20.cell? ⟨gb108, 1, none⟩ = some (.int .i64 ((rd_T65 l0 x17_1).f1)) := (blk_cell BK108.out 1).trans rfl; have hcz23_2 : w20.cell? ⟨gb108, 2, none⟩ = some (.string ((rd_T65 l0 x17_1).f2)) := (blk_cell BK108.out 2).trans rfl; have hcz23_3 : w20.cell? ⟨gb108, 3, none⟩ = some (.string ((rd_T65 l0 x17_1).f3)) := (blk_cell BK108.out 3).trans rfl; have hcz23_4 : w20.cell? ⟨gb108, 4, none⟩ = some (.int .u8 ((rd_T65 l0 x17_1).f4.f0)) := (blk_cell BK108.out 4).trans rfl; have hcz23_5 : w20.cell? ⟨gb108, 5, none⟩ = some (.int .u64 ((rd_T65 l0 x17_1).f4.f1)) := (blk_cell BK108.out 5).trans rfl; have hcz23_6 : w20.cell? ⟨gb108, 6, none⟩ = some (.string ((rd_T65 l0 x17_1).f4.f2)) := (blk_cell BK108.out 6).trans rfl; have hcz23_7 : w20.cell? ⟨gb108, 7, none⟩ = some (.slice A107_7 ((rd_T65 l0 x17_1).f5).length c107_7) := (blk_cell BK108.out 7).trans rfl; have hcz23_8 : w20.cell? ⟨gb108, 8, none⟩ = some (.slice A107_8 ((rd_T65 l0 x17_1).f6).length c107_8) := (blk_cell BK108.out 8).trans rfl; have hcz23_9 : w20.cell? ⟨gb108, 9, none⟩ = some (.int .u8 ((rd_T65 l0 x17_1).f7)) := (blk_cell BK108.out 9).trans rfl; have hcz23_10 : w20.cell? ⟨gb108, 10, none⟩ = some (.int .i64 ((rd_T65 l0 x17_1).f8)) := (blk_cell BK108.out 10).trans rfl; have hcz23_11 : w20.cell? ⟨gb108, 11, none⟩ = some (.int .i64 ((rd_T65 l0 x17_1).f9)) := (blk_cell BK108.out 11).trans rfl; have hcz23_12 : w20.cell? ⟨gb108, 12, none⟩ = some (.int .i64 ((rd_T65 l0 x17_1).f10)) := (blk_cell BK108.out 12).trans rfl; have hcz23_13 : w20.cell? ⟨gb108, 13, none⟩ = some (.int .i64 ((rd_T65 l0 x17_1).f11)) := (blk_cell BK108.out 13).trans rfl; have hfz23_0 := blk_frozen BK108.out 0; have hfz23_1 := blk_frozen BK108.out 1; have hfz23_2 := blk_frozen BK108.out 2; have hfz23_3 := blk_frozen BK108.out 3; have hfz23_4 := blk_frozen BK108.out 4; have hfz23_5 := blk_frozen BK108.out 5; have hfz23_6 := blk_frozen BK108.out 6; have hfz23_7 := blk_frozen BK108.out 7; have hfz23_8 := blk_frozen BK108.out 8; have hfz23_9 := blk_frozen BK108.out 9; have hfz23_10 := blk_frozen BK108.out 10; have hfz23_11 := blk_frozen BK108.out 11; have hfz23_12 := blk_frozen BK108.out 12; have hfz23_13 := blk_frozen BK108.out 13) | ((with_reducible refine gate_valued (N := 26) rfl ?_); refine goesV_ (x := .tmp 26) (by first | rfl | (simp [Act.eval]; done)) (some 29) rfl rfl Try.func51 (by kernel_rfl) rfl #[.agg #[.int .i64 ((rd_T65 l0 x17_1).f0), .int .i64 ((rd_T65 l0 x17_1).f1), .string ((rd_T65 l0 x17_1).f2), .string ((rd_T65 l0 x17_1).f3), .int .u8 ((rd_T65 l0 x17_1).f4.f0), .int .u64 ((rd_T65 l0 x17_1).f4.f1), .string ((rd_T65 l0 x17_1).f4.f2), .slice A107_7 ((rd_T65 l0 x17_1).f5).length c107_7, .slice A107_8 ((rd_T65 l0 x17_1).f6).length c107_8, .int .u8 ((rd_T65 l0 x17_1).f7), .int .i64 ((rd_T65 l0 x17_1).f8), .int .i64 ((rd_T65 l0 x17_1).f9), .int .i64 ((rd_T65 l0 x17_1).f10), .int .i64 ((rd_T65 l0 x17_1).f11)], .agg #[.int .i64 ((rd_T65 l1 x17_1).f0), .int .i64 ((rd_T65 l1 x17_1).f1), .string ((rd_T65 l1 x17_1).f2), .string ((rd_T65 l1 x17_1).f3), .int .u8 ((rd_T65 l1 x17_1).f4.f0), .int .u64 ((rd_T65 l1 x17_1).f4.f1), .string ((rd_T65 l1 x17_1).f4.f2), .slice A109_7 ((rd_T65 l1 x17_1).f5).length c109_7, .slice A109_8 ((rd_T65 l1 x17_1).f6).length c109_8, .int .u8 ((rd_T65 l1 x17_1).f7), .int .i64 ((rd_T65 l1 x17_1).f8), .int .i64 ((rd_T65 l1 x17_1).f9), .int .i64 ((rd_T65 l1 x17_1).f10), .int .i64 ((rd_T65 l1 x17_1).f11)]] rfl (by (try simp only [List.map_toArray, List.map_cons, List.map_nil]); first | done | rfl | (simp only [List.length_drop, List.length_take]; rfl)) ?_; (with_reducible refine (hFn ((rd_T65 l0 x17_1).f0) ((rd_T65 l0 x17_1).f1) ((rd_T65 l0 x17_1).f2) ((rd_T65 l0 x17_1).f3) ((rd_T65 l0 x17_1).f4.f0) ((rd_T65 l0 x17_1).f4.f1) ((rd_T65 l0 x17_1).f4.f2) _ _ ((rd_T65 l0 x17_1).f5) _ _ ((rd_T65 l0 x17_1).f6) ((rd_T65 l0 x17_1).f7) ((rd_T65 l0 x17_1).f8) ((rd_T65 l0 x17_1).f9) ((rd_T65 l0 x17_1).f10) ((rd_T65 l0 x17_1).f11) ((rd_T65 l1 x17_1).f0) ((rd_T65 l1 x17_1).f1) ((rd_T65 l1 x17_1).f2) ((rd_T65 l1 x17_1).f3) ((rd_T65 l1 x17_1).f4.f0) ((rd_T65 l1 x17_1).f4.f1) ((rd_T65 l1 x17_1).f4.f2) _ _ ((rd_T65 l1 x17_1).f5) _ _ ((rd_T65 l1 x17_1).f6) ((rd_T65 l1 x17_1).f7) ((rd_T65 l1 x17_1).f8) ((rd_T65 l1 x17_1).f9) ((rd_T65 l1 x17_1).f10) ((rd_T65 l1 x17_1).f11) _ _ ?side1 ?side2 ?side3 ?side4 ?side5 ?side6 ?side7 ?side8 A9.out).mono ?_); (case side1 => exact Kd.C_below HR107_7.out (by repeat (first | (with_reducible first | exact HB.out | apply below_alloc | apply pw_below_drewN | apply below_drew1 | refine below_set ?_ GE108.out | refine below_set ?_ GE110.out) | exact HB.out))); (case side2 => exact HC107_7.out); (case side3 => exact Kd.C_below HR107_8.out (by repeat (first | (with_reducible first | exact HB.out | apply below_alloc | apply pw_below_drewN | apply below_drew1 | refine below_set ?_ GE108.out | refine below_set ?_ GE110.out) | exact HB.out))); (case side4 => exact HC107_8.out); (case side5 => exact Kd.C_below HR109_7.out (by repeat (first | (with_reducible first | exact HB.out | apply below_alloc | apply pw_below_drewN | apply below_drew1 | refine below_set ?_ GE108.out | refine below_set ?_ GE110.out) | exact HB.out))); (case side6 => exact HC109_7.out); (case side7 => exact Kd.C_below HR109_8.out (by repeat (first | (with_reducible first | exact HB.out | apply below_alloc | apply pw_below_drewN | apply below_drew1 | refine below_set ?_ GE108.out | refine below_set ?_ GE110.out) | exact HB.out))); (case side8 => exact HC109_8.out); rintro e w24 ⟨rfl, hb⟩; refine ⟨_, rfl, ?_⟩; have n0_ := Aside0.mk (blk_below (g := gb108) (o := .cells #[.int .i64 ((rd_T65 l0 x17_1).f0), .int .i64 ((rd_T65 l0 x17_1).f1), .string ((rd_T65 l0 x17_1).f2), .string ((rd_T65 l0 x17_1).f3), .int .u8 ((rd_T65 l0 x17_1).f4.f0), .int .u64 ((rd_T65 l0 x17_1).f4.f1), .string ((rd_T65 l0 x17_1).f4.f2), .slice A107_7 ((rd_T65 l0 x17_1).f5).length c107_7, .slice A107_8 ((rd_T65 l0 x17_1).f6).length c107_8, .int .u8 ((rd_T65 l0 x17_1).f7), .int .i64 ((rd_T65 l0 x17_1).f8), .int .i64 ((rd_T65 l0 x17_1).f9), .int .i64 ((rd_T65 l0 x17_1).f10), .int .i64 ((rd_T65 l0 x17_1).f11)] 65 (0, 0)) (by (with_reducible repeat (first | refine blk_drewN ?_ _ | refine blk_drew ?_ | refine blk_alloc ?_ _)); refine blk_far ?_ NB108_110.out _; (with_reducible repeat (first | refine blk_drewN ?_ _ | refine blk_drew ?_ | refine blk_alloc ?_ _)); refine blk_far ?_ NB108_110.out _; (with_reducible repeat (first | refine blk_drewN ?_ _ | refine blk_drew ?_ | refine blk_alloc ?_ _)); refine blk_far ?_ NB108_110.out _; (with_reducible repeat (first | refine blk_drewN ?_ _ | refine blk_drew ?_ | refine blk_alloc ?_ _)); refine blk_far ?_ NB108_110.out _; (with_reducible repeat (first | refine blk_drewN ?_ _ | refine blk_drew ?_ | refine blk_alloc ?_ _)); refine blk_far ?_ NB108_110.out _; (with_reducible repeat (first | refine blk_drewN ?_ _ | refine blk_drew ?_ | refine blk_alloc ?_ _)); refine blk_far ?_ NB108_110.out _; (with_reducible repeat (first | refine blk_drewN ?_ _ | refine blk_drew ?_ | refine blk_alloc ?_ _)); refine blk_far ?_ NB108_110.out _; (with_reducible repeat (first | refine blk_drewN ?_ _ | refine blk_drew ?_ | refine blk_alloc ?_ _)); refine blk_far ?_ NB108_110.out _; (with_reducible repeat (first | refine blk_drewN ?_ _ | refine blk_drew ?_ | refine blk_alloc ?_ _)); refine blk_far ?_ NB108_110.out _; (with_reducible repeat (first | refine blk_drewN ?_ _ | refine blk_drew ?_ | refine blk_alloc ?_ _)); refine blk_far ?_ NB108_110.out _; (with_reducible repeat (first | refine blk_drewN ?_ _ | refine blk_drew ?_ | refine blk_alloc ?_ _)); refine blk_far ?_ NB108_110.out _; (with_reducible repeat (first | refine blk_drewN ?_ _ | refine blk_drew ?_ | refine blk_alloc ?_ _)); refine blk_far ?_ NB108_110.out _; (with_reducible repeat (first | refine blk_drewN ?_ _ | refine blk_drew ?_ | refine blk_alloc ?_ _)); refine blk_far ?_ NB108_110.out _; (with_reducible repeat (first | refine blk_drewN ?_ _ | refine blk_drew ?_ | refine blk_alloc ?_ _)); refine blk_far ?_ NB108_110.out _; (with_reducible repeat (first | refine blk_drewN ?_ _ | refine blk_drew ?_ | refine blk_alloc ?_ _)); exact BK108.out) hb); have n1_ := Aside0.mk (blk_below (g := gb110) (o := .cells #[.int .i64 ((rd_T65 l1 x17_1).f0), .int .i64 ((rd_T65 l1 x17_1).f1), .string ((rd_T65 l1 x17_1).f2), .string ((rd_T65 l1 x17_1).f3), .int .u8 ((rd_T65 l1 x17_1).f4.f0), .int .u64 ((rd_T65 l1 x17_1).f4.f1), .string ((rd_T65 l1 x17_1).f4.f2), .slice A109_7 ((rd_T65 l1 x17_1).f5).length c109_7, .slice A109_8 ((rd_T65 l1 x17_1).f6).length c109_8, .int .u8 ((rd_T65 l1 x17_1).f7), .int .i64 ((rd_T65 l1 x17_1).f8), .int .i64 ((rd_T65 l1 x17_1).f9), .int .i64 ((rd_T65 l1 x17_1).f10), .int .i64 ((rd_T65 l1 x17_1).f11)] 65 (0, 0)) (by (with_reducible repeat (first | refine blk_drewN ?_ _ | refine blk_drew ?_ | refine blk_alloc ?_ _)); apply put14; (with_reducible repeat (first | refine blk_drewN ?_ _ | refine blk_drew ?_ | refine blk_alloc ?_ _)); exact BK110.out) hb); have n2_ := Aside0.mk (below_step (by repeat (first | (with_reducible first | exact HB.out | apply below_alloc | apply pw_below_drewN | apply below_drew1 | refine below_set ?_ GE108.out | refine below_set ?_ GE110.out) | exact HB.out)) hb); clear BK108; clear BK110; clear HB; have BK108 := n0_; have BK110 := n1_; have HB := n2_; clear n0_ n1_ n2_; (try clear hb); (try clear hb2); (try clear hk); (try clear hi)))
        all_goals first
          | (go_roundg k1
             case measure => have := HK1.out; omega
             case rel => exact ⟨(wrap64 (x17_1 + 1)), (by first | rfl | (simp; done) | (simp [*]; done) | (simp [*, bne]; done)), H', ⟨by have := HK1.out; omega⟩, ⟨by repeat (first | (with_reducible first | exact HB.out | apply below_alloc | apply pw_below_drewN | apply below_drew1 | refine below_set ?_ GE108.out | refine below_set ?_ GE110.out) | exact HB.out)⟩⟩)
          | (go_ret
             exact ⟨by first | rfl | (simp [errW_none, errW_some] <;> rfl) | (simp [*, errW_none, errW_some] <;> rfl), by repeat (first | (with_reducible first | exact HB.out | apply below_alloc | apply pw_below_drewN | apply below_drew1 | refine below_set ?_ GE108.out | refine below_set ?_ GE110.out) | exact HB.out)⟩)
  · rw [if_neg c4] at H
    have c4b0 : ((l0.length : Int) == (l1.length : Int)) = false := beq_eq_false_iff_ne.mpr c4
    have c4b1 : ((l0.length : Int) != (l1.length : Int)) = true := bne_iff_ne.mpr c4
    have c4b2 : (l0.length == l1.length) = false := by first | simpa using c4 | (simp at c4 ⊢; omega)
    obtain rfl := Option.some.inj H
    go_enter Try.func50, Try.ntmps50
    go_wp2
    go_ret
    exact ⟨by first | rfl | (simp [errW_none, errW_some] <;> rfl) | (simp [*, errW_none, errW_some] <;> rfl), by repeat (first | (with_reducible first | exact HB.out | apply below_alloc | apply pw_below_drewN | apply below_drew1) | exact HB.out)⟩

/-! #### st_sameExprs, over api_Expr -/
def st_sameExprs.fOf (Fn : List (S65) → List (S65) → Bool → Option (Bool)) (k : Nat) (l0 : List (S65)) (l1 : List (S65)) : Option (Bool) := (Fn l0 l1 true).bind fun t101 => (some t101)

theorem st_sameExprs.monoOf (Fn Fn' : List (S65) → List (S65) → Bool → Option (Bool)) (hle_ : ∀ z0 z1 z2, LeO (Fn z0 z1 z2) (Fn' z0 z1 z2)) : ∀ a0 a1 k, LeO (st_sameExprs.fOf Fn k a0 a1) (st_sameExprs.fOf Fn' (k + 1) a0 a1) := by
  intro a0 a1 k
  unfold st_sameExprs.fOf
  repeat' first
      | (with_reducible exact hle_ _ _ _)
      | (with_reducible exact LeO.refl _)
      | (with_reducible exact LeO.none _)
      | (with_reducible refine LeO.ite ?_ ?_)
      | (with_reducible refine LeO.bind ?_ (fun _ => ?_))
      | exact hle_ _ _ _
      | exact LeO.none _
      | refine LeO.ite ?_ ?_
      | refine LeO.bind ?_ (fun _ => ?_)

set_option maxHeartbeats 8000000 in
set_option maxRecDepth 100000 in
theorem st_sameExprs.callsOf (Fn : List (S65) → List (S65) → Bool → Option (Bool)) (hFn : ∀ (A0 : Option Addr) (c0 : Nat) (l0 : List (S65)) (A1 : Option Addr) (c1 : Nat) (l1 : List (S65)) (a2 : Bool) (r : Bool) (w : World) (hr0 : Kd.C k65 w A0 l0.length l0) (hc0 : l0.length ≤ c0) (hr1 : Kd.C k65 w A1 l1.length l1) (hc1 : l1.length ≤ c1) (h : Fn l0 l1 a2 = some r), Calls Try.prog 50 #[.slice A0 l0.length c0, .slice A1 l1.length c1, .func (.func 51) #[] #[]] w fun e w' => e = .returned (.bool r) ∧ Below w.heap.size w w') (k : Nat) (A0 : Option Addr) (c0 : Nat) (l0 : List (S65)) (A1 : Option Addr) (c1 : Nat) (l1 : List (S65)) (r : Bool) (w : World) (hr0 : Kd.C k65 w A0 l0.length l0) (hc0 : l0.length ≤ c0) (hr1 : Kd.C k65 w A1 l1.length l1) (hc1 : l1.length ≤ c1) (h : st_sameExprs.fOf Fn k l0 l1 = some r) :
    Calls Try.prog 24 #[.slice A0 l0.length c0, .slice A1 l1.length c1] w fun e w' => e = .returned (.bool r) ∧ Below w.heap.size w w' := by
  have HR0 := Aside0.mk hr0
  have HC0 := Aside0.mk hc0
  clear hr0 hc0
  have HR1 := Aside0.mk hr1
  have HC1 := Aside0.mk hc1
  clear hr1 hc1
  have HB := Aside0.mk (Below.refl w.heap.size w)
  have H : ((Fn l0 l1 true).bind fun t101 => (some t101)) = some r := h
  clear h
  replace H := Option.bind_eq_some_iff.mp H
  obtain ⟨t101, A30, H⟩ := H
  replace H : (some t101) = some r := H
  have A3 := Aside0.mk A30
  clear A30
  obtain rfl := Option.some.inj H
  go_enter Try.func24, Try.ntmps24
  go_wp2_with (first | ((with_reducible refine gate_callee (f := 50) rfl ?_); refine goesL_ (some 7) rfl rfl Try.func50 (by kernel_rfl) rfl #[.slice A0 l0.length c0, .slice A1 l1.length c1, .func (.func 51) #[] #[]] rfl (by (try simp only [List.map_toArray, List.map_cons, List.map_nil]); first | done | rfl | (simp only [List.length_drop, List.length_take]; rfl)) ?_; (with_reducible refine (hFn _ _ l0 _ _ l1 true t101 _ ?side1 ?side2 ?side3 ?side4 A3.out).mono ?_); (case side1 => repeat (first | exact HR0.out | (with_reducible refine Kd.C_alloc ?_ _) | (with_reducible refine Kd.C_drewN ?_ _) | (with_reducible refine Kd.C_drew ?_))); (case side2 => exact HC0.out); (case side3 => repeat (first | exact HR1.out | (with_reducible refine Kd.C_alloc ?_ _) | (with_reducible refine Kd.C_drewN ?_ _) | (with_reducible refine Kd.C_drew ?_))); (case side4 => exact HC1.out); rintro e w4 ⟨rfl, hb⟩; refine ⟨_, rfl, ?_⟩; have n0_ := Aside0.mk (below_step (by repeat (first | (with_reducible first | exact HB.out | apply below_alloc | apply pw_below_drewN | apply below_drew1) | exact HB.out)) hb); clear HB; have HB := n0_; clear n0_; (try clear hb); (try clear hb2); (try clear hk); (try clear hi)))
  go_ret
  exact ⟨by first | rfl | (simp [errW_none, errW_some] <;> rfl) | (simp [*, errW_none, errW_some] <;> rfl), by repeat (first | (with_reducible first | exact HB.out | apply below_alloc | apply pw_below_drewN | apply below_drew1) | exact HB.out)⟩

/-! #### All together, by recursion on a number -/
def st_sameExprs.rec : Nat → List (S65) → List (S65) → Option (Bool)
  | 0 => fun _ _ => none
  | n + 1 => st_sameExprs.fOf (api_Expr.fOf (st_sameExprs_1.fOf (st_sameExprs.rec n) (n + 1)) (n + 1)) (n + 1)
def st_sameExprs.f (k : Nat) (l0 : List (S65)) (l1 : List (S65)) : Option (Bool) := st_sameExprs.rec k l0 l1
theorem st_sameExprs.mono : ∀ z0_0 z0_1 k, LeO (st_sameExprs.f k z0_0 z0_1) (st_sameExprs.f (k + 1) z0_0 z0_1) := by
  intro z0_0 z0_1 k
  induction k generalizing z0_0 z0_1 with
  | zero => exact LeO.none _
  | succ n ih => exact st_sameExprs.monoOf _ _ (fun z1_0 z1_1 z1_2 => api_Expr.monoOf _ _ (fun z2_0 z2_1 z2_2 z2_3 z2_4 z2_5 z2_6 z2_7 z2_8 z2_9 z2_10 z2_11 z2_12 z2_13 z2_14 z2_15 z2_16 z2_17 z2_18 z2_19 z2_20 z2_21 z2_22 z2_23 z2_24 z2_25 z2_26 z2_27 => st_sameExprs_1.monoOf _ _ ih z2_0 z2_1 z2_2 z2_3 z2_4 z2_5 z2_6 z2_7 z2_8 z2_9 z2_10 z2_11 z2_12 z2_13 z2_14 z2_15 z2_16 z2_17 z2_18 z2_19 z2_20 z2_21 z2_22 z2_23 z2_24 z2_25 z2_26 z2_27 (n + 1)) z1_0 z1_1 z1_2 (n + 1)) z0_0 z0_1 (n + 1)
theorem st_sameExprs.calls (k : Nat) : ∀ (A0 : Option Addr) (c0 : Nat) (l0 : List (S65)) (A1 : Option Addr) (c1 : Nat) (l1 : List (S65)) (r : Bool) (w : World) (hr0 : Kd.C k65 w A0 l0.length l0) (hc0 : l0.length ≤ c0) (hr1 : Kd.C k65 w A1 l1.length l1) (hc1 : l1.length ≤ c1) (h : st_sameExprs.f k l0 l1 = some r),
    Calls Try.prog 24 #[.slice A0 l0.length c0, .slice A1 l1.length c1] w fun e w' => e = .returned (.bool r) ∧ Below w.heap.size w w' := by
  induction k with
  | zero => intro A0 c0 l0 A1 c1 l1 r w hr0 hc0 hr1 hc1 h; cases h
  | succ n ih => exact st_sameExprs.callsOf _ (fun A0 c0 l0 A1 c1 l1 a2 r w hr0 hc0 hr1 hc1 h => api_Expr.callsOf _ (fun a0_0 a0_1 a0_2 a0_3 a0_4 a0_5 a0_6 A0_7 c0_7 l0_7 A0_8 c0_8 l0_8 a0_9 a0_10 a0_11 a0_12 a0_13 a1_0 a1_1 a1_2 a1_3 a1_4 a1_5 a1_6 A1_7 c1_7 l1_7 A1_8 c1_8 l1_8 a1_9 a1_10 a1_11 a1_12 a1_13 r w hr0_7 hc0_7 hr0_8 hc0_8 hr1_7 hc1_7 hr1_8 hc1_8 h => st_sameExprs_1.callsOf _ ih (n + 1) a0_0 a0_1 a0_2 a0_3 a0_4 a0_5 a0_6 A0_7 c0_7 l0_7 A0_8 c0_8 l0_8 a0_9 a0_10 a0_11 a0_12 a0_13 a1_0 a1_1 a1_2 a1_3 a1_4 a1_5 a1_6 A1_7 c1_7 l1_7 A1_8 c1_8 l1_8 a1_9 a1_10 a1_11 a1_12 a1_13 r w hr0_7 hc0_7 hr0_8 hc0_8 hr1_7 hc1_7 hr1_8 hc1_8 h) (n + 1) A0 c0 l0 A1 c1 l1 a2 r w hr0 hc0 hr1 hc1 h) (n + 1)
def st_sameExprs_1.f (k : Nat) (a0_0 : Int) (a0_1 : Int) (a0_2 : ByteArray) (a0_3 : ByteArray) (a0_4 : Int) (a0_5 : Int) (a0_6 : ByteArray) (l0_7 : List (S65)) (l0_8 : List ByteArray) (a0_9 : Int) (a0_10 : Int) (a0_11 : Int) (a0_12 : Int) (a0_13 : Int) (a1_0 : Int) (a1_1 : Int) (a1_2 : ByteArray) (a1_3 : ByteArray) (a1_4 : Int) (a1_5 : Int) (a1_6 : ByteArray) (l1_7 : List (S65)) (l1_8 : List ByteArray) (a1_9 : Int) (a1_10 : Int) (a1_11 : Int) (a1_12 : Int) (a1_13 : Int) : Option (Bool) := st_sameExprs_1.fOf (st_sameExprs.rec k) (k + 1) a0_0 a0_1 a0_2 a0_3 a0_4 a0_5 a0_6 l0_7 l0_8 a0_9 a0_10 a0_11 a0_12 a0_13 a1_0 a1_1 a1_2 a1_3 a1_4 a1_5 a1_6 l1_7 l1_8 a1_9 a1_10 a1_11 a1_12 a1_13
theorem st_sameExprs_1.mono : ∀ z2_0 z2_1 z2_2 z2_3 z2_4 z2_5 z2_6 z2_7 z2_8 z2_9 z2_10 z2_11 z2_12 z2_13 z2_14 z2_15 z2_16 z2_17 z2_18 z2_19 z2_20 z2_21 z2_22 z2_23 z2_24 z2_25 z2_26 z2_27 k, LeO (st_sameExprs_1.f k z2_0 z2_1 z2_2 z2_3 z2_4 z2_5 z2_6 z2_7 z2_8 z2_9 z2_10 z2_11 z2_12 z2_13 z2_14 z2_15 z2_16 z2_17 z2_18 z2_19 z2_20 z2_21 z2_22 z2_23 z2_24 z2_25 z2_26 z2_27) (st_sameExprs_1.f (k + 1) z2_0 z2_1 z2_2 z2_3 z2_4 z2_5 z2_6 z2_7 z2_8 z2_9 z2_10 z2_11 z2_12 z2_13 z2_14 z2_15 z2_16 z2_17 z2_18 z2_19 z2_20 z2_21 z2_22 z2_23 z2_24 z2_25 z2_26 z2_27) := fun z2_0 z2_1 z2_2 z2_3 z2_4 z2_5 z2_6 z2_7 z2_8 z2_9 z2_10 z2_11 z2_12 z2_13 z2_14 z2_15 z2_16 z2_17 z2_18 z2_19 z2_20 z2_21 z2_22 z2_23 z2_24 z2_25 z2_26 z2_27 k => st_sameExprs_1.monoOf _ _ (fun z0_0 z0_1 => st_sameExprs.mono z0_0 z0_1 k) z2_0 z2_1 z2_2 z2_3 z2_4 z2_5 z2_6 z2_7 z2_8 z2_9 z2_10 z2_11 z2_12 z2_13 z2_14 z2_15 z2_16 z2_17 z2_18 z2_19 z2_20 z2_21 z2_22 z2_23 z2_24 z2_25 z2_26 z2_27 (k + 1)
theorem st_sameExprs_1.calls (k : Nat) : ∀ (a0_0 : Int) (a0_1 : Int) (a0_2 : ByteArray) (a0_3 : ByteArray) (a0_4 : Int) (a0_5 : Int) (a0_6 : ByteArray) (A0_7 : Option Addr) (c0_7 : Nat) (l0_7 : List (S65)) (A0_8 : Option Addr) (c0_8 : Nat) (l0_8 : List ByteArray) (a0_9 : Int) (a0_10 : Int) (a0_11 : Int) (a0_12 : Int) (a0_13 : Int) (a1_0 : Int) (a1_1 : Int) (a1_2 : ByteArray) (a1_3 : ByteArray) (a1_4 : Int) (a1_5 : Int) (a1_6 : ByteArray) (A1_7 : Option Addr) (c1_7 : Nat) (l1_7 : List (S65)) (A1_8 : Option Addr) (c1_8 : Nat) (l1_8 : List ByteArray) (a1_9 : Int) (a1_10 : Int) (a1_11 : Int) (a1_12 : Int) (a1_13 : Int) (r : Bool) (w : World) (hr0_7 : Kd.C k65 w A0_7 l0_7.length l0_7) (hc0_7 : l0_7.length ≤ c0_7) (hr0_8 : Kd.C Kd.string w A0_8 l0_8.length l0_8) (hc0_8 : l0_8.length ≤ c0_8) (hr1_7 : Kd.C k65 w A1_7 l1_7.length l1_7) (hc1_7 : l1_7.length ≤ c1_7) (hr1_8 : Kd.C Kd.string w A1_8 l1_8.length l1_8) (hc1_8 : l1_8.length ≤ c1_8) (h : st_sameExprs_1.f k a0_0 a0_1 a0_2 a0_3 a0_4 a0_5 a0_6 l0_7 l0_8 a0_9 a0_10 a0_11 a0_12 a0_13 a1_0 a1_1 a1_2 a1_3 a1_4 a1_5 a1_6 l1_7 l1_8 a1_9 a1_10 a1_11 a1_12 a1_13 = some r),
    Calls Try.prog 51 #[.agg #[.int .i64 a0_0, .int .i64 a0_1, .string a0_2, .string a0_3, .int .u8 a0_4, .int .u64 a0_5, .string a0_6, .slice A0_7 l0_7.length c0_7, .slice A0_8 l0_8.length c0_8, .int .u8 a0_9, .int .i64 a0_10, .int .i64 a0_11, .int .i64 a0_12, .int .i64 a0_13], .agg #[.int .i64 a1_0, .int .i64 a1_1, .string a1_2, .string a1_3, .int .u8 a1_4, .int .u64 a1_5, .string a1_6, .slice A1_7 l1_7.length c1_7, .slice A1_8 l1_8.length c1_8, .int .u8 a1_9, .int .i64 a1_10, .int .i64 a1_11, .int .i64 a1_12, .int .i64 a1_13]] w fun e w' => e = .returned (.bool r) ∧ Below w.heap.size w w' := fun a0_0 a0_1 a0_2 a0_3 a0_4 a0_5 a0_6 A0_7 c0_7 l0_7 A0_8 c0_8 l0_8 a0_9 a0_10 a0_11 a0_12 a0_13 a1_0 a1_1 a1_2 a1_3 a1_4 a1_5 a1_6 A1_7 c1_7 l1_7 A1_8 c1_8 l1_8 a1_9 a1_10 a1_11 a1_12 a1_13 r w hr0_7 hc0_7 hr0_8 hc0_8 hr1_7 hc1_7 hr1_8 hc1_8 h => st_sameExprs_1.callsOf _ (st_sameExprs.calls k) (k + 1) a0_0 a0_1 a0_2 a0_3 a0_4 a0_5 a0_6 A0_7 c0_7 l0_7 A0_8 c0_8 l0_8 a0_9 a0_10 a0_11 a0_12 a0_13 a1_0 a1_1 a1_2 a1_3 a1_4 a1_5 a1_6 A1_7 c1_7 l1_7 A1_8 c1_8 l1_8 a1_9 a1_10 a1_11 a1_12 a1_13 r w hr0_7 hc0_7 hr0_8 hc0_8 hr1_7 hc1_7 hr1_8 hc1_8 h
def api_Expr.f (k : Nat) (l0 : List (S65)) (l1 : List (S65)) (a2 : Bool) : Option (Bool) := api_Expr.fOf (st_sameExprs_1.fOf (st_sameExprs.rec k) (k + 1)) (k + 1) l0 l1 a2
theorem api_Expr.mono : ∀ z1_0 z1_1 z1_2 k, LeO (api_Expr.f k z1_0 z1_1 z1_2) (api_Expr.f (k + 1) z1_0 z1_1 z1_2) := fun z1_0 z1_1 z1_2 k => api_Expr.monoOf _ _ (fun z2_0 z2_1 z2_2 z2_3 z2_4 z2_5 z2_6 z2_7 z2_8 z2_9 z2_10 z2_11 z2_12 z2_13 z2_14 z2_15 z2_16 z2_17 z2_18 z2_19 z2_20 z2_21 z2_22 z2_23 z2_24 z2_25 z2_26 z2_27 => st_sameExprs_1.monoOf _ _ (fun z0_0 z0_1 => st_sameExprs.mono z0_0 z0_1 k) z2_0 z2_1 z2_2 z2_3 z2_4 z2_5 z2_6 z2_7 z2_8 z2_9 z2_10 z2_11 z2_12 z2_13 z2_14 z2_15 z2_16 z2_17 z2_18 z2_19 z2_20 z2_21 z2_22 z2_23 z2_24 z2_25 z2_26 z2_27 (k + 1)) z1_0 z1_1 z1_2 (k + 1)
theorem api_Expr.calls (k : Nat) : ∀ (A0 : Option Addr) (c0 : Nat) (l0 : List (S65)) (A1 : Option Addr) (c1 : Nat) (l1 : List (S65)) (a2 : Bool) (r : Bool) (w : World) (hr0 : Kd.C k65 w A0 l0.length l0) (hc0 : l0.length ≤ c0) (hr1 : Kd.C k65 w A1 l1.length l1) (hc1 : l1.length ≤ c1) (h : api_Expr.f k l0 l1 a2 = some r),
    Calls Try.prog 50 #[.slice A0 l0.length c0, .slice A1 l1.length c1, .func (.func 51) #[] #[]] w fun e w' => e = .returned (.bool r) ∧ Below w.heap.size w w' := fun A0 c0 l0 A1 c1 l1 a2 r w hr0 hc0 hr1 hc1 h => api_Expr.callsOf _ (fun a0_0 a0_1 a0_2 a0_3 a0_4 a0_5 a0_6 A0_7 c0_7 l0_7 A0_8 c0_8 l0_8 a0_9 a0_10 a0_11 a0_12 a0_13 a1_0 a1_1 a1_2 a1_3 a1_4 a1_5 a1_6 A1_7 c1_7 l1_7 A1_8 c1_8 l1_8 a1_9 a1_10 a1_11 a1_12 a1_13 r w hr0_7 hc0_7 hr0_8 hc0_8 hr1_7 hc1_7 hr1_8 hc1_8 h => st_sameExprs_1.callsOf _ (st_sameExprs.calls k) (k + 1) a0_0 a0_1 a0_2 a0_3 a0_4 a0_5 a0_6 A0_7 c0_7 l0_7 A0_8 c0_8 l0_8 a0_9 a0_10 a0_11 a0_12 a0_13 a1_0 a1_1 a1_2 a1_3 a1_4 a1_5 a1_6 A1_7 c1_7 l1_7 A1_8 c1_8 l1_8 a1_9 a1_10 a1_11 a1_12 a1_13 r w hr0_7 hc0_7 hr0_8 hc0_8 hr1_7 hc1_7 hr1_8 hc1_8 h) (k + 1) A0 c0 l0 A1 c1 l1 a2 r w hr0 hc0 hr1 hc1 h

end Go.Proofs.Ytmdkbhbconnmmaa.XSame
