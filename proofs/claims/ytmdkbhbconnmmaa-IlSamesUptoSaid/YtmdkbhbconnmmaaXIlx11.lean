-- WRITTEN BY wip/tools/xprint.py out of the translation: the kit's print with this work's hooks.
import Derived.Test.YtmdkbhbconnmmaaXIlx0
import Derived.Test.YtmdkbhbconnmmaaXIlx10
namespace Go.Proofs.Ytmdkbhbconnmmaa.XIl
open Go.RowKit Go.Proofs.YtmdkbhbconnmmaaW.PrintWords Go.Proofs.YtmdkbhbconnmmaaW.PrintLast Go.Proofs.YtmdkbhbconnmmaaW.PrintMore
attribute [local go_sem] max2_int min2_int max_two min_two max_three min_three max_four min_four   -- for this text's walks alone
set_option linter.unusedVariables false
set_option linter.unusedSimpArgs false

/-! ### relayref05_sameExprs: function 28 -/
theorem eqA63 (d : Nat) (w : World) (x0 y0 : Int) (x1 y1 : Int) (x2 y2 : ByteArray) :
 (Op.equalIn (d + 2) 63 (.agg #[.int .u8 x0, .int .u64 x1, .string x2]) (.agg #[.int .u8 y0, .int .u64 y1, .string y2])).run Try.prog w = .ok (x0 == y0 && (x1 == y1 && (x2.toList == y2.toList))) w := by
 refine eqA_of Try.underlying63 (by kernel_rfl) ?_
 refine eqf_cons (by rfl) (by go_simp; rfl) (by go_simp; rfl) (by go_simp) ?_
 refine eqf_cons (by rfl) (by go_simp; rfl) (by go_simp; rfl) (by go_simp) ?_
 exact eqf_last (by rfl) (by go_simp; rfl) (by go_simp; rfl) (by go_simp)
attribute [local go_sem high] eqA63
/-! #### relayref05_SameExpr, over relayref05_sameExprs -/
def relayref05_SameExpr.fOf (Fn : List (S65) → List (S65) → Option (Bool)) (k : Nat) (a0_0 : Int) (a0_1 : Int) (a0_2 : ByteArray) (a0_3 : ByteArray) (a0_4 : Int) (a0_5 : Int) (a0_6 : ByteArray) (l0_7 : List (S65)) (l0_8 : List ByteArray) (a0_9 : Int) (a0_10 : Int) (a0_11 : Int) (a0_12 : Int) (a0_13 : Int) (a1_0 : Int) (a1_1 : Int) (a1_2 : ByteArray) (a1_3 : ByteArray) (a1_4 : Int) (a1_5 : Int) (a1_6 : ByteArray) (l1_7 : List (S65)) (l1_8 : List ByteArray) (a1_9 : Int) (a1_10 : Int) (a1_11 : Int) (a1_12 : Int) (a1_13 : Int) : Option (Bool) := if a0_0 = a1_0 then (if a0_2.toList = a1_2.toList then (if a0_3.toList = a1_3.toList then (if (a0_4 == a1_4 && (a0_5 == a1_5 && (a0_6.toList == a1_6.toList))) = true then ((relayref05_sameTexts.f k l0_8 l1_8).bind fun t113 => (if t113 = true then ((Fn l0_7 l1_7).bind fun t114 => (some t114)) else (some false))) else (some false)) else (some false)) else (some false)) else (some false)

theorem relayref05_SameExpr.monoOf (Fn Fn' : List (S65) → List (S65) → Option (Bool)) (hle_ : ∀ z0 z1, LeO (Fn z0 z1) (Fn' z0 z1)) : ∀ a0 a1 a2 a3 a4 a5 a6 a7 a8 a9 a10 a11 a12 a13 a14 a15 a16 a17 a18 a19 a20 a21 a22 a23 a24 a25 a26 a27 k, LeO (relayref05_SameExpr.fOf Fn k a0 a1 a2 a3 a4 a5 a6 a7 a8 a9 a10 a11 a12 a13 a14 a15 a16 a17 a18 a19 a20 a21 a22 a23 a24 a25 a26 a27) (relayref05_SameExpr.fOf Fn' (k + 1) a0 a1 a2 a3 a4 a5 a6 a7 a8 a9 a10 a11 a12 a13 a14 a15 a16 a17 a18 a19 a20 a21 a22 a23 a24 a25 a26 a27) := by
 intro a0 a1 a2 a3 a4 a5 a6 a7 a8 a9 a10 a11 a12 a13 a14 a15 a16 a17 a18 a19 a20 a21 a22 a23 a24 a25 a26 a27 k
 unfold relayref05_SameExpr.fOf
 repeat' first
  | (with_reducible exact hle_ _ _)
  | (with_reducible exact relayref05_sameTexts.mono _ _ _)
  | (with_reducible exact LeO.refl _)
  | (with_reducible exact LeO.none _)
  | (with_reducible refine LeO.ite ?_ ?_)
  | (with_reducible refine LeO.bind ?_ (fun _ => ?_))
  | exact hle_ _ _
  | exact relayref05_sameTexts.mono _ _ _
  | exact LeO.none _
  | refine LeO.ite ?_ ?_
  | refine LeO.bind ?_ (fun _ => ?_)

set_option maxHeartbeats 8000000 in
set_option maxRecDepth 100000 in
theorem relayref05_SameExpr.callsOf (Fn : List (S65) → List (S65) → Option (Bool)) (hFn : ∀ (A0 : Option Addr) (c0 : Nat) (l0 : List (S65)) (A1 : Option Addr) (c1 : Nat) (l1 : List (S65)) (r : Bool) (w : World) (hr0 : Kd.C k65 w A0 l0.length l0) (hc0 : l0.length ≤ c0) (hr1 : Kd.C k65 w A1 l1.length l1) (hc1 : l1.length ≤ c1) (h : Fn l0 l1 = some r), Calls Try.prog 28 #[.slice A0 l0.length c0, .slice A1 l1.length c1] w fun e w' => e = .returned (.bool r) ∧ Below w.heap.size w w') (k : Nat) (a0_0 : Int) (a0_1 : Int) (a0_2 : ByteArray) (a0_3 : ByteArray) (a0_4 : Int) (a0_5 : Int) (a0_6 : ByteArray) (A0_7 : Option Addr) (c0_7 : Nat) (l0_7 : List (S65)) (A0_8 : Option Addr) (c0_8 : Nat) (l0_8 : List ByteArray) (a0_9 : Int) (a0_10 : Int) (a0_11 : Int) (a0_12 : Int) (a0_13 : Int) (a1_0 : Int) (a1_1 : Int) (a1_2 : ByteArray) (a1_3 : ByteArray) (a1_4 : Int) (a1_5 : Int) (a1_6 : ByteArray) (A1_7 : Option Addr) (c1_7 : Nat) (l1_7 : List (S65)) (A1_8 : Option Addr) (c1_8 : Nat) (l1_8 : List ByteArray) (a1_9 : Int) (a1_10 : Int) (a1_11 : Int) (a1_12 : Int) (a1_13 : Int) (r : Bool) (w : World) (hr0_7 : Kd.C k65 w A0_7 l0_7.length l0_7) (hc0_7 : l0_7.length ≤ c0_7) (hr0_8 : Kd.C Kd.string w A0_8 l0_8.length l0_8) (hc0_8 : l0_8.length ≤ c0_8) (hr1_7 : Kd.C k65 w A1_7 l1_7.length l1_7) (hc1_7 : l1_7.length ≤ c1_7) (hr1_8 : Kd.C Kd.string w A1_8 l1_8.length l1_8) (hc1_8 : l1_8.length ≤ c1_8) (h : relayref05_SameExpr.fOf Fn k a0_0 a0_1 a0_2 a0_3 a0_4 a0_5 a0_6 l0_7 l0_8 a0_9 a0_10 a0_11 a0_12 a0_13 a1_0 a1_1 a1_2 a1_3 a1_4 a1_5 a1_6 l1_7 l1_8 a1_9 a1_10 a1_11 a1_12 a1_13 = some r) :
 Calls Try.prog 52 #[.agg #[.int .i64 a0_0, .int .i64 a0_1, .string a0_2, .string a0_3, .int .u8 a0_4, .int .u64 a0_5, .string a0_6, .slice A0_7 l0_7.length c0_7, .slice A0_8 l0_8.length c0_8, .int .u8 a0_9, .int .i64 a0_10, .int .i64 a0_11, .int .i64 a0_12, .int .i64 a0_13], .agg #[.int .i64 a1_0, .int .i64 a1_1, .string a1_2, .string a1_3, .int .u8 a1_4, .int .u64 a1_5, .string a1_6, .slice A1_7 l1_7.length c1_7, .slice A1_8 l1_8.length c1_8, .int .u8 a1_9, .int .i64 a1_10, .int .i64 a1_11, .int .i64 a1_12, .int .i64 a1_13]] w fun e w' => e = .returned (.bool r) ∧ Below w.heap.size w w' := by
 have hu65 := Try.underlying65
 have hu63 := Try.underlying63
 have HR0_7 := Aside0.mk hr0_7
 have HC0_7 := Aside0.mk hc0_7
 clear hr0_7 hc0_7
 have HR0_8 := Aside0.mk hr0_8
 have HC0_8 := Aside0.mk hc0_8
 clear hr0_8 hc0_8
 have HR1_7 := Aside0.mk hr1_7
 have HC1_7 := Aside0.mk hc1_7
 clear hr1_7 hc1_7
 have HR1_8 := Aside0.mk hr1_8
 have HC1_8 := Aside0.mk hc1_8
 clear hr1_8 hc1_8
 have HB := Aside0.mk (Below.refl w.heap.size w)
 have H : (if a0_0 = a1_0 then (if a0_2.toList = a1_2.toList then (if a0_3.toList = a1_3.toList then (if (a0_4 == a1_4 && (a0_5 == a1_5 && (a0_6.toList == a1_6.toList))) = true then ((relayref05_sameTexts.f k l0_8 l1_8).bind fun t113 => (if t113 = true then ((Fn l0_7 l1_7).bind fun t114 => (some t114)) else (some false))) else (some false)) else (some false)) else (some false)) else (some false)) = some r := h
 clear h
 refine (Classical.em (a0_0 = a1_0)).elim (fun c3 => ?p1_) (fun c3 => ?n1_)
 case' p1_ =>
  rw [if_pos c3] at H
  have c3b0 : (a0_0 == a1_0) = true := beq_iff_eq.mpr c3
  have c3b1 : (a0_0 != a1_0) = false := bne_eq_false_iff_eq.mpr c3
  clear c3
  refine (Classical.em (a0_2.toList = a1_2.toList)).elim (fun c4 => ?p2_) (fun c4 => ?n2_)
  case' p2_ =>
   rw [if_pos c4] at H
   have c4b0 : (a0_2.toList == a1_2.toList) = true := beq_iff_eq.mpr c4
   have c4b1 : (a0_2.toList != a1_2.toList) = false := bne_eq_false_iff_eq.mpr c4
   clear c4
   refine (Classical.em (a0_3.toList = a1_3.toList)).elim (fun c5 => ?p3_) (fun c5 => ?n3_)
   case' p3_ =>
    rw [if_pos c5] at H
    have c5b0 : (a0_3.toList == a1_3.toList) = true := beq_iff_eq.mpr c5
    have c5b1 : (a0_3.toList != a1_3.toList) = false := bne_eq_false_iff_eq.mpr c5
    clear c5
    refine (Classical.em ((a0_4 == a1_4 && (a0_5 == a1_5 && (a0_6.toList == a1_6.toList))) = true)).elim (fun c6 => ?p4_) (fun c6 => ?n4_)
    case' p4_ =>
     rw [if_pos c6] at H
     have c6b0 : (a0_4 == a1_4 && (a0_5 == a1_5 && (a0_6.toList == a1_6.toList))) = true := c6
     (try (have c6b1 : decide (a0_4 = a1_4 && (a0_5 == a1_5 && (a0_6.toList == a1_6.toList))) = true := by simpa using c6))
     (try (have c6b2 : (a0_4 == a1_4 && (a0_5 == a1_5 && (a0_6.toList == a1_6.toList))) = true := by simpa using c6))
     clear c6
     replace H := Option.bind_eq_some_iff.mp H
     obtain ⟨t113, A70, H⟩ := H
     replace H : (if t113 = true then ((Fn l0_7 l1_7).bind fun t114 => (some t114)) else (some false)) = some r := H
     have A7 := Aside0.mk A70
     clear A70
     refine (Classical.em (t113 = true)).elim (fun c8 => ?p5_) (fun c8 => ?n5_)
     case' p5_ =>
      subst c8
      have H1 : ((Fn l0_7 l1_7).bind fun t114 => (some t114)) = some r := by rw [if_pos rfl] at H; exact H
      clear H
      have H := H1
      clear H1
      replace H := Option.bind_eq_some_iff.mp H
      obtain ⟨t114, A90, H⟩ := H
      replace H : (some t114) = some r := H
      have A9 := Aside0.mk A90
      clear A90
      obtain rfl := Option.some.inj H
      go_enter Try.func52, Try.ntmps52
     case' n5_ =>
      replace c8 := Bool.eq_false_iff.mpr c8
      subst c8
      have H1 : (some false) = some r := by rw [if_neg (show ¬ (false = true) by decide)] at H; exact H
      clear H
      have H := H1
      clear H1
      obtain rfl := Option.some.inj H
      go_enter Try.func52, Try.ntmps52
    case' n4_ =>
     rw [if_neg c6] at H
     have c6b0 : (a0_4 == a1_4 && (a0_5 == a1_5 && (a0_6.toList == a1_6.toList))) = false := by simpa using c6
     (try (have c6b1 : decide (a0_4 = a1_4 && (a0_5 == a1_5 && (a0_6.toList == a1_6.toList))) = false := by simpa using c6))
     (try (have c6b2 : (a0_4 == a1_4 && (a0_5 == a1_5 && (a0_6.toList == a1_6.toList))) = false := by simpa using c6))
     (try (have c6b3 : ¬ (a0_4 = a1_4 && (a0_5 == a1_5 && (a0_6.toList == a1_6.toList))) := by simpa using c6))
     clear c6
     obtain rfl := Option.some.inj H
     go_enter Try.func52, Try.ntmps52
   case' n3_ =>
    rw [if_neg c5] at H
    have c5b0 : (a0_3.toList == a1_3.toList) = false := beq_eq_false_iff_ne.mpr c5
    have c5b1 : (a0_3.toList != a1_3.toList) = true := bne_iff_ne.mpr c5
    obtain rfl := Option.some.inj H
    go_enter Try.func52, Try.ntmps52
  case' n2_ =>
   rw [if_neg c4] at H
   have c4b0 : (a0_2.toList == a1_2.toList) = false := beq_eq_false_iff_ne.mpr c4
   have c4b1 : (a0_2.toList != a1_2.toList) = true := bne_iff_ne.mpr c4
   obtain rfl := Option.some.inj H
   go_enter Try.func52, Try.ntmps52
 case' n1_ =>
  rw [if_neg c3] at H
  have c3b0 : (a0_0 == a1_0) = false := beq_eq_false_iff_ne.mpr c3
  have c3b1 : (a0_0 != a1_0) = true := bne_iff_ne.mpr c3
  obtain rfl := Option.some.inj H
  go_enter Try.func52, Try.ntmps52
 all_goals go_wp2_with (first | ((with_reducible refine gate_dst (N := 2) rfl ?_); refine box_event ?hg (N := 2) ?hd (cs := #[.int .i64 a0_0, .int .i64 a0_1, .string a0_2, .string a0_3, .int .u8 a0_4, .int .u64 a0_5, .string a0_6, .slice A0_7 l0_7.length c0_7, .slice A0_8 l0_8.length c0_8, .int .u8 a0_9, .int .i64 a0_10, .int .i64 a0_11, .int .i64 a0_12, .int .i64 a0_13]) (t := 65) ?hr ?_; (case hd => rfl); (case hg => rfl); (case hr => first | (go_simp; done) | (go_simp; rfl)); intro gb111 hg w10 hbox hb; have n0_ := Aside0.mk (below_step (by repeat (first | (with_reducible first | exact HB.out | apply below_alloc | apply pw_below_drewN | apply below_drew1) | exact HB.out)) hb); have n1_ := Aside0.mk (hbox); have n2_ := Aside0.mk ((by rw [hg]; exact (below_size (by repeat (first | (with_reducible first | exact HB.out | apply below_alloc | apply pw_below_drewN | apply below_drew1) | exact HB.out))) : w.heap.size ≤ gb111)); have n3_ := Aside0.mk ((by rw [hg]; exact (below_size (by repeat (first | (with_reducible first | exact HB.out | apply below_alloc | apply pw_below_drewN | apply below_drew1) | exact HB.out))) : w.heap.size ≤ gb111)); clear HB; have HB := n0_; have BK111 := n1_; have GW111 := n2_; have GE111 := n3_; clear n0_ n1_ n2_ n3_; clear hb hbox hg) | ((with_reducible refine gate_dst (N := 3) rfl ?_); refine box_event ?hg (N := 3) ?hd (cs := #[.int .i64 a1_0, .int .i64 a1_1, .string a1_2, .string a1_3, .int .u8 a1_4, .int .u64 a1_5, .string a1_6, .slice A1_7 l1_7.length c1_7, .slice A1_8 l1_8.length c1_8, .int .u8 a1_9, .int .i64 a1_10, .int .i64 a1_11, .int .i64 a1_12, .int .i64 a1_13]) (t := 65) ?hr ?_; (case hd => rfl); (case hg => rfl); (case hr => first | (go_simp; done) | (go_simp; rfl)); intro gb112 hg w11 hbox hb; have n0_ := Aside0.mk (blk_below (g := gb111) (by (with_reducible repeat (first | refine blk_drewN ?_ _ | refine blk_drew ?_ | refine blk_alloc ?_ _)); exact BK111.out) hb); have n1_ := Aside0.mk (below_step (by repeat (first | (with_reducible first | exact HB.out | apply below_alloc | apply pw_below_drewN | apply below_drew1 | refine below_set ?_ GE111.out) | exact HB.out)) hb); have n2_ := Aside0.mk (hbox); have n3_ := Aside0.mk ((by rw [hg]; exact (below_size (by repeat (first | (with_reducible first | exact HB.out | apply below_alloc | apply pw_below_drewN | apply below_drew1 | refine below_set ?_ GE111.out) | exact HB.out))) : w.heap.size ≤ gb112)); have n4_ := Aside0.mk ((by rw [hg]; exact (below_size (by repeat (first | (with_reducible first | exact HB.out | apply below_alloc | apply pw_below_drewN | apply below_drew1 | refine below_set ?_ GE111.out) | exact HB.out))) : w.heap.size ≤ gb112)); have n5_ := Aside0.mk ((by rw [hg]; exact Nat.ne_of_lt (blk_lt (g := gb111) (o := .cells #[.int .i64 a0_0, .int .i64 a0_1, .string a0_2, .string a0_3, .int .u8 a0_4, .int .u64 a0_5, .string a0_6, .slice A0_7 l0_7.length c0_7, .slice A0_8 l0_8.length c0_8, .int .u8 a0_9, .int .i64 a0_10, .int .i64 a0_11, .int .i64 a0_12, .int .i64 a0_13] 65 (0, 0)) (by (with_reducible repeat (first | refine blk_drewN ?_ _ | refine blk_drew ?_ | refine blk_alloc ?_ _)); exact BK111.out)) : gb111 ≠ gb112)); have n6_ := Aside0.mk ((by rw [hg]; exact Nat.ne_of_gt (blk_lt (g := gb111) (o := .cells #[.int .i64 a0_0, .int .i64 a0_1, .string a0_2, .string a0_3, .int .u8 a0_4, .int .u64 a0_5, .string a0_6, .slice A0_7 l0_7.length c0_7, .slice A0_8 l0_8.length c0_8, .int .u8 a0_9, .int .i64 a0_10, .int .i64 a0_11, .int .i64 a0_12, .int .i64 a0_13] 65 (0, 0)) (by (with_reducible repeat (first | refine blk_drewN ?_ _ | refine blk_drew ?_ | refine blk_alloc ?_ _)); exact BK111.out)) : gb112 ≠ gb111)); clear BK111; clear HB; have BK111 := n0_; have HB := n1_; have BK112 := n2_; have GW112 := n3_; have GE112 := n4_; have NB111_112 := n5_; have NB112_111 := n6_; clear n0_ n1_ n2_ n3_ n4_ n5_ n6_; clear hb hbox hg; have hnb12 := NB111_112.out; have hnc12 := NB112_111.out; obtain ⟨_, _, _, _, _, _, _, _, _, _, _, _, _, _, _, _, _, _, _, _, _, _, _, _, _, _, _, _⟩ := cells14 BK111.out; obtain ⟨_, _, _, _, _, _, _, _, _, _, _, _, _, _, _, _, _, _, _, _, _, _, _, _, _, _, _, _⟩ := cells14 BK112.out) | (go_at_call 29; (with_reducible refine (relayref05_sameTexts.calls k _ _ l0_8 _ _ l1_8 _ _ ?side1 ?side2 ?side3 ?side4 (by first | exact A7.out)).mono ?_); (case side1 => repeat (first | exact (Kd.C_below HR0_8.out HB.out) | (with_reducible refine Kd.C_alloc ?_ _) | (with_reducible refine Kd.C_drewN ?_ _) | (with_reducible refine Kd.C_drew ?_))); (case side2 => exact HC0_8.out); (case side3 => repeat (first | exact (Kd.C_below HR1_8.out HB.out) | (with_reducible refine Kd.C_alloc ?_ _) | (with_reducible refine Kd.C_drewN ?_ _) | (with_reducible refine Kd.C_drew ?_))); (case side4 => exact HC1_8.out); rintro e w' ⟨rfl, ⟨nd, rfl⟩⟩) | (go_at_call 28; (with_reducible refine (hFn _ _ l0_7 _ _ l1_7 t114 _ ?side1 ?side2 ?side3 ?side4 A9.out).mono ?_); (case side1 => repeat (first | exact (Kd.C_below HR0_7.out (by repeat (first | (with_reducible first | exact HB.out | apply below_alloc | apply pw_below_drewN | apply below_drew1 | refine below_set ?_ GE111.out | refine below_set ?_ GE112.out) | exact HB.out))) | (with_reducible refine Kd.C_alloc ?_ _) | (with_reducible refine Kd.C_drewN ?_ _) | (with_reducible refine Kd.C_drew ?_))); (case side2 => exact HC0_7.out); (case side3 => repeat (first | exact (Kd.C_below HR1_7.out (by repeat (first | (with_reducible first | exact HB.out | apply below_alloc | apply pw_below_drewN | apply below_drew1 | refine below_set ?_ GE111.out | refine below_set ?_ GE112.out) | exact HB.out))) | (with_reducible refine Kd.C_alloc ?_ _) | (with_reducible refine Kd.C_drewN ?_ _) | (with_reducible refine Kd.C_drew ?_))); (case side4 => exact HC1_7.out); rintro e w15 ⟨rfl, hb⟩; have n0_ := Aside0.mk (blk_below (g := gb111) (by (with_reducible repeat (first | refine blk_drewN ?_ _ | refine blk_drew ?_ | refine blk_alloc ?_ _)); exact BK111.out) hb); have n1_ := Aside0.mk (blk_below (g := gb112) (by (with_reducible repeat (first | refine blk_drewN ?_ _ | refine blk_drew ?_ | refine blk_alloc ?_ _)); exact BK112.out) hb); have n2_ := Aside0.mk (below_step (by repeat (first | (with_reducible first | exact HB.out | apply below_alloc | apply pw_below_drewN | apply below_drew1 | refine below_set ?_ GE111.out | refine below_set ?_ GE112.out) | exact HB.out)) hb); clear BK111; clear BK112; clear HB; have BK111 := n0_; have BK112 := n1_; have HB := n2_; clear n0_ n1_ n2_; (try clear hb); (try clear hb2); (try clear hk); (try clear hi)) | ((with_reducible refine gate_dst (N := 3) rfl ?_); refine box_event ?hg (N := 3) ?hd (cs := #[.int .i64 a1_0, .int .i64 a1_1, .string a1_2, .string a1_3, .int .u8 a1_4, .int .u64 a1_5, .string a1_6, .slice A1_7 l1_7.length c1_7, .slice A1_8 l1_8.length c1_8, .int .u8 a1_9, .int .i64 a1_10, .int .i64 a1_11, .int .i64 a1_12, .int .i64 a1_13]) (t := 65) ?hr ?_; (case hd => rfl); (case hg => rfl); (case hr => first | (go_simp; done) | (go_simp; rfl)); intro gb112 hg w17 hbox hb; have n0_ := Aside0.mk (blk_below (g := gb111) (by (with_reducible repeat (first | refine blk_drewN ?_ _ | refine blk_drew ?_ | refine blk_alloc ?_ _)); exact BK111.out) hb); have n1_ := Aside0.mk (below_step (by repeat (first | (with_reducible first | exact HB.out | apply below_alloc | apply pw_below_drewN | apply below_drew1 | refine below_set ?_ GE111.out) | exact HB.out)) hb); have n2_ := Aside0.mk (hbox); have n3_ := Aside0.mk ((by rw [hg]; exact (below_size (by repeat (first | (with_reducible first | exact HB.out | apply below_alloc | apply pw_below_drewN | apply below_drew1 | refine below_set ?_ GE111.out) | exact HB.out))) : w.heap.size ≤ gb112)); have n4_ := Aside0.mk ((by rw [hg]; exact (below_size (by repeat (first | (with_reducible first | exact HB.out | apply below_alloc | apply pw_below_drewN | apply below_drew1 | refine below_set ?_ GE111.out) | exact HB.out))) : w.heap.size ≤ gb112)); have n5_ := Aside0.mk ((by rw [hg]; exact Nat.ne_of_lt (blk_lt (g := gb111) (o := .cells #[.int .i64 a0_0, .int .i64 a0_1, .string a0_2, .string a0_3, .int .u8 a0_4, .int .u64 a0_5, .string a0_6, .slice A0_7 l0_7.length c0_7, .slice A0_8 l0_8.length c0_8, .int .u8 a0_9, .int .i64 a0_10, .int .i64 a0_11, .int .i64 a0_12, .int .i64 a0_13] 65 (0, 0)) (by (with_reducible repeat (first | refine blk_drewN ?_ _ | refine blk_drew ?_ | refine blk_alloc ?_ _)); exact BK111.out)) : gb111 ≠ gb112)); have n6_ := Aside0.mk ((by rw [hg]; exact Nat.ne_of_gt (blk_lt (g := gb111) (o := .cells #[.int .i64 a0_0, .int .i64 a0_1, .string a0_2, .string a0_3, .int .u8 a0_4, .int .u64 a0_5, .string a0_6, .slice A0_7 l0_7.length c0_7, .slice A0_8 l0_8.length c0_8, .int .u8 a0_9, .int .i64 a0_10, .int .i64 a0_11, .int .i64 a0_12, .int .i64 a0_13] 65 (0, 0)) (by (with_reducible repeat (first | refine blk_drewN ?_ _ | refine blk_drew ?_ | refine blk_alloc ?_ _)); exact BK111.out)) : gb112 ≠ gb111)); clear BK111; clear HB; have BK111 := n0_; have HB := n1_; have BK112 := n2_; have GW112 := n3_; have GE112 := n4_; have NB111_112 := n5_; have NB112_111 := n6_; clear n0_ n1_ n2_ n3_ n4_ n5_ n6_; clear hb hbox hg; have hnb18 := NB111_112.out; have hnc18 := NB112_111.out; obtain ⟨_, _, _, _, _, _, _, _, _, _, _, _, _, _, _, _, _, _, _, _, _, _, _, _, _, _, _, _⟩ := cells14 BK111.out; obtain ⟨_, _, _, _, _, _, _, _, _, _, _, _, _, _, _, _, _, _, _, _, _, _, _, _, _, _, _, _⟩ := cells14 BK112.out) | ((with_reducible refine gate_dst (N := 3) rfl ?_); refine box_event ?hg (N := 3) ?hd (cs := #[.int .i64 a1_0, .int .i64 a1_1, .string a1_2, .string a1_3, .int .u8 a1_4, .int .u64 a1_5, .string a1_6, .slice A1_7 l1_7.length c1_7, .slice A1_8 l1_8.length c1_8, .int .u8 a1_9, .int .i64 a1_10, .int .i64 a1_11, .int .i64 a1_12, .int .i64 a1_13]) (t := 65) ?hr ?_; (case hd => rfl); (case hg => rfl); (case hr => first | (go_simp; done) | (go_simp; rfl)); intro gb112 hg w22 hbox hb; have n0_ := Aside0.mk (blk_below (g := gb111) (by (with_reducible repeat (first | refine blk_drewN ?_ _ | refine blk_drew ?_ | refine blk_alloc ?_ _)); exact BK111.out) hb); have n1_ := Aside0.mk (below_step (by repeat (first | (with_reducible first | exact HB.out | apply below_alloc | apply pw_below_drewN | apply below_drew1 | refine below_set ?_ GE111.out) | exact HB.out)) hb); have n2_ := Aside0.mk (hbox); have n3_ := Aside0.mk ((by rw [hg]; exact (below_size (by repeat (first | (with_reducible first | exact HB.out | apply below_alloc | apply pw_below_drewN | apply below_drew1 | refine below_set ?_ GE111.out) | exact HB.out))) : w.heap.size ≤ gb112)); have n4_ := Aside0.mk ((by rw [hg]; exact (below_size (by repeat (first | (with_reducible first | exact HB.out | apply below_alloc | apply pw_below_drewN | apply below_drew1 | refine below_set ?_ GE111.out) | exact HB.out))) : w.heap.size ≤ gb112)); have n5_ := Aside0.mk ((by rw [hg]; exact Nat.ne_of_lt (blk_lt (g := gb111) (o := .cells #[.int .i64 a0_0, .int .i64 a0_1, .string a0_2, .string a0_3, .int .u8 a0_4, .int .u64 a0_5, .string a0_6, .slice A0_7 l0_7.length c0_7, .slice A0_8 l0_8.length c0_8, .int .u8 a0_9, .int .i64 a0_10, .int .i64 a0_11, .int .i64 a0_12, .int .i64 a0_13] 65 (0, 0)) (by (with_reducible repeat (first | refine blk_drewN ?_ _ | refine blk_drew ?_ | refine blk_alloc ?_ _)); exact BK111.out)) : gb111 ≠ gb112)); have n6_ := Aside0.mk ((by rw [hg]; exact Nat.ne_of_gt (blk_lt (g := gb111) (o := .cells #[.int .i64 a0_0, .int .i64 a0_1, .string a0_2, .string a0_3, .int .u8 a0_4, .int .u64 a0_5, .string a0_6, .slice A0_7 l0_7.length c0_7, .slice A0_8 l0_8.length c0_8, .int .u8 a0_9, .int .i64 a0_10, .int .i64 a0_11, .int .i64 a0_12, .int .i64 a0_13] 65 (0, 0)) (by (with_reducible repeat (first | refine blk_drewN ?_ _ | refine blk_drew ?_ | refine blk_alloc ?_ _)); exact BK111.out)) : gb112 ≠ gb111)); clear BK111; clear HB; have BK111 := n0_; have HB := n1_; have BK112 := n2_; have GW112 := n3_; have GE112 := n4_; have NB111_112 := n5_; have NB112_111 := n6_; clear n0_ n1_ n2_ n3_ n4_ n5_ n6_; clear hb hbox hg; have hnb23 := NB111_112.out; have hnc23 := NB112_111.out; obtain ⟨_, _, _, _, _, _, _, _, _, _, _, _, _, _, _, _, _, _, _, _, _, _, _, _, _, _, _, _⟩ := cells14 BK111.out; obtain ⟨_, _, _, _, _, _, _, _, _, _, _, _, _, _, _, _, _, _, _, _, _, _, _, _, _, _, _, _⟩ := cells14 BK112.out) | ((with_reducible refine gate_dst (N := 3) rfl ?_); refine box_event ?hg (N := 3) ?hd (cs := #[.int .i64 a1_0, .int .i64 a1_1, .string a1_2, .string a1_3, .int .u8 a1_4, .int .u64 a1_5, .string a1_6, .slice A1_7 l1_7.length c1_7, .slice A1_8 l1_8.length c1_8, .int .u8 a1_9, .int .i64 a1_10, .int .i64 a1_11, .int .i64 a1_12, .int .i64 a1_13]) (t := 65) ?hr ?_; (case hd => rfl); (case hg => rfl); (case hr => first | (go_simp; done) | (go_simp; rfl)); intro gb112 hg w27 hbox hb; have n0_ := Aside0.mk (blk_below (g := gb111) (by (with_reducible repeat (first | refine blk_drewN ?_ _ | refine blk_drew ?_ | refine blk_alloc ?_ _)); exact BK111.out) hb); have n1_ := Aside0.mk (below_step (by repeat (first | (with_reducible first | exact HB.out | apply below_alloc | apply pw_below_drewN | apply below_drew1 | refine below_set ?_ GE111.out) | exact HB.out)) hb); have n2_ := Aside0.mk (hbox); have n3_ := Aside0.mk ((by rw [hg]; exact (below_size (by repeat (first | (with_reducible first | exact HB.out | apply below_alloc | apply pw_below_drewN | apply below_drew1 | refine below_set ?_ GE111.out) | exact HB.out))) : w.heap.size ≤ gb112)); have n4_ := Aside0.mk ((by rw [hg]; exact (below_size (by repeat (first | (with_reducible first | exact HB.out | apply below_alloc | apply pw_below_drewN | apply below_drew1 | refine below_set ?_ GE111.out) | exact HB.out))) : w.heap.size ≤ gb112)); have n5_ := Aside0.mk ((by rw [hg]; exact Nat.ne_of_lt (blk_lt (g := gb111) (o := .cells #[.int .i64 a0_0, .int .i64 a0_1, .string a0_2, .string a0_3, .int .u8 a0_4, .int .u64 a0_5, .string a0_6, .slice A0_7 l0_7.length c0_7, .slice A0_8 l0_8.length c0_8, .int .u8 a0_9, .int .i64 a0_10, .int .i64 a0_11, .int .i64 a0_12, .int .i64 a0_13] 65 (0, 0)) (by (with_reducible repeat (first | refine blk_drewN ?_ _ | refine blk_drew ?_ | refine blk_alloc ?_ _)); exact BK111.out)) : gb111 ≠ gb112)); have n6_ := Aside0.mk ((by rw [hg]; exact Nat.ne_of_gt (blk_lt (g := gb111) (o := .cells #[.int .i64 a0_0, .int .i64 a0_1, .string a0_2, .string a0_3, .int .u8 a0_4, .int .u64 a0_5, .string a0_6, .slice A0_7 l0_7.length c0_7, .slice A0_8 l0_8.length c0_8, .int .u8 a0_9, .int .i64 a0_10, .int .i64 a0_11, .int .i64 a0_12, .int .i64 a0_13] 65 (0, 0)) (by (with_reducible repeat (first | refine blk_drewN ?_ _ | refine blk_drew ?_ | refine blk_alloc ?_ _)); exact BK111.out)) : gb112 ≠ gb111)); clear BK111; clear HB; have BK111 := n0_; have HB := n1_; have BK112 := n2_; have GW112 := n3_; have GE112 := n4_; have NB111_112 := n5_; have NB112_111 := n6_; clear n0_ n1_ n2_ n3_ n4_ n5_ n6_; clear hb hbox hg; have hnb28 := NB111_112.out; have hnc28 := NB112_111.out; obtain ⟨_, _, _, _, _, _, _, _, _, _, _, _, _, _, _, _, _, _, _, _, _, _, _, _, _, _, _, _⟩ := cells14 BK111.out; obtain ⟨_, _, _, _, _, _, _, _, _, _, _, _, _, _, _, _, _, _, _, _, _, _, _, _, _, _, _, _⟩ := cells14 BK112.out) | ((with_reducible refine gate_dst (N := 3) rfl ?_); refine box_event ?hg (N := 3) ?hd (cs := #[.int .i64 a1_0, .int .i64 a1_1, .string a1_2, .string a1_3, .int .u8 a1_4, .int .u64 a1_5, .string a1_6, .slice A1_7 l1_7.length c1_7, .slice A1_8 l1_8.length c1_8, .int .u8 a1_9, .int .i64 a1_10, .int .i64 a1_11, .int .i64 a1_12, .int .i64 a1_13]) (t := 65) ?hr ?_; (case hd => rfl); (case hg => rfl); (case hr => first | (go_simp; done) | (go_simp; rfl)); intro gb112 hg w32 hbox hb; have n0_ := Aside0.mk (blk_below (g := gb111) (by (with_reducible repeat (first | refine blk_drewN ?_ _ | refine blk_drew ?_ | refine blk_alloc ?_ _)); exact BK111.out) hb); have n1_ := Aside0.mk (below_step (by repeat (first | (with_reducible first | exact HB.out | apply below_alloc | apply pw_below_drewN | apply below_drew1 | refine below_set ?_ GE111.out) | exact HB.out)) hb); have n2_ := Aside0.mk (hbox); have n3_ := Aside0.mk ((by rw [hg]; exact (below_size (by repeat (first | (with_reducible first | exact HB.out | apply below_alloc | apply pw_below_drewN | apply below_drew1 | refine below_set ?_ GE111.out) | exact HB.out))) : w.heap.size ≤ gb112)); have n4_ := Aside0.mk ((by rw [hg]; exact (below_size (by repeat (first | (with_reducible first | exact HB.out | apply below_alloc | apply pw_below_drewN | apply below_drew1 | refine below_set ?_ GE111.out) | exact HB.out))) : w.heap.size ≤ gb112)); have n5_ := Aside0.mk ((by rw [hg]; exact Nat.ne_of_lt (blk_lt (g := gb111) (o := .cells #[.int .i64 a0_0, .int .i64 a0_1, .string a0_2, .string a0_3, .int .u8 a0_4, .int .u64 a0_5, .string a0_6, .slice A0_7 l0_7.length c0_7, .slice A0_8 l0_8.length c0_8, .int .u8 a0_9, .int .i64 a0_10, .int .i64 a0_11, .int .i64 a0_12, .int .i64 a0_13] 65 (0, 0)) (by (with_reducible repeat (first | refine blk_drewN ?_ _ | refine blk_drew ?_ | refine blk_alloc ?_ _)); exact BK111.out)) : gb111 ≠ gb112)); have n6_ := Aside0.mk ((by rw [hg]; exact Nat.ne_of_gt (blk_lt (g := gb111) (o := .cells #[.int .i64 a0_0, .int .i64 a0_1, .string a0_2, .string a0_3, .int .u8 a0_4, .int .u64 a0_5, .string a0_6, .slice A0_7 l0_7.length c0_7, .slice A0_8 l0_8.length c0_8, .int .u8 a0_9, .int .i64 a0_10, .int .i64 a0_11, .int .i64 a0_12, .int .i64 a0_13] 65 (0, 0)) (by (with_reducible repeat (first | refine blk_drewN ?_ _ | refine blk_drew ?_ | refine blk_alloc ?_ _)); exact BK111.out)) : gb112 ≠ gb111)); clear BK111; clear HB; have BK111 := n0_; have HB := n1_; have BK112 := n2_; have GW112 := n3_; have GE112 := n4_; have NB111_112 := n5_; have NB112_111 := n6_; clear n0_ n1_ n2_ n3_ n4_ n5_ n6_; clear hb hbox hg; have hnb33 := NB111_112.out; have hnc33 := NB112_111.out; obtain ⟨_, _, _, _, _, _, _, _, _, _, _, _, _, _, _, _, _, _, _, _, _, _, _, _, _, _, _, _⟩ := cells14 BK111.out; obtain ⟨_, _, _, _, _, _, _, _, _, _, _, _, _, _, _, _, _, _, _, _, _, _, _, _, _, _, _, _⟩ := cells14 BK112.out) | ((with_reducible refine gate_dst (N := 3) rfl ?_); refine box_event ?hg (N := 3) ?hd (cs := #[.int .i64 a1_0, .int .i64 a1_1, .string a1_2, .string a1_3, .int .u8 a1_4, .int .u64 a1_5, .string a1_6, .slice A1_7 l1_7.length c1_7, .slice A1_8 l1_8.length c1_8, .int .u8 a1_9, .int .i64 a1_10, .int .i64 a1_11, .int .i64 a1_12, .int .i64 a1_13]) (t := 65) ?hr ?_; (case hd => rfl); (case hg => rfl); (case hr => first | (go_simp; done) | (go_simp; rfl)); intro gb112 hg w37 hbox hb; have n0_ := Aside0.mk (blk_below (g := gb111) (by (with_reducible repeat (first | refine blk_drewN ?_ _ | refine blk_drew ?_ | refine blk_alloc ?_ _)); exact BK111.out) hb); have n1_ := Aside0.mk (below_step (by repeat (first | (with_reducible first | exact HB.out | apply below_alloc | apply pw_below_drewN | apply below_drew1 | refine below_set ?_ GE111.out) | exact HB.out)) hb); have n2_ := Aside0.mk (hbox); have n3_ := Aside0.mk ((by rw [hg]; exact (below_size (by repeat (first | (with_reducible first | exact HB.out | apply below_alloc | apply pw_below_drewN | apply below_drew1 | refine below_set ?_ GE111.out) | exact HB.out))) : w.heap.size ≤ gb112)); have n4_ := Aside0.mk ((by rw [hg]; exact (below_size (by repeat (first | (with_reducible first | exact HB.out | apply below_alloc | apply pw_below_drewN | apply below_drew1 | refine below_set ?_ GE111.out) | exact HB.out))) : w.heap.size ≤ gb112)); have n5_ := Aside0.mk ((by rw [hg]; exact Nat.ne_of_lt (blk_lt (g := gb111) (o := .cells #[.int .i64 a0_0, .int .i64 a0_1, .string a0_2, .string a0_3, .int .u8 a0_4, .int .u64 a0_5, .string a0_6, .slice A0_7 l0_7.length c0_7, .slice A0_8 l0_8.length c0_8, .int .u8 a0_9, .int .i64 a0_10, .int .i64 a0_11, .int .i64 a0_12, .int .i64 a0_13] 65 (0, 0)) (by (with_reducible repeat (first | refine blk_drewN ?_ _ | refine blk_drew ?_ | refine blk_alloc ?_ _)); exact BK111.out)) : gb111 ≠ gb112)); have n6_ := Aside0.mk ((by rw [hg]; exact Nat.ne_of_gt (blk_lt (g := gb111) (o := .cells #[.int .i64 a0_0, .int .i64 a0_1, .string a0_2, .string a0_3, .int .u8 a0_4, .int .u64 a0_5, .string a0_6, .slice A0_7 l0_7.length c0_7, .slice A0_8 l0_8.length c0_8, .int .u8 a0_9, .int .i64 a0_10, .int .i64 a0_11, .int .i64 a0_12, .int .i64 a0_13] 65 (0, 0)) (by (with_reducible repeat (first | refine blk_drewN ?_ _ | refine blk_drew ?_ | refine blk_alloc ?_ _)); exact BK111.out)) : gb112 ≠ gb111)); clear BK111; clear HB; have BK111 := n0_; have HB := n1_; have BK112 := n2_; have GW112 := n3_; have GE112 := n4_; have NB111_112 := n5_; have NB112_111 := n6_; clear n0_ n1_ n2_ n3_ n4_ n5_ n6_; clear hb hbox hg; have hnb38 := NB111_112.out; have hnc38 := NB112_111.out; obtain ⟨_, _, _, _, _, _, _, _, _, _, _, _, _, _, _, _, _, _, _, _, _, _, _, _, _, _, _, _⟩ := cells14 BK111.out; obtain ⟨_, _, _, _, _, _, _, _, _, _, _, _, _, _, _, _, _, _, _, _, _, _, _, _, _, _, _, _⟩ := cells14 BK112.out))
 all_goals first
  | (go_ret
     exact ⟨by first | rfl | (simp [errW_none, errW_some] <;> rfl) | (simp [*, errW_none, errW_some] <;> rfl), by repeat (first | (with_reducible first | exact HB.out | apply below_alloc | apply pw_below_drewN | apply below_drew1 | refine below_set ?_ GE111.out | refine below_set ?_ GE112.out) | exact HB.out)⟩)
/-! #### relayref05_sameExprs, over relayref05_SameExpr -/
def relayref05_sameExprs.l0Of (Fn : Int → Int → ByteArray → ByteArray → Int → Int → ByteArray → List (S65) → List ByteArray → Int → Int → Int → Int → Int → Int → Int → ByteArray → ByteArray → Int → Int → ByteArray → List (S65) → List ByteArray → Int → Int → Int → Int → Int → Option (Bool)) : Nat → List (S65) → List (S65) → Int → Int → Option (Bool)
 | 0, _, _, _, _ => none
 | k + 1, x0, x1, x12, x13 => if x13 < x12 then (if 0 ≤ x13 then (if x13 < (x0.length : Int) then (if x13 < (x1.length : Int) then ((Fn ((rd_T65 x0 x13).f0) ((rd_T65 x0 x13).f1) ((rd_T65 x0 x13).f2) ((rd_T65 x0 x13).f3) ((rd_T65 x0 x13).f4.f0) ((rd_T65 x0 x13).f4.f1) ((rd_T65 x0 x13).f4.f2) ((rd_T65 x0 x13).f5) ((rd_T65 x0 x13).f6) ((rd_T65 x0 x13).f7) ((rd_T65 x0 x13).f8) ((rd_T65 x0 x13).f9) ((rd_T65 x0 x13).f10) ((rd_T65 x0 x13).f11) ((rd_T65 x1 x13).f0) ((rd_T65 x1 x13).f1) ((rd_T65 x1 x13).f2) ((rd_T65 x1 x13).f3) ((rd_T65 x1 x13).f4.f0) ((rd_T65 x1 x13).f4.f1) ((rd_T65 x1 x13).f4.f2) ((rd_T65 x1 x13).f5) ((rd_T65 x1 x13).f6) ((rd_T65 x1 x13).f7) ((rd_T65 x1 x13).f8) ((rd_T65 x1 x13).f9) ((rd_T65 x1 x13).f10) ((rd_T65 x1 x13).f11)).bind fun t126 => (if t126 = true then (relayref05_sameExprs.l0Of Fn k x0 x1 x12 (wrap64 (x13 + 1))) else (some false))) else (none)) else (none)) else (none)) else (some true)
def relayref05_sameExprs.fOf (Fn : Int → Int → ByteArray → ByteArray → Int → Int → ByteArray → List (S65) → List ByteArray → Int → Int → Int → Int → Int → Int → Int → ByteArray → ByteArray → Int → Int → ByteArray → List (S65) → List ByteArray → Int → Int → Int → Int → Int → Option (Bool)) (k : Nat) (l0 : List (S65)) (l1 : List (S65)) : Option (Bool) := if (l0.length : Int) = (l1.length : Int) then (relayref05_sameExprs.l0Of Fn k l0 l1 (l0.length : Int) 0) else (some false)

theorem relayref05_sameExprs.mono_lOf (Fn Fn' : Int → Int → ByteArray → ByteArray → Int → Int → ByteArray → List (S65) → List ByteArray → Int → Int → Int → Int → Int → Int → Int → ByteArray → ByteArray → Int → Int → ByteArray → List (S65) → List ByteArray → Int → Int → Int → Int → Int → Option (Bool)) (hle_ : ∀ z0 z1 z2 z3 z4 z5 z6 z7 z8 z9 z10 z11 z12 z13 z14 z15 z16 z17 z18 z19 z20 z21 z22 z23 z24 z25 z26 z27, LeO (Fn z0 z1 z2 z3 z4 z5 z6 z7 z8 z9 z10 z11 z12 z13 z14 z15 z16 z17 z18 z19 z20 z21 z22 z23 z24 z25 z26 z27) (Fn' z0 z1 z2 z3 z4 z5 z6 z7 z8 z9 z10 z11 z12 z13 z14 z15 z16 z17 z18 z19 z20 z21 z22 z23 z24 z25 z26 z27)) : ∀ k, (∀ y0 y1 y2 y3, LeO (relayref05_sameExprs.l0Of Fn k y0 y1 y2 y3) (relayref05_sameExprs.l0Of Fn' (k + 1) y0 y1 y2 y3))
 | 0 => fun _ _ _ _ r h => by simp [relayref05_sameExprs.l0Of] at h
 | k + 1 => by
  have ih0 := relayref05_sameExprs.mono_lOf Fn Fn' hle_ k
  · intro y0 y1 y2 y3
    unfold relayref05_sameExprs.l0Of
    repeat' first
    | (with_reducible exact ih0 _ _ _ _)
    | (with_reducible exact hle_ _ _ _ _ _ _ _ _ _ _ _ _ _ _ _ _ _ _ _ _ _ _ _ _ _ _ _ _)
    | (with_reducible exact LeO.refl _)
    | (with_reducible exact LeO.none _)
    | (with_reducible refine LeO.ite ?_ ?_)
    | (with_reducible refine LeO.bind ?_ (fun _ => ?_))
    | exact ih0 _ _ _ _
    | exact hle_ _ _ _ _ _ _ _ _ _ _ _ _ _ _ _ _ _ _ _ _ _ _ _ _ _ _ _ _
    | exact LeO.none _
    | refine LeO.ite ?_ ?_
    | refine LeO.bind ?_ (fun _ => ?_)
theorem relayref05_sameExprs.monoOf (Fn Fn' : Int → Int → ByteArray → ByteArray → Int → Int → ByteArray → List (S65) → List ByteArray → Int → Int → Int → Int → Int → Int → Int → ByteArray → ByteArray → Int → Int → ByteArray → List (S65) → List ByteArray → Int → Int → Int → Int → Int → Option (Bool)) (hle_ : ∀ z0 z1 z2 z3 z4 z5 z6 z7 z8 z9 z10 z11 z12 z13 z14 z15 z16 z17 z18 z19 z20 z21 z22 z23 z24 z25 z26 z27, LeO (Fn z0 z1 z2 z3 z4 z5 z6 z7 z8 z9 z10 z11 z12 z13 z14 z15 z16 z17 z18 z19 z20 z21 z22 z23 z24 z25 z26 z27) (Fn' z0 z1 z2 z3 z4 z5 z6 z7 z8 z9 z10 z11 z12 z13 z14 z15 z16 z17 z18 z19 z20 z21 z22 z23 z24 z25 z26 z27)) : ∀ a0 a1 k, LeO (relayref05_sameExprs.fOf Fn k a0 a1) (relayref05_sameExprs.fOf Fn' (k + 1) a0 a1) := by
 intro a0 a1 k
 have ih0 := relayref05_sameExprs.mono_lOf Fn Fn' hle_ k
 unfold relayref05_sameExprs.fOf
 repeat' first
  | (with_reducible exact ih0 _ _ _ _)
  | (with_reducible exact hle_ _ _ _ _ _ _ _ _ _ _ _ _ _ _ _ _ _ _ _ _ _ _ _ _ _ _ _ _)
  | (with_reducible exact LeO.refl _)
  | (with_reducible exact LeO.none _)
  | (with_reducible refine LeO.ite ?_ ?_)
  | (with_reducible refine LeO.bind ?_ (fun _ => ?_))
  | exact ih0 _ _ _ _
  | exact hle_ _ _ _ _ _ _ _ _ _ _ _ _ _ _ _ _ _ _ _ _ _ _ _ _ _ _ _ _
  | exact LeO.none _
  | refine LeO.ite ?_ ?_
  | refine LeO.bind ?_ (fun _ => ?_)
def relayref05_sameExprs.T6 : Bool × List (List Nat × List Nat) := (true, [([], []), ([], []), ([0, 1], [0, 1]), ([2], [2]), ([], []), ([], []), ([4, 5], [4, 5]), ([6], [6]), ([3, 7], [3, 7]), ([8], [8])])
def relayref05_sameExprs.B6 : List Nat := [0, 0, 3, 7, 0, 0, 48, 112, 255, 511]
theorem relayref05_sameExprs.tab6 : rtab .any (opsOf Try.f28 6) = relayref05_sameExprs.T6 := by kernel_rfl
theorem relayref05_sameExprs.bits6 : waitsOk relayref05_sameExprs.T6.2 relayref05_sameExprs.B6 = true := by kernel_rfl

set_option maxHeartbeats 8000000 in
set_option maxRecDepth 100000 in
theorem relayref05_sameExprs.callsOf (Fn : Int → Int → ByteArray → ByteArray → Int → Int → ByteArray → List (S65) → List ByteArray → Int → Int → Int → Int → Int → Int → Int → ByteArray → ByteArray → Int → Int → ByteArray → List (S65) → List ByteArray → Int → Int → Int → Int → Int → Option (Bool)) (hFn : ∀ (a0_0 : Int) (a0_1 : Int) (a0_2 : ByteArray) (a0_3 : ByteArray) (a0_4 : Int) (a0_5 : Int) (a0_6 : ByteArray) (A0_7 : Option Addr) (c0_7 : Nat) (l0_7 : List (S65)) (A0_8 : Option Addr) (c0_8 : Nat) (l0_8 : List ByteArray) (a0_9 : Int) (a0_10 : Int) (a0_11 : Int) (a0_12 : Int) (a0_13 : Int) (a1_0 : Int) (a1_1 : Int) (a1_2 : ByteArray) (a1_3 : ByteArray) (a1_4 : Int) (a1_5 : Int) (a1_6 : ByteArray) (A1_7 : Option Addr) (c1_7 : Nat) (l1_7 : List (S65)) (A1_8 : Option Addr) (c1_8 : Nat) (l1_8 : List ByteArray) (a1_9 : Int) (a1_10 : Int) (a1_11 : Int) (a1_12 : Int) (a1_13 : Int) (r : Bool) (w : World) (hr0_7 : Kd.C k65 w A0_7 l0_7.length l0_7) (hc0_7 : l0_7.length ≤ c0_7) (hr0_8 : Kd.C Kd.string w A0_8 l0_8.length l0_8) (hc0_8 : l0_8.length ≤ c0_8) (hr1_7 : Kd.C k65 w A1_7 l1_7.length l1_7) (hc1_7 : l1_7.length ≤ c1_7) (hr1_8 : Kd.C Kd.string w A1_8 l1_8.length l1_8) (hc1_8 : l1_8.length ≤ c1_8) (h : Fn a0_0 a0_1 a0_2 a0_3 a0_4 a0_5 a0_6 l0_7 l0_8 a0_9 a0_10 a0_11 a0_12 a0_13 a1_0 a1_1 a1_2 a1_3 a1_4 a1_5 a1_6 l1_7 l1_8 a1_9 a1_10 a1_11 a1_12 a1_13 = some r), Calls Try.prog 52 #[.agg #[.int .i64 a0_0, .int .i64 a0_1, .string a0_2, .string a0_3, .int .u8 a0_4, .int .u64 a0_5, .string a0_6, .slice A0_7 l0_7.length c0_7, .slice A0_8 l0_8.length c0_8, .int .u8 a0_9, .int .i64 a0_10, .int .i64 a0_11, .int .i64 a0_12, .int .i64 a0_13], .agg #[.int .i64 a1_0, .int .i64 a1_1, .string a1_2, .string a1_3, .int .u8 a1_4, .int .u64 a1_5, .string a1_6, .slice A1_7 l1_7.length c1_7, .slice A1_8 l1_8.length c1_8, .int .u8 a1_9, .int .i64 a1_10, .int .i64 a1_11, .int .i64 a1_12, .int .i64 a1_13]] w fun e w' => e = .returned (.bool r) ∧ Below w.heap.size w w') (k : Nat) (A0 : Option Addr) (c0 : Nat) (l0 : List (S65)) (A1 : Option Addr) (c1 : Nat) (l1 : List (S65)) (r : Bool) (w : World) (hr0 : Kd.C k65 w A0 l0.length l0) (hc0 : l0.length ≤ c0) (hr1 : Kd.C k65 w A1 l1.length l1) (hc1 : l1.length ≤ c1) (h : relayref05_sameExprs.fOf Fn k l0 l1 = some r) :
 Calls Try.prog 28 #[.slice A0 l0.length c0, .slice A1 l1.length c1] w fun e w' => e = .returned (.bool r) ∧ Below w.heap.size w w' := by
 have hu65 := Try.underlying65
 have HR0 := Aside0.mk hr0
 have HC0 := Aside0.mk hc0
 clear hr0 hc0
 have HR1 := Aside0.mk hr1
 have HC1 := Aside0.mk hc1
 clear hr1 hc1
 have HB := Aside0.mk (Below.refl w.heap.size w)
 have H : (if (l0.length : Int) = (l1.length : Int) then (relayref05_sameExprs.l0Of Fn k l0 l1 (l0.length : Int) 0) else (some false)) = some r := h
 clear h
 by_cases c3 : (l0.length : Int) = (l1.length : Int)
 · rw [if_pos c3] at H
   have c3b0 : ((l0.length : Int) == (l1.length : Int)) = true := beq_iff_eq.mpr c3
   have c3b1 : ((l0.length : Int) != (l1.length : Int)) = false := bne_eq_false_iff_eq.mpr c3
   have c3b2 : (l0.length == l1.length) = true := by first | simpa using c3 | (simp at c3 ⊢; omega)
   clear c3
   have H' := Aside0.mk H
   clear H
   go_enter Try.func28, Try.ntmps28
   go_wp2
   go_loopg [13] k (fun kq v13 w' => ∃ (x13_1 : Int), v13 = .int .i64 x13_1 ∧ Aside0 (relayref05_sameExprs.l0Of Fn kq l0 l1 (l0.length : Int) x13_1 = some r) ∧ Aside0 (kq ≤ k) ∧ Aside0 (Below w.heap.size w w'))
   case atStart => exact ⟨(0), (by first | rfl | (simp; done) | (simp [*]; done) | (simp [*, bne]; done)), H', ⟨Nat.le_refl _⟩, ⟨by repeat (first | (with_reducible first | exact HB.out | apply below_alloc | apply pw_below_drewN | apply below_drew1) | exact HB.out)⟩⟩
   case round =>
    clear H'
    try clear c1
    try clear c2
    try clear p2
    try clear c3
    try clear c3b0
    try clear c3b1
    try clear c3b2
    obtain ⟨x13_1, rfl, HA, HK1, HB⟩ := hrel
    cases gk with
    | zero => exact absurd HA.out (by simp [relayref05_sameExprs.l0Of])
    | succ k1 =>
     have H := HA.out
     clear HA
     simp only [relayref05_sameExprs.l0Of] at H
     by_cases c4 : x13_1 < (l0.length : Int)
     · rw [if_pos c4] at H
       have c4b0 : decide (x13_1 < (l0.length : Int)) = true := decide_eq_true c4
       clear c4
       by_cases c5 : 0 ≤ x13_1
       · rw [if_pos c5] at H
         have c5b0 : decide (0 ≤ x13_1) = true := decide_eq_true c5
         clear c5
         by_cases c6 : x13_1 < (l0.length : Int)
         · rw [if_pos c6] at H
           have c6b0 : decide (x13_1 < (l0.length : Int)) = true := decide_eq_true c6
           clear c6
           by_cases c7 : x13_1 < (l1.length : Int)
           · rw [if_pos c7] at H
             have c7b0 : decide (x13_1 < (l1.length : Int)) = true := decide_eq_true c7
             clear c7
             replace H := Option.bind_eq_some_iff.mp H
             obtain ⟨t126, A80, H⟩ := H
             replace H : (if t126 = true then (relayref05_sameExprs.l0Of Fn k1 l0 l1 (l0.length : Int) (wrap64 (x13_1 + 1))) else (some false)) = some r := H
             have A8 := Aside0.mk A80
             clear A80
             by_cases c9 : t126 = true
             · subst c9
               have H1 : (relayref05_sameExprs.l0Of Fn k1 l0 l1 (l0.length : Int) (wrap64 (x13_1 + 1))) = some r := by rw [if_pos rfl] at H; exact H
               clear H
               have H := H1
               clear H1
               have H' := Aside0.mk H
               clear H
               try go_wp2
               have n0_ := Aside0.mk (below_drew1 HB.out)
               clear HB
               have HB := n0_
               clear n0_
               have p124 : 0 ≤ (x13_1 : Int) := of_decide_eq_true (by first | (with_reducible assumption) | assumption)
               have q124 : x13_1 < (l0.length : Int) := of_decide_eq_true (by first | (with_reducible assumption) | assumption)
               obtain ⟨ad124, A124_7, c124_7, A124_8, c124_8, e124, hx124_0, hx124_1, hx124_2, hx124_3, hx124_4, hx124_5, hx124_6, hx124_7, hx124_8, hx124_9, hx124_10, hx124_11, hx124_12, hx124_13, hl124_7, hi124_7, hl124_8, hi124_8⟩ := at_T65 HR0.out x13_1 p124 q124
               have hw124_13 := hx124_13
               have hw124_12 := hx124_12
               have hw124_11 := hx124_11
               have hw124_10 := hx124_10
               have hw124_9 := hx124_9
               have hw124_8 := hx124_8
               have hw124_7 := hx124_7
               have hw124_6 := hx124_6
               have hw124_5 := hx124_5
               have hw124_4 := hx124_4
               have hw124_3 := hx124_3
               have hw124_2 := hx124_2
               have hw124_1 := hx124_1
               have hw124_0 := hx124_0
               cases e124
               replace hx124_0 := (HB.out.cell (World.block_lt_of_cell? w _ hx124_0)).trans hx124_0
               replace hx124_1 := (HB.out.cell (World.block_lt_of_cell? w _ hx124_1)).trans hx124_1
               replace hx124_2 := (HB.out.cell (World.block_lt_of_cell? w _ hx124_2)).trans hx124_2
               replace hx124_3 := (HB.out.cell (World.block_lt_of_cell? w _ hx124_3)).trans hx124_3
               replace hx124_4 := (HB.out.cell (World.block_lt_of_cell? w _ hx124_4)).trans hx124_4
               replace hx124_5 := (HB.out.cell (World.block_lt_of_cell? w _ hx124_5)).trans hx124_5
               replace hx124_6 := (HB.out.cell (World.block_lt_of_cell? w _ hx124_6)).trans hx124_6
               replace hx124_7 := (HB.out.cell (World.block_lt_of_cell? w _ hx124_7)).trans hx124_7
               replace hx124_8 := (HB.out.cell (World.block_lt_of_cell? w _ hx124_8)).trans hx124_8
               replace hx124_9 := (HB.out.cell (World.block_lt_of_cell? w _ hx124_9)).trans hx124_9
               replace hx124_10 := (HB.out.cell (World.block_lt_of_cell? w _ hx124_10)).trans hx124_10
               replace hx124_11 := (HB.out.cell (World.block_lt_of_cell? w _ hx124_11)).trans hx124_11
               replace hx124_12 := (HB.out.cell (World.block_lt_of_cell? w _ hx124_12)).trans hx124_12
               replace hx124_13 := (HB.out.cell (World.block_lt_of_cell? w _ hx124_13)).trans hx124_13
               have HR124_7 := Aside0.mk hi124_7
               have HC124_7 := Aside0.mk hl124_7
               clear hi124_7 hl124_7
               have HR124_8 := Aside0.mk hi124_8
               have HC124_8 := Aside0.mk hl124_8
               clear hi124_8 hl124_8
               replace p124 := eq_true p124
               replace q124 := eq_true q124
               have p125 : 0 ≤ (x13_1 : Int) := of_decide_eq_true (by first | (with_reducible assumption) | assumption)
               have q125 : x13_1 < (l1.length : Int) := of_decide_eq_true (by first | (with_reducible assumption) | assumption)
               obtain ⟨ad125, A125_7, c125_7, A125_8, c125_8, e125, hx125_0, hx125_1, hx125_2, hx125_3, hx125_4, hx125_5, hx125_6, hx125_7, hx125_8, hx125_9, hx125_10, hx125_11, hx125_12, hx125_13, hl125_7, hi125_7, hl125_8, hi125_8⟩ := at_T65 HR1.out x13_1 p125 q125
               have hw125_13 := hx125_13
               have hw125_12 := hx125_12
               have hw125_11 := hx125_11
               have hw125_10 := hx125_10
               have hw125_9 := hx125_9
               have hw125_8 := hx125_8
               have hw125_7 := hx125_7
               have hw125_6 := hx125_6
               have hw125_5 := hx125_5
               have hw125_4 := hx125_4
               have hw125_3 := hx125_3
               have hw125_2 := hx125_2
               have hw125_1 := hx125_1
               have hw125_0 := hx125_0
               cases e125
               replace hx125_0 := (HB.out.cell (World.block_lt_of_cell? w _ hx125_0)).trans hx125_0
               replace hx125_1 := (HB.out.cell (World.block_lt_of_cell? w _ hx125_1)).trans hx125_1
               replace hx125_2 := (HB.out.cell (World.block_lt_of_cell? w _ hx125_2)).trans hx125_2
               replace hx125_3 := (HB.out.cell (World.block_lt_of_cell? w _ hx125_3)).trans hx125_3
               replace hx125_4 := (HB.out.cell (World.block_lt_of_cell? w _ hx125_4)).trans hx125_4
               replace hx125_5 := (HB.out.cell (World.block_lt_of_cell? w _ hx125_5)).trans hx125_5
               replace hx125_6 := (HB.out.cell (World.block_lt_of_cell? w _ hx125_6)).trans hx125_6
               replace hx125_7 := (HB.out.cell (World.block_lt_of_cell? w _ hx125_7)).trans hx125_7
               replace hx125_8 := (HB.out.cell (World.block_lt_of_cell? w _ hx125_8)).trans hx125_8
               replace hx125_9 := (HB.out.cell (World.block_lt_of_cell? w _ hx125_9)).trans hx125_9
               replace hx125_10 := (HB.out.cell (World.block_lt_of_cell? w _ hx125_10)).trans hx125_10
               replace hx125_11 := (HB.out.cell (World.block_lt_of_cell? w _ hx125_11)).trans hx125_11
               replace hx125_12 := (HB.out.cell (World.block_lt_of_cell? w _ hx125_12)).trans hx125_12
               replace hx125_13 := (HB.out.cell (World.block_lt_of_cell? w _ hx125_13)).trans hx125_13
               have HR125_7 := Aside0.mk hi125_7
               have HC125_7 := Aside0.mk hl125_7
               clear hi125_7 hl125_7
               have HR125_8 := Aside0.mk hi125_8
               have HC125_8 := Aside0.mk hl125_8
               clear hi125_8 hl125_8
               replace p125 := eq_true p125
               replace q125 := eq_true q125
               refine start_ (n := 10) (S := fun w' => w'.cell? (ad124.add ((x13_1).toNat * 14)) = some (.int .i64 ((rd_T65 l0 x13_1).f0)) ∧ w'.cell? ⟨(ad124.add ((x13_1).toNat * 14)).block, (ad124.add ((x13_1).toNat * 14)).off + 1, none⟩ = some (.int .i64 ((rd_T65 l0 x13_1).f1)) ∧ w'.cell? ⟨(ad124.add ((x13_1).toNat * 14)).block, (ad124.add ((x13_1).toNat * 14)).off + 2, none⟩ = some (.string ((rd_T65 l0 x13_1).f2)) ∧ w'.cell? ⟨(ad124.add ((x13_1).toNat * 14)).block, (ad124.add ((x13_1).toNat * 14)).off + 3, none⟩ = some (.string ((rd_T65 l0 x13_1).f3)) ∧ w'.cell? ⟨(ad124.add ((x13_1).toNat * 14)).block, (ad124.add ((x13_1).toNat * 14)).off + 4, none⟩ = some (.int .u8 ((rd_T65 l0 x13_1).f4.f0)) ∧ w'.cell? ⟨(ad124.add ((x13_1).toNat * 14)).block, (ad124.add ((x13_1).toNat * 14)).off + 5, none⟩ = some (.int .u64 ((rd_T65 l0 x13_1).f4.f1)) ∧ w'.cell? ⟨(ad124.add ((x13_1).toNat * 14)).block, (ad124.add ((x13_1).toNat * 14)).off + 6, none⟩ = some (.string ((rd_T65 l0 x13_1).f4.f2)) ∧ w'.cell? ⟨(ad124.add ((x13_1).toNat * 14)).block, (ad124.add ((x13_1).toNat * 14)).off + 7, none⟩ = some (.slice A124_7 ((rd_T65 l0 x13_1).f5).length c124_7) ∧ w'.cell? ⟨(ad124.add ((x13_1).toNat * 14)).block, (ad124.add ((x13_1).toNat * 14)).off + 8, none⟩ = some (.slice A124_8 ((rd_T65 l0 x13_1).f6).length c124_8) ∧ w'.cell? ⟨(ad124.add ((x13_1).toNat * 14)).block, (ad124.add ((x13_1).toNat * 14)).off + 9, none⟩ = some (.int .u8 ((rd_T65 l0 x13_1).f7)) ∧ w'.cell? ⟨(ad124.add ((x13_1).toNat * 14)).block, (ad124.add ((x13_1).toNat * 14)).off + 10, none⟩ = some (.int .i64 ((rd_T65 l0 x13_1).f8)) ∧ w'.cell? ⟨(ad124.add ((x13_1).toNat * 14)).block, (ad124.add ((x13_1).toNat * 14)).off + 11, none⟩ = some (.int .i64 ((rd_T65 l0 x13_1).f9)) ∧ w'.cell? ⟨(ad124.add ((x13_1).toNat * 14)).block, (ad124.add ((x13_1).toNat * 14)).off + 12, none⟩ = some (.int .i64 ((rd_T65 l0 x13_1).f10)) ∧ w'.cell? ⟨(ad124.add ((x13_1).toNat * 14)).block, (ad124.add ((x13_1).toNat * 14)).off + 13, none⟩ = some (.int .i64 ((rd_T65 l0 x13_1).f11)) ∧ w'.cell? (ad125.add ((x13_1).toNat * 14)) = some (.int .i64 ((rd_T65 l1 x13_1).f0)) ∧ w'.cell? ⟨(ad125.add ((x13_1).toNat * 14)).block, (ad125.add ((x13_1).toNat * 14)).off + 1, none⟩ = some (.int .i64 ((rd_T65 l1 x13_1).f1)) ∧ w'.cell? ⟨(ad125.add ((x13_1).toNat * 14)).block, (ad125.add ((x13_1).toNat * 14)).off + 2, none⟩ = some (.string ((rd_T65 l1 x13_1).f2)) ∧ w'.cell? ⟨(ad125.add ((x13_1).toNat * 14)).block, (ad125.add ((x13_1).toNat * 14)).off + 3, none⟩ = some (.string ((rd_T65 l1 x13_1).f3)) ∧ w'.cell? ⟨(ad125.add ((x13_1).toNat * 14)).block, (ad125.add ((x13_1).toNat * 14)).off + 4, none⟩ = some (.int .u8 ((rd_T65 l1 x13_1).f4.f0)) ∧ w'.cell? ⟨(ad125.add ((x13_1).toNat * 14)).block, (ad125.add ((x13_1).toNat * 14)).off + 5, none⟩ = some (.int .u64 ((rd_T65 l1 x13_1).f4.f1)) ∧ w'.cell? ⟨(ad125.add ((x13_1).toNat * 14)).block, (ad125.add ((x13_1).toNat * 14)).off + 6, none⟩ = some (.string ((rd_T65 l1 x13_1).f4.f2)) ∧ w'.cell? ⟨(ad125.add ((x13_1).toNat * 14)).block, (ad125.add ((x13_1).toNat * 14)).off + 7, none⟩ = some (.slice A125_7 ((rd_T65 l1 x13_1).f5).length c125_7) ∧ w'.cell? ⟨(ad125.add ((x13_1).toNat * 14)).block, (ad125.add ((x13_1).toNat * 14)).off + 8, none⟩ = some (.slice A125_8 ((rd_T65 l1 x13_1).f6).length c125_8) ∧ w'.cell? ⟨(ad125.add ((x13_1).toNat * 14)).block, (ad125.add ((x13_1).toNat * 14)).off + 9, none⟩ = some (.int .u8 ((rd_T65 l1 x13_1).f7)) ∧ w'.cell? ⟨(ad125.add ((x13_1).toNat * 14)).block, (ad125.add ((x13_1).toNat * 14)).off + 10, none⟩ = some (.int .i64 ((rd_T65 l1 x13_1).f8)) ∧ w'.cell? ⟨(ad125.add ((x13_1).toNat * 14)).block, (ad125.add ((x13_1).toNat * 14)).off + 11, none⟩ = some (.int .i64 ((rd_T65 l1 x13_1).f9)) ∧ w'.cell? ⟨(ad125.add ((x13_1).toNat * 14)).block, (ad125.add ((x13_1).toNat * 14)).off + 12, none⟩ = some (.int .i64 ((rd_T65 l1 x13_1).f10)) ∧ w'.cell? ⟨(ad125.add ((x13_1).toNat * 14)).block, (ad125.add ((x13_1).toNat * 14)).off + 13, none⟩ = some (.int .i64 ((rd_T65 l1 x13_1).f11))) (ds := []) #[false, false, false, false, false, false, false, false, false, false] (by kernel_rfl) rfl rfl ⟨((HB.out.cell (World.block_lt_of_cell? w _ hw124_0)).trans hw124_0), ((HB.out.cell (World.block_lt_of_cell? w _ hw124_1)).trans hw124_1), ((HB.out.cell (World.block_lt_of_cell? w _ hw124_2)).trans hw124_2), ((HB.out.cell (World.block_lt_of_cell? w _ hw124_3)).trans hw124_3), ((HB.out.cell (World.block_lt_of_cell? w _ hw124_4)).trans hw124_4), ((HB.out.cell (World.block_lt_of_cell? w _ hw124_5)).trans hw124_5), ((HB.out.cell (World.block_lt_of_cell? w _ hw124_6)).trans hw124_6), ((HB.out.cell (World.block_lt_of_cell? w _ hw124_7)).trans hw124_7), ((HB.out.cell (World.block_lt_of_cell? w _ hw124_8)).trans hw124_8), ((HB.out.cell (World.block_lt_of_cell? w _ hw124_9)).trans hw124_9), ((HB.out.cell (World.block_lt_of_cell? w _ hw124_10)).trans hw124_10), ((HB.out.cell (World.block_lt_of_cell? w _ hw124_11)).trans hw124_11), ((HB.out.cell (World.block_lt_of_cell? w _ hw124_12)).trans hw124_12), ((HB.out.cell (World.block_lt_of_cell? w _ hw124_13)).trans hw124_13), ((HB.out.cell (World.block_lt_of_cell? w _ hw125_0)).trans hw125_0), ((HB.out.cell (World.block_lt_of_cell? w _ hw125_1)).trans hw125_1), ((HB.out.cell (World.block_lt_of_cell? w _ hw125_2)).trans hw125_2), ((HB.out.cell (World.block_lt_of_cell? w _ hw125_3)).trans hw125_3), ((HB.out.cell (World.block_lt_of_cell? w _ hw125_4)).trans hw125_4), ((HB.out.cell (World.block_lt_of_cell? w _ hw125_5)).trans hw125_5), ((HB.out.cell (World.block_lt_of_cell? w _ hw125_6)).trans hw125_6), ((HB.out.cell (World.block_lt_of_cell? w _ hw125_7)).trans hw125_7), ((HB.out.cell (World.block_lt_of_cell? w _ hw125_8)).trans hw125_8), ((HB.out.cell (World.block_lt_of_cell? w _ hw125_9)).trans hw125_9), ((HB.out.cell (World.block_lt_of_cell? w _ hw125_10)).trans hw125_10), ((HB.out.cell (World.block_lt_of_cell? w _ hw125_11)).trans hw125_11), ((HB.out.cell (World.block_lt_of_cell? w _ hw125_12)).trans hw125_12), ((HB.out.cell (World.block_lt_of_cell? w _ hw125_13)).trans hw125_13)⟩ (fun hHeld => ?_); refine with_tabW relayref05_sameExprs.tab6 relayref05_sameExprs.bits6 (fun HT_ HW_ => ?_)
               generalize wr.drew = w10 at HB HR124_7 HR124_8 HR125_7 HR125_8 hx124_0 hx124_1 hx124_10 hx124_11 hx124_12 hx124_13 hx124_2 hx124_3 hx124_4 hx124_5 hx124_6 hx124_7 hx124_8 hx124_9 hx125_0 hx125_1 hx125_10 hx125_11 hx125_12 hx125_13 hx125_2 hx125_3 hx125_4 hx125_5 hx125_6 hx125_7 hx125_8 hx125_9 hHeld ⊢
               refine pure_ (i := 0) (N := some 16) (v := ?_) (a' := ?_) #[true, false, false, false, false, false, false, false, false, false] rfl rfl (any_of HT_.out (by kernel_rfl)) (fun _ _ _ h => h) (Or.inl ⟨by rfl, ?_⟩) ?_ ?_
               rotate_left
               · intro w'
                 go_simp
                 with_reducible rfl
               rotate_left
               · simp only [Act.put, List.setIfInBounds_toArray, List.set_cons_zero, List.set_cons_succ, i64_w, i32_w]
                 rfl
               refine pure_ (i := 1) (N := some 17) (v := ?_) (a' := ?_) #[true, true, false, false, false, false, false, false, false, false] rfl rfl (any_of HT_.out (by kernel_rfl)) (fun _ _ _ h => h) (Or.inl ⟨by rfl, ?_⟩) ?_ ?_
               rotate_left
               · intro w'
                 go_simp
                 with_reducible rfl
               rotate_left
               · simp only [Act.put, List.setIfInBounds_toArray, List.set_cons_zero, List.set_cons_succ, i64_w, i32_w]
                 rfl
               refine pure_ (i := 2) (N := some 18) (v := ?_) (a' := ?_) #[true, true, true, false, false, false, false, false, false, false] rfl rfl (any_of HT_.out (by kernel_rfl)) (fun _ _ _ h => h) (Or.inl ⟨by rfl, ?_⟩) ?_ ?_
               rotate_left
               · intro w'
                 go_simp
                 with_reducible rfl
               rotate_left
               · simp only [Act.put, List.setIfInBounds_toArray, List.set_cons_zero, List.set_cons_succ, i64_w, i32_w]
                 rfl
               refine pure_ (i := 4) (N := some 20) (v := ?_) (a' := ?_) #[true, true, true, false, true, false, false, false, false, false] rfl rfl (any_of HT_.out (by kernel_rfl)) (fun _ _ _ h => h) (Or.inl ⟨by rfl, ?_⟩) ?_ ?_
               rotate_left
               · intro w'
                 go_simp
                 with_reducible rfl
               rotate_left
               · simp only [Act.put, List.setIfInBounds_toArray, List.set_cons_zero, List.set_cons_succ, i64_w, i32_w]
                 rfl
               refine pure_ (i := 5) (N := some 21) (v := ?_) (a' := ?_) #[true, true, true, false, true, true, false, false, false, false] rfl rfl (any_of HT_.out (by kernel_rfl)) (fun _ _ _ h => h) (Or.inl ⟨by rfl, ?_⟩) ?_ ?_
               rotate_left
               · intro w'
                 go_simp
                 with_reducible rfl
               rotate_left
               · simp only [Act.put, List.setIfInBounds_toArray, List.set_cons_zero, List.set_cons_succ, i64_w, i32_w]
                 rfl
               refine pure_ (i := 6) (N := some 22) (v := ?_) (a' := ?_) #[true, true, true, false, true, true, true, false, false, false] rfl rfl (any_of HT_.out (by kernel_rfl)) (fun _ _ _ h => h) (Or.inl ⟨by rfl, ?_⟩) ?_ ?_
               rotate_left
               · intro w'
                 go_simp
                 with_reducible rfl
               rotate_left
               · simp only [Act.put, List.setIfInBounds_toArray, List.set_cons_zero, List.set_cons_succ, i64_w, i32_w]
                 rfl
               refine take_ (i := 3) (N := some 19) (v := ?_) (a' := ?_) #[true, true, true, true, true, true, true, false, false, false] rfl rfl (take_ofW HT_.out HW_.out (by kernel_rfl)) (fun _ _ _ h => h) (Or.inl ⟨by rfl, ?_⟩) hHeld ?_ ?_
               rotate_left
               · rintro w' ⟨s0, s1, s2, s3, s4, s5, s6, s7, s8, s9, s10, s11, s12, s13, s14, s15, s16, s17, s18, s19, s20, s21, s22, s23, s24, s25, s26, s27⟩
                 go_simp
                 with_reducible rfl
               rotate_left
               · simp only [Act.put, List.setIfInBounds_toArray, List.set_cons_zero, List.set_cons_succ, i64_w, i32_w]
                 rfl
               refine take_ (i := 7) (N := some 23) (v := ?_) (a' := ?_) #[true, true, true, true, true, true, true, true, false, false] rfl rfl (take_ofW HT_.out HW_.out (by kernel_rfl)) (fun _ _ _ h => h) (Or.inl ⟨by rfl, ?_⟩) hHeld ?_ ?_
               rotate_left
               · rintro w' ⟨s0, s1, s2, s3, s4, s5, s6, s7, s8, s9, s10, s11, s12, s13, s14, s15, s16, s17, s18, s19, s20, s21, s22, s23, s24, s25, s26, s27⟩
                 go_simp
                 with_reducible rfl
               rotate_left
               · simp only [Act.put, List.setIfInBounds_toArray, List.set_cons_zero, List.set_cons_succ, i64_w, i32_w]
                 rfl
               refine one_ (i := 8) (N := some 24) #[true, true, true, true, true, true, true, true, true, false] rfl rfl (one_of HT_.out (by kernel_rfl)) (by decide) (fun K hK => ?_)
               refine goes_ Try.func52 (by kernel_rfl) rfl #[.agg #[.int .i64 ((rd_T65 l0 x13_1).f0), .int .i64 ((rd_T65 l0 x13_1).f1), .string ((rd_T65 l0 x13_1).f2), .string ((rd_T65 l0 x13_1).f3), .int .u8 ((rd_T65 l0 x13_1).f4.f0), .int .u64 ((rd_T65 l0 x13_1).f4.f1), .string ((rd_T65 l0 x13_1).f4.f2), .slice A124_7 ((rd_T65 l0 x13_1).f5).length c124_7, .slice A124_8 ((rd_T65 l0 x13_1).f6).length c124_8, .int .u8 ((rd_T65 l0 x13_1).f7), .int .i64 ((rd_T65 l0 x13_1).f8), .int .i64 ((rd_T65 l0 x13_1).f9), .int .i64 ((rd_T65 l0 x13_1).f10), .int .i64 ((rd_T65 l0 x13_1).f11)], .agg #[.int .i64 ((rd_T65 l1 x13_1).f0), .int .i64 ((rd_T65 l1 x13_1).f1), .string ((rd_T65 l1 x13_1).f2), .string ((rd_T65 l1 x13_1).f3), .int .u8 ((rd_T65 l1 x13_1).f4.f0), .int .u64 ((rd_T65 l1 x13_1).f4.f1), .string ((rd_T65 l1 x13_1).f4.f2), .slice A125_7 ((rd_T65 l1 x13_1).f5).length c125_7, .slice A125_8 ((rd_T65 l1 x13_1).f6).length c125_8, .int .u8 ((rd_T65 l1 x13_1).f7), .int .i64 ((rd_T65 l1 x13_1).f8), .int .i64 ((rd_T65 l1 x13_1).f9), .int .i64 ((rd_T65 l1 x13_1).f10), .int .i64 ((rd_T65 l1 x13_1).f11)]] (by rfl) rfl rfl (by (try simp only [List.map_toArray, List.map_cons, List.map_nil]); first | done | rfl | (simp only [List.length_drop, List.length_take]; rfl)) ?_
               with_reducible refine (hFn ((rd_T65 l0 x13_1).f0) ((rd_T65 l0 x13_1).f1) ((rd_T65 l0 x13_1).f2) ((rd_T65 l0 x13_1).f3) ((rd_T65 l0 x13_1).f4.f0) ((rd_T65 l0 x13_1).f4.f1) ((rd_T65 l0 x13_1).f4.f2) _ _ ((rd_T65 l0 x13_1).f5) _ _ ((rd_T65 l0 x13_1).f6) ((rd_T65 l0 x13_1).f7) ((rd_T65 l0 x13_1).f8) ((rd_T65 l0 x13_1).f9) ((rd_T65 l0 x13_1).f10) ((rd_T65 l0 x13_1).f11) ((rd_T65 l1 x13_1).f0) ((rd_T65 l1 x13_1).f1) ((rd_T65 l1 x13_1).f2) ((rd_T65 l1 x13_1).f3) ((rd_T65 l1 x13_1).f4.f0) ((rd_T65 l1 x13_1).f4.f1) ((rd_T65 l1 x13_1).f4.f2) _ _ ((rd_T65 l1 x13_1).f5) _ _ ((rd_T65 l1 x13_1).f6) ((rd_T65 l1 x13_1).f7) ((rd_T65 l1 x13_1).f8) ((rd_T65 l1 x13_1).f9) ((rd_T65 l1 x13_1).f10) ((rd_T65 l1 x13_1).f11) true _ ?side1 ?side2 ?side3 ?side4 ?side5 ?side6 ?side7 ?side8 A8.out).mono ?_
               (case side1 => repeat (first | exact (Kd.C_below HR124_7.out HB.out) | (with_reducible refine Kd.C_alloc ?_ _) | (with_reducible refine Kd.C_drewN ?_ _) | (with_reducible refine Kd.C_drew ?_)))
               (case side2 => exact HC124_7.out)
               (case side3 => repeat (first | exact (Kd.C_below HR124_8.out HB.out) | (with_reducible refine Kd.C_alloc ?_ _) | (with_reducible refine Kd.C_drewN ?_ _) | (with_reducible refine Kd.C_drew ?_)))
               (case side4 => exact HC124_8.out)
               (case side5 => repeat (first | exact (Kd.C_below HR125_7.out HB.out) | (with_reducible refine Kd.C_alloc ?_ _) | (with_reducible refine Kd.C_drewN ?_ _) | (with_reducible refine Kd.C_drew ?_)))
               (case side6 => exact HC125_7.out)
               (case side7 => repeat (first | exact (Kd.C_below HR125_8.out HB.out) | (with_reducible refine Kd.C_alloc ?_ _) | (with_reducible refine Kd.C_drewN ?_ _) | (with_reducible refine Kd.C_drew ?_)))
               (case side8 => exact HC125_8.out)
               rintro e w11 ⟨rfl, hb⟩
               refine ⟨_, rfl, ?_⟩
               have n0_ := Aside0.mk (below_step (by repeat (first | (with_reducible first | exact HB.out | apply below_alloc | apply pw_below_drewN | apply below_drew1) | exact HB.out)) hb)
               clear HB
               have HB := n0_
               clear n0_
               (try clear hb)
               (try clear hb2)
               (try clear hk)
               (try clear hi)
               refine hK.out _ _ ⟨((HB.out.cell (World.block_lt_of_cell? w _ hw124_0)).trans hw124_0), ((HB.out.cell (World.block_lt_of_cell? w _ hw124_1)).trans hw124_1), ((HB.out.cell (World.block_lt_of_cell? w _ hw124_2)).trans hw124_2), ((HB.out.cell (World.block_lt_of_cell? w _ hw124_3)).trans hw124_3), ((HB.out.cell (World.block_lt_of_cell? w _ hw124_4)).trans hw124_4), ((HB.out.cell (World.block_lt_of_cell? w _ hw124_5)).trans hw124_5), ((HB.out.cell (World.block_lt_of_cell? w _ hw124_6)).trans hw124_6), ((HB.out.cell (World.block_lt_of_cell? w _ hw124_7)).trans hw124_7), ((HB.out.cell (World.block_lt_of_cell? w _ hw124_8)).trans hw124_8), ((HB.out.cell (World.block_lt_of_cell? w _ hw124_9)).trans hw124_9), ((HB.out.cell (World.block_lt_of_cell? w _ hw124_10)).trans hw124_10), ((HB.out.cell (World.block_lt_of_cell? w _ hw124_11)).trans hw124_11), ((HB.out.cell (World.block_lt_of_cell? w _ hw124_12)).trans hw124_12), ((HB.out.cell (World.block_lt_of_cell? w _ hw124_13)).trans hw124_13), ((HB.out.cell (World.block_lt_of_cell? w _ hw125_0)).trans hw125_0), ((HB.out.cell (World.block_lt_of_cell? w _ hw125_1)).trans hw125_1), ((HB.out.cell (World.block_lt_of_cell? w _ hw125_2)).trans hw125_2), ((HB.out.cell (World.block_lt_of_cell? w _ hw125_3)).trans hw125_3), ((HB.out.cell (World.block_lt_of_cell? w _ hw125_4)).trans hw125_4), ((HB.out.cell (World.block_lt_of_cell? w _ hw125_5)).trans hw125_5), ((HB.out.cell (World.block_lt_of_cell? w _ hw125_6)).trans hw125_6), ((HB.out.cell (World.block_lt_of_cell? w _ hw125_7)).trans hw125_7), ((HB.out.cell (World.block_lt_of_cell? w _ hw125_8)).trans hw125_8), ((HB.out.cell (World.block_lt_of_cell? w _ hw125_9)).trans hw125_9), ((HB.out.cell (World.block_lt_of_cell? w _ hw125_10)).trans hw125_10), ((HB.out.cell (World.block_lt_of_cell? w _ hw125_11)).trans hw125_11), ((HB.out.cell (World.block_lt_of_cell? w _ hw125_12)).trans hw125_12), ((HB.out.cell (World.block_lt_of_cell? w _ hw125_13)).trans hw125_13)⟩ (fun hHeld => ?_)
               clear hK K
               refine norm_ (a' := ?_) ?_ ?_
               rotate_left
               · show Act.put _ (some 24) _ = _
                 simp only [Act.put, List.setIfInBounds_toArray, List.set_cons_zero, List.set_cons_succ, i64_w, i32_w]
                 rfl
               refine pure_ (i := 9) (N := some 25) (v := ?_) (a' := ?_) #[true, true, true, true, true, true, true, true, true, true] rfl rfl (any_of HT_.out (by kernel_rfl)) (fun _ _ _ h => h) (Or.inl ⟨by rfl, ?_⟩) ?_ ?_
               rotate_left
               · intro w'
                 go_simp
                 with_reducible rfl
               rotate_left
               · simp only [Act.put, List.setIfInBounds_toArray, List.set_cons_zero, List.set_cons_succ, i64_w, i32_w]
                 rfl
               refine done_ (done_of HT_.out (by kernel_rfl)) ?_
               try go_wp2
               go_roundg k1
               case measure => have := HK1.out; omega
               case rel => exact ⟨(wrap64 (x13_1 + 1)), (by first | rfl | (simp; done) | (simp [*]; done) | (simp [*, bne]; done)), H', ⟨by have := HK1.out; omega⟩, ⟨by repeat (first | (with_reducible first | exact HB.out | apply below_alloc | apply pw_below_drewN | apply below_drew1) | exact HB.out)⟩⟩
             · replace c9 := Bool.eq_false_iff.mpr c9
               subst c9
               have H1 : (some false) = some r := by rw [if_neg (show ¬ (false = true) by decide)] at H; exact H
               clear H
               have H := H1
               clear H1
               obtain rfl := Option.some.inj H
               try go_wp2
               have n0_ := Aside0.mk (below_drew1 HB.out)
               clear HB
               have HB := n0_
               clear n0_
               have p124 : 0 ≤ (x13_1 : Int) := of_decide_eq_true (by first | (with_reducible assumption) | assumption)
               have q124 : x13_1 < (l0.length : Int) := of_decide_eq_true (by first | (with_reducible assumption) | assumption)
               obtain ⟨ad124, A124_7, c124_7, A124_8, c124_8, e124, hx124_0, hx124_1, hx124_2, hx124_3, hx124_4, hx124_5, hx124_6, hx124_7, hx124_8, hx124_9, hx124_10, hx124_11, hx124_12, hx124_13, hl124_7, hi124_7, hl124_8, hi124_8⟩ := at_T65 HR0.out x13_1 p124 q124
               have hw124_13 := hx124_13
               have hw124_12 := hx124_12
               have hw124_11 := hx124_11
               have hw124_10 := hx124_10
               have hw124_9 := hx124_9
               have hw124_8 := hx124_8
               have hw124_7 := hx124_7
               have hw124_6 := hx124_6
               have hw124_5 := hx124_5
               have hw124_4 := hx124_4
               have hw124_3 := hx124_3
               have hw124_2 := hx124_2
               have hw124_1 := hx124_1
               have hw124_0 := hx124_0
               cases e124
               replace hx124_0 := (HB.out.cell (World.block_lt_of_cell? w _ hx124_0)).trans hx124_0
               replace hx124_1 := (HB.out.cell (World.block_lt_of_cell? w _ hx124_1)).trans hx124_1
               replace hx124_2 := (HB.out.cell (World.block_lt_of_cell? w _ hx124_2)).trans hx124_2
               replace hx124_3 := (HB.out.cell (World.block_lt_of_cell? w _ hx124_3)).trans hx124_3
               replace hx124_4 := (HB.out.cell (World.block_lt_of_cell? w _ hx124_4)).trans hx124_4
               replace hx124_5 := (HB.out.cell (World.block_lt_of_cell? w _ hx124_5)).trans hx124_5
               replace hx124_6 := (HB.out.cell (World.block_lt_of_cell? w _ hx124_6)).trans hx124_6
               replace hx124_7 := (HB.out.cell (World.block_lt_of_cell? w _ hx124_7)).trans hx124_7
               replace hx124_8 := (HB.out.cell (World.block_lt_of_cell? w _ hx124_8)).trans hx124_8
               replace hx124_9 := (HB.out.cell (World.block_lt_of_cell? w _ hx124_9)).trans hx124_9
               replace hx124_10 := (HB.out.cell (World.block_lt_of_cell? w _ hx124_10)).trans hx124_10
               replace hx124_11 := (HB.out.cell (World.block_lt_of_cell? w _ hx124_11)).trans hx124_11
               replace hx124_12 := (HB.out.cell (World.block_lt_of_cell? w _ hx124_12)).trans hx124_12
               replace hx124_13 := (HB.out.cell (World.block_lt_of_cell? w _ hx124_13)).trans hx124_13
               have HR124_7 := Aside0.mk hi124_7
               have HC124_7 := Aside0.mk hl124_7
               clear hi124_7 hl124_7
               have HR124_8 := Aside0.mk hi124_8
               have HC124_8 := Aside0.mk hl124_8
               clear hi124_8 hl124_8
               replace p124 := eq_true p124
               replace q124 := eq_true q124
               have p125 : 0 ≤ (x13_1 : Int) := of_decide_eq_true (by first | (with_reducible assumption) | assumption)
               have q125 : x13_1 < (l1.length : Int) := of_decide_eq_true (by first | (with_reducible assumption) | assumption)
               obtain ⟨ad125, A125_7, c125_7, A125_8, c125_8, e125, hx125_0, hx125_1, hx125_2, hx125_3, hx125_4, hx125_5, hx125_6, hx125_7, hx125_8, hx125_9, hx125_10, hx125_11, hx125_12, hx125_13, hl125_7, hi125_7, hl125_8, hi125_8⟩ := at_T65 HR1.out x13_1 p125 q125
               have hw125_13 := hx125_13
               have hw125_12 := hx125_12
               have hw125_11 := hx125_11
               have hw125_10 := hx125_10
               have hw125_9 := hx125_9
               have hw125_8 := hx125_8
               have hw125_7 := hx125_7
               have hw125_6 := hx125_6
               have hw125_5 := hx125_5
               have hw125_4 := hx125_4
               have hw125_3 := hx125_3
               have hw125_2 := hx125_2
               have hw125_1 := hx125_1
               have hw125_0 := hx125_0
               cases e125
               replace hx125_0 := (HB.out.cell (World.block_lt_of_cell? w _ hx125_0)).trans hx125_0
               replace hx125_1 := (HB.out.cell (World.block_lt_of_cell? w _ hx125_1)).trans hx125_1
               replace hx125_2 := (HB.out.cell (World.block_lt_of_cell? w _ hx125_2)).trans hx125_2
               replace hx125_3 := (HB.out.cell (World.block_lt_of_cell? w _ hx125_3)).trans hx125_3
               replace hx125_4 := (HB.out.cell (World.block_lt_of_cell? w _ hx125_4)).trans hx125_4
               replace hx125_5 := (HB.out.cell (World.block_lt_of_cell? w _ hx125_5)).trans hx125_5
               replace hx125_6 := (HB.out.cell (World.block_lt_of_cell? w _ hx125_6)).trans hx125_6
               replace hx125_7 := (HB.out.cell (World.block_lt_of_cell? w _ hx125_7)).trans hx125_7
               replace hx125_8 := (HB.out.cell (World.block_lt_of_cell? w _ hx125_8)).trans hx125_8
               replace hx125_9 := (HB.out.cell (World.block_lt_of_cell? w _ hx125_9)).trans hx125_9
               replace hx125_10 := (HB.out.cell (World.block_lt_of_cell? w _ hx125_10)).trans hx125_10
               replace hx125_11 := (HB.out.cell (World.block_lt_of_cell? w _ hx125_11)).trans hx125_11
               replace hx125_12 := (HB.out.cell (World.block_lt_of_cell? w _ hx125_12)).trans hx125_12
               replace hx125_13 := (HB.out.cell (World.block_lt_of_cell? w _ hx125_13)).trans hx125_13
               have HR125_7 := Aside0.mk hi125_7
               have HC125_7 := Aside0.mk hl125_7
               clear hi125_7 hl125_7
               have HR125_8 := Aside0.mk hi125_8
               have HC125_8 := Aside0.mk hl125_8
               clear hi125_8 hl125_8
               replace p125 := eq_true p125
               replace q125 := eq_true q125
               refine start_ (n := 10) (S := fun w' => w'.cell? (ad124.add ((x13_1).toNat * 14)) = some (.int .i64 ((rd_T65 l0 x13_1).f0)) ∧ w'.cell? ⟨(ad124.add ((x13_1).toNat * 14)).block, (ad124.add ((x13_1).toNat * 14)).off + 1, none⟩ = some (.int .i64 ((rd_T65 l0 x13_1).f1)) ∧ w'.cell? ⟨(ad124.add ((x13_1).toNat * 14)).block, (ad124.add ((x13_1).toNat * 14)).off + 2, none⟩ = some (.string ((rd_T65 l0 x13_1).f2)) ∧ w'.cell? ⟨(ad124.add ((x13_1).toNat * 14)).block, (ad124.add ((x13_1).toNat * 14)).off + 3, none⟩ = some (.string ((rd_T65 l0 x13_1).f3)) ∧ w'.cell? ⟨(ad124.add ((x13_1).toNat * 14)).block, (ad124.add ((x13_1).toNat * 14)).off + 4, none⟩ = some (.int .u8 ((rd_T65 l0 x13_1).f4.f0)) ∧ w'.cell? ⟨(ad124.add ((x13_1).toNat * 14)).block, (ad124.add ((x13_1).toNat * 14)).off + 5, none⟩ = some (.int .u64 ((rd_T65 l0 x13_1).f4.f1)) ∧ w'.cell? ⟨(ad124.add ((x13_1).toNat * 14)).block, (ad124.add ((x13_1).toNat * 14)).off + 6, none⟩ = some (.string ((rd_T65 l0 x13_1).f4.f2)) ∧ w'.cell? ⟨(ad124.add ((x13_1).toNat * 14)).block, (ad124.add ((x13_1).toNat * 14)).off + 7, none⟩ = some (.slice A124_7 ((rd_T65 l0 x13_1).f5).length c124_7) ∧ w'.cell? ⟨(ad124.add ((x13_1).toNat * 14)).block, (ad124.add ((x13_1).toNat * 14)).off + 8, none⟩ = some (.slice A124_8 ((rd_T65 l0 x13_1).f6).length c124_8) ∧ w'.cell? ⟨(ad124.add ((x13_1).toNat * 14)).block, (ad124.add ((x13_1).toNat * 14)).off + 9, none⟩ = some (.int .u8 ((rd_T65 l0 x13_1).f7)) ∧ w'.cell? ⟨(ad124.add ((x13_1).toNat * 14)).block, (ad124.add ((x13_1).toNat * 14)).off + 10, none⟩ = some (.int .i64 ((rd_T65 l0 x13_1).f8)) ∧ w'.cell? ⟨(ad124.add ((x13_1).toNat * 14)).block, (ad124.add ((x13_1).toNat * 14)).off + 11, none⟩ = some (.int .i64 ((rd_T65 l0 x13_1).f9)) ∧ w'.cell? ⟨(ad124.add ((x13_1).toNat * 14)).block, (ad124.add ((x13_1).toNat * 14)).off + 12, none⟩ = some (.int .i64 ((rd_T65 l0 x13_1).f10)) ∧ w'.cell? ⟨(ad124.add ((x13_1).toNat * 14)).block, (ad124.add ((x13_1).toNat * 14)).off + 13, none⟩ = some (.int .i64 ((rd_T65 l0 x13_1).f11)) ∧ w'.cell? (ad125.add ((x13_1).toNat * 14)) = some (.int .i64 ((rd_T65 l1 x13_1).f0)) ∧ w'.cell? ⟨(ad125.add ((x13_1).toNat * 14)).block, (ad125.add ((x13_1).toNat * 14)).off + 1, none⟩ = some (.int .i64 ((rd_T65 l1 x13_1).f1)) ∧ w'.cell? ⟨(ad125.add ((x13_1).toNat * 14)).block, (ad125.add ((x13_1).toNat * 14)).off + 2, none⟩ = some (.string ((rd_T65 l1 x13_1).f2)) ∧ w'.cell? ⟨(ad125.add ((x13_1).toNat * 14)).block, (ad125.add ((x13_1).toNat * 14)).off + 3, none⟩ = some (.string ((rd_T65 l1 x13_1).f3)) ∧ w'.cell? ⟨(ad125.add ((x13_1).toNat * 14)).block, (ad125.add ((x13_1).toNat * 14)).off + 4, none⟩ = some (.int .u8 ((rd_T65 l1 x13_1).f4.f0)) ∧ w'.cell? ⟨(ad125.add ((x13_1).toNat * 14)).block, (ad125.add ((x13_1).toNat * 14)).off + 5, none⟩ = some (.int .u64 ((rd_T65 l1 x13_1).f4.f1)) ∧ w'.cell? ⟨(ad125.add ((x13_1).toNat * 14)).block, (ad125.add ((x13_1).toNat * 14)).off + 6, none⟩ = some (.string ((rd_T65 l1 x13_1).f4.f2)) ∧ w'.cell? ⟨(ad125.add ((x13_1).toNat * 14)).block, (ad125.add ((x13_1).toNat * 14)).off + 7, none⟩ = some (.slice A125_7 ((rd_T65 l1 x13_1).f5).length c125_7) ∧ w'.cell? ⟨(ad125.add ((x13_1).toNat * 14)).block, (ad125.add ((x13_1).toNat * 14)).off + 8, none⟩ = some (.slice A125_8 ((rd_T65 l1 x13_1).f6).length c125_8) ∧ w'.cell? ⟨(ad125.add ((x13_1).toNat * 14)).block, (ad125.add ((x13_1).toNat * 14)).off + 9, none⟩ = some (.int .u8 ((rd_T65 l1 x13_1).f7)) ∧ w'.cell? ⟨(ad125.add ((x13_1).toNat * 14)).block, (ad125.add ((x13_1).toNat * 14)).off + 10, none⟩ = some (.int .i64 ((rd_T65 l1 x13_1).f8)) ∧ w'.cell? ⟨(ad125.add ((x13_1).toNat * 14)).block, (ad125.add ((x13_1).toNat * 14)).off + 11, none⟩ = some (.int .i64 ((rd_T65 l1 x13_1).f9)) ∧ w'.cell? ⟨(ad125.add ((x13_1).toNat * 14)).block, (ad125.add ((x13_1).toNat * 14)).off + 12, none⟩ = some (.int .i64 ((rd_T65 l1 x13_1).f10)) ∧ w'.cell? ⟨(ad125.add ((x13_1).toNat * 14)).block, (ad125.add ((x13_1).toNat * 14)).off + 13, none⟩ = some (.int .i64 ((rd_T65 l1 x13_1).f11))) (ds := []) #[false, false, false, false, false, false, false, false, false, false] (by kernel_rfl) rfl rfl ⟨((HB.out.cell (World.block_lt_of_cell? w _ hw124_0)).trans hw124_0), ((HB.out.cell (World.block_lt_of_cell? w _ hw124_1)).trans hw124_1), ((HB.out.cell (World.block_lt_of_cell? w _ hw124_2)).trans hw124_2), ((HB.out.cell (World.block_lt_of_cell? w _ hw124_3)).trans hw124_3), ((HB.out.cell (World.block_lt_of_cell? w _ hw124_4)).trans hw124_4), ((HB.out.cell (World.block_lt_of_cell? w _ hw124_5)).trans hw124_5), ((HB.out.cell (World.block_lt_of_cell? w _ hw124_6)).trans hw124_6), ((HB.out.cell (World.block_lt_of_cell? w _ hw124_7)).trans hw124_7), ((HB.out.cell (World.block_lt_of_cell? w _ hw124_8)).trans hw124_8), ((HB.out.cell (World.block_lt_of_cell? w _ hw124_9)).trans hw124_9), ((HB.out.cell (World.block_lt_of_cell? w _ hw124_10)).trans hw124_10), ((HB.out.cell (World.block_lt_of_cell? w _ hw124_11)).trans hw124_11), ((HB.out.cell (World.block_lt_of_cell? w _ hw124_12)).trans hw124_12), ((HB.out.cell (World.block_lt_of_cell? w _ hw124_13)).trans hw124_13), ((HB.out.cell (World.block_lt_of_cell? w _ hw125_0)).trans hw125_0), ((HB.out.cell (World.block_lt_of_cell? w _ hw125_1)).trans hw125_1), ((HB.out.cell (World.block_lt_of_cell? w _ hw125_2)).trans hw125_2), ((HB.out.cell (World.block_lt_of_cell? w _ hw125_3)).trans hw125_3), ((HB.out.cell (World.block_lt_of_cell? w _ hw125_4)).trans hw125_4), ((HB.out.cell (World.block_lt_of_cell? w _ hw125_5)).trans hw125_5), ((HB.out.cell (World.block_lt_of_cell? w _ hw125_6)).trans hw125_6), ((HB.out.cell (World.block_lt_of_cell? w _ hw125_7)).trans hw125_7), ((HB.out.cell (World.block_lt_of_cell? w _ hw125_8)).trans hw125_8), ((HB.out.cell (World.block_lt_of_cell? w _ hw125_9)).trans hw125_9), ((HB.out.cell (World.block_lt_of_cell? w _ hw125_10)).trans hw125_10), ((HB.out.cell (World.block_lt_of_cell? w _ hw125_11)).trans hw125_11), ((HB.out.cell (World.block_lt_of_cell? w _ hw125_12)).trans hw125_12), ((HB.out.cell (World.block_lt_of_cell? w _ hw125_13)).trans hw125_13)⟩ (fun hHeld => ?_); refine with_tabW relayref05_sameExprs.tab6 relayref05_sameExprs.bits6 (fun HT_ HW_ => ?_)
               generalize wr.drew = w12 at HB HR124_7 HR124_8 HR125_7 HR125_8 hx124_0 hx124_1 hx124_10 hx124_11 hx124_12 hx124_13 hx124_2 hx124_3 hx124_4 hx124_5 hx124_6 hx124_7 hx124_8 hx124_9 hx125_0 hx125_1 hx125_10 hx125_11 hx125_12 hx125_13 hx125_2 hx125_3 hx125_4 hx125_5 hx125_6 hx125_7 hx125_8 hx125_9 hHeld ⊢
               refine pure_ (i := 0) (N := some 16) (v := ?_) (a' := ?_) #[true, false, false, false, false, false, false, false, false, false] rfl rfl (any_of HT_.out (by kernel_rfl)) (fun _ _ _ h => h) (Or.inl ⟨by rfl, ?_⟩) ?_ ?_
               rotate_left
               · intro w'
                 go_simp
                 with_reducible rfl
               rotate_left
               · simp only [Act.put, List.setIfInBounds_toArray, List.set_cons_zero, List.set_cons_succ, i64_w, i32_w]
                 rfl
               refine pure_ (i := 1) (N := some 17) (v := ?_) (a' := ?_) #[true, true, false, false, false, false, false, false, false, false] rfl rfl (any_of HT_.out (by kernel_rfl)) (fun _ _ _ h => h) (Or.inl ⟨by rfl, ?_⟩) ?_ ?_
               rotate_left
               · intro w'
                 go_simp
                 with_reducible rfl
               rotate_left
               · simp only [Act.put, List.setIfInBounds_toArray, List.set_cons_zero, List.set_cons_succ, i64_w, i32_w]
                 rfl
               refine pure_ (i := 2) (N := some 18) (v := ?_) (a' := ?_) #[true, true, true, false, false, false, false, false, false, false] rfl rfl (any_of HT_.out (by kernel_rfl)) (fun _ _ _ h => h) (Or.inl ⟨by rfl, ?_⟩) ?_ ?_
               rotate_left
               · intro w'
                 go_simp
                 with_reducible rfl
               rotate_left
               · simp only [Act.put, List.setIfInBounds_toArray, List.set_cons_zero, List.set_cons_succ, i64_w, i32_w]
                 rfl
               refine pure_ (i := 4) (N := some 20) (v := ?_) (a' := ?_) #[true, true, true, false, true, false, false, false, false, false] rfl rfl (any_of HT_.out (by kernel_rfl)) (fun _ _ _ h => h) (Or.inl ⟨by rfl, ?_⟩) ?_ ?_
               rotate_left
               · intro w'
                 go_simp
                 with_reducible rfl
               rotate_left
               · simp only [Act.put, List.setIfInBounds_toArray, List.set_cons_zero, List.set_cons_succ, i64_w, i32_w]
                 rfl
               refine pure_ (i := 5) (N := some 21) (v := ?_) (a' := ?_) #[true, true, true, false, true, true, false, false, false, false] rfl rfl (any_of HT_.out (by kernel_rfl)) (fun _ _ _ h => h) (Or.inl ⟨by rfl, ?_⟩) ?_ ?_
               rotate_left
               · intro w'
                 go_simp
                 with_reducible rfl
               rotate_left
               · simp only [Act.put, List.setIfInBounds_toArray, List.set_cons_zero, List.set_cons_succ, i64_w, i32_w]
                 rfl
               refine pure_ (i := 6) (N := some 22) (v := ?_) (a' := ?_) #[true, true, true, false, true, true, true, false, false, false] rfl rfl (any_of HT_.out (by kernel_rfl)) (fun _ _ _ h => h) (Or.inl ⟨by rfl, ?_⟩) ?_ ?_
               rotate_left
               · intro w'
                 go_simp
                 with_reducible rfl
               rotate_left
               · simp only [Act.put, List.setIfInBounds_toArray, List.set_cons_zero, List.set_cons_succ, i64_w, i32_w]
                 rfl
               refine take_ (i := 3) (N := some 19) (v := ?_) (a' := ?_) #[true, true, true, true, true, true, true, false, false, false] rfl rfl (take_ofW HT_.out HW_.out (by kernel_rfl)) (fun _ _ _ h => h) (Or.inl ⟨by rfl, ?_⟩) hHeld ?_ ?_
               rotate_left
               · rintro w' ⟨s0, s1, s2, s3, s4, s5, s6, s7, s8, s9, s10, s11, s12, s13, s14, s15, s16, s17, s18, s19, s20, s21, s22, s23, s24, s25, s26, s27⟩
                 go_simp
                 with_reducible rfl
               rotate_left
               · simp only [Act.put, List.setIfInBounds_toArray, List.set_cons_zero, List.set_cons_succ, i64_w, i32_w]
                 rfl
               refine take_ (i := 7) (N := some 23) (v := ?_) (a' := ?_) #[true, true, true, true, true, true, true, true, false, false] rfl rfl (take_ofW HT_.out HW_.out (by kernel_rfl)) (fun _ _ _ h => h) (Or.inl ⟨by rfl, ?_⟩) hHeld ?_ ?_
               rotate_left
               · rintro w' ⟨s0, s1, s2, s3, s4, s5, s6, s7, s8, s9, s10, s11, s12, s13, s14, s15, s16, s17, s18, s19, s20, s21, s22, s23, s24, s25, s26, s27⟩
                 go_simp
                 with_reducible rfl
               rotate_left
               · simp only [Act.put, List.setIfInBounds_toArray, List.set_cons_zero, List.set_cons_succ, i64_w, i32_w]
                 rfl
               refine one_ (i := 8) (N := some 24) #[true, true, true, true, true, true, true, true, true, false] rfl rfl (one_of HT_.out (by kernel_rfl)) (by decide) (fun K hK => ?_)
               refine goes_ Try.func52 (by kernel_rfl) rfl #[.agg #[.int .i64 ((rd_T65 l0 x13_1).f0), .int .i64 ((rd_T65 l0 x13_1).f1), .string ((rd_T65 l0 x13_1).f2), .string ((rd_T65 l0 x13_1).f3), .int .u8 ((rd_T65 l0 x13_1).f4.f0), .int .u64 ((rd_T65 l0 x13_1).f4.f1), .string ((rd_T65 l0 x13_1).f4.f2), .slice A124_7 ((rd_T65 l0 x13_1).f5).length c124_7, .slice A124_8 ((rd_T65 l0 x13_1).f6).length c124_8, .int .u8 ((rd_T65 l0 x13_1).f7), .int .i64 ((rd_T65 l0 x13_1).f8), .int .i64 ((rd_T65 l0 x13_1).f9), .int .i64 ((rd_T65 l0 x13_1).f10), .int .i64 ((rd_T65 l0 x13_1).f11)], .agg #[.int .i64 ((rd_T65 l1 x13_1).f0), .int .i64 ((rd_T65 l1 x13_1).f1), .string ((rd_T65 l1 x13_1).f2), .string ((rd_T65 l1 x13_1).f3), .int .u8 ((rd_T65 l1 x13_1).f4.f0), .int .u64 ((rd_T65 l1 x13_1).f4.f1), .string ((rd_T65 l1 x13_1).f4.f2), .slice A125_7 ((rd_T65 l1 x13_1).f5).length c125_7, .slice A125_8 ((rd_T65 l1 x13_1).f6).length c125_8, .int .u8 ((rd_T65 l1 x13_1).f7), .int .i64 ((rd_T65 l1 x13_1).f8), .int .i64 ((rd_T65 l1 x13_1).f9), .int .i64 ((rd_T65 l1 x13_1).f10), .int .i64 ((rd_T65 l1 x13_1).f11)]] (by rfl) rfl rfl (by (try simp only [List.map_toArray, List.map_cons, List.map_nil]); first | done | rfl | (simp only [List.length_drop, List.length_take]; rfl)) ?_
               with_reducible refine (hFn ((rd_T65 l0 x13_1).f0) ((rd_T65 l0 x13_1).f1) ((rd_T65 l0 x13_1).f2) ((rd_T65 l0 x13_1).f3) ((rd_T65 l0 x13_1).f4.f0) ((rd_T65 l0 x13_1).f4.f1) ((rd_T65 l0 x13_1).f4.f2) _ _ ((rd_T65 l0 x13_1).f5) _ _ ((rd_T65 l0 x13_1).f6) ((rd_T65 l0 x13_1).f7) ((rd_T65 l0 x13_1).f8) ((rd_T65 l0 x13_1).f9) ((rd_T65 l0 x13_1).f10) ((rd_T65 l0 x13_1).f11) ((rd_T65 l1 x13_1).f0) ((rd_T65 l1 x13_1).f1) ((rd_T65 l1 x13_1).f2) ((rd_T65 l1 x13_1).f3) ((rd_T65 l1 x13_1).f4.f0) ((rd_T65 l1 x13_1).f4.f1) ((rd_T65 l1 x13_1).f4.f2) _ _ ((rd_T65 l1 x13_1).f5) _ _ ((rd_T65 l1 x13_1).f6) ((rd_T65 l1 x13_1).f7) ((rd_T65 l1 x13_1).f8) ((rd_T65 l1 x13_1).f9) ((rd_T65 l1 x13_1).f10) ((rd_T65 l1 x13_1).f11) false _ ?side1 ?side2 ?side3 ?side4 ?side5 ?side6 ?side7 ?side8 A8.out).mono ?_
               (case side1 => repeat (first | exact (Kd.C_below HR124_7.out HB.out) | (with_reducible refine Kd.C_alloc ?_ _) | (with_reducible refine Kd.C_drewN ?_ _) | (with_reducible refine Kd.C_drew ?_)))
               (case side2 => exact HC124_7.out)
               (case side3 => repeat (first | exact (Kd.C_below HR124_8.out HB.out) | (with_reducible refine Kd.C_alloc ?_ _) | (with_reducible refine Kd.C_drewN ?_ _) | (with_reducible refine Kd.C_drew ?_)))
               (case side4 => exact HC124_8.out)
               (case side5 => repeat (first | exact (Kd.C_below HR125_7.out HB.out) | (with_reducible refine Kd.C_alloc ?_ _) | (with_reducible refine Kd.C_drewN ?_ _) | (with_reducible refine Kd.C_drew ?_)))
               (case side6 => exact HC125_7.out)
               (case side7 => repeat (first | exact (Kd.C_below HR125_8.out HB.out) | (with_reducible refine Kd.C_alloc ?_ _) | (with_reducible refine Kd.C_drewN ?_ _) | (with_reducible refine Kd.C_drew ?_)))
               (case side8 => exact HC125_8.out)
               rintro e w13 ⟨rfl, hb⟩
               refine ⟨_, rfl, ?_⟩
               have n0_ := Aside0.mk (below_step (by repeat (first | (with_reducible first | exact HB.out | apply below_alloc | apply pw_below_drewN | apply below_drew1) | exact HB.out)) hb)
               clear HB
               have HB := n0_
               clear n0_
               (try clear hb)
               (try clear hb2)
               (try clear hk)
               (try clear hi)
               refine hK.out _ _ ⟨((HB.out.cell (World.block_lt_of_cell? w _ hw124_0)).trans hw124_0), ((HB.out.cell (World.block_lt_of_cell? w _ hw124_1)).trans hw124_1), ((HB.out.cell (World.block_lt_of_cell? w _ hw124_2)).trans hw124_2), ((HB.out.cell (World.block_lt_of_cell? w _ hw124_3)).trans hw124_3), ((HB.out.cell (World.block_lt_of_cell? w _ hw124_4)).trans hw124_4), ((HB.out.cell (World.block_lt_of_cell? w _ hw124_5)).trans hw124_5), ((HB.out.cell (World.block_lt_of_cell? w _ hw124_6)).trans hw124_6), ((HB.out.cell (World.block_lt_of_cell? w _ hw124_7)).trans hw124_7), ((HB.out.cell (World.block_lt_of_cell? w _ hw124_8)).trans hw124_8), ((HB.out.cell (World.block_lt_of_cell? w _ hw124_9)).trans hw124_9), ((HB.out.cell (World.block_lt_of_cell? w _ hw124_10)).trans hw124_10), ((HB.out.cell (World.block_lt_of_cell? w _ hw124_11)).trans hw124_11), ((HB.out.cell (World.block_lt_of_cell? w _ hw124_12)).trans hw124_12), ((HB.out.cell (World.block_lt_of_cell? w _ hw124_13)).trans hw124_13), ((HB.out.cell (World.block_lt_of_cell? w _ hw125_0)).trans hw125_0), ((HB.out.cell (World.block_lt_of_cell? w _ hw125_1)).trans hw125_1), ((HB.out.cell (World.block_lt_of_cell? w _ hw125_2)).trans hw125_2), ((HB.out.cell (World.block_lt_of_cell? w _ hw125_3)).trans hw125_3), ((HB.out.cell (World.block_lt_of_cell? w _ hw125_4)).trans hw125_4), ((HB.out.cell (World.block_lt_of_cell? w _ hw125_5)).trans hw125_5), ((HB.out.cell (World.block_lt_of_cell? w _ hw125_6)).trans hw125_6), ((HB.out.cell (World.block_lt_of_cell? w _ hw125_7)).trans hw125_7), ((HB.out.cell (World.block_lt_of_cell? w _ hw125_8)).trans hw125_8), ((HB.out.cell (World.block_lt_of_cell? w _ hw125_9)).trans hw125_9), ((HB.out.cell (World.block_lt_of_cell? w _ hw125_10)).trans hw125_10), ((HB.out.cell (World.block_lt_of_cell? w _ hw125_11)).trans hw125_11), ((HB.out.cell (World.block_lt_of_cell? w _ hw125_12)).trans hw125_12), ((HB.out.cell (World.block_lt_of_cell? w _ hw125_13)).trans hw125_13)⟩ (fun hHeld => ?_)
               clear hK K
               refine norm_ (a' := ?_) ?_ ?_
               rotate_left
               · show Act.put _ (some 24) _ = _
                 simp only [Act.put, List.setIfInBounds_toArray, List.set_cons_zero, List.set_cons_succ, i64_w, i32_w]
                 rfl
               refine pure_ (i := 9) (N := some 25) (v := ?_) (a' := ?_) #[true, true, true, true, true, true, true, true, true, true] rfl rfl (any_of HT_.out (by kernel_rfl)) (fun _ _ _ h => h) (Or.inl ⟨by rfl, ?_⟩) ?_ ?_
               rotate_left
               · intro w'
                 go_simp
                 with_reducible rfl
               rotate_left
               · simp only [Act.put, List.setIfInBounds_toArray, List.set_cons_zero, List.set_cons_succ, i64_w, i32_w]
                 rfl
               refine done_ (done_of HT_.out (by kernel_rfl)) ?_
               try go_wp2
               go_ret
               exact ⟨by first | rfl | (simp [errW_none, errW_some] <;> rfl) | (simp [*, errW_none, errW_some] <;> rfl), by repeat (first | (with_reducible first | exact HB.out | apply below_alloc | apply pw_below_drewN | apply below_drew1) | exact HB.out)⟩
           · rw [if_neg c7] at H
             exact absurd H (by simp)
         · rw [if_neg c6] at H
           exact absurd H (by simp)
       · rw [if_neg c5] at H
         exact absurd H (by simp)
     · rw [if_neg c4] at H
       have c4b0 : decide (x13_1 < (l0.length : Int)) = false := decide_eq_false c4
       clear c4
       obtain rfl := Option.some.inj H
       go_wp2
       go_ret
       exact ⟨by first | rfl | (simp [errW_none, errW_some] <;> rfl) | (simp [*, errW_none, errW_some] <;> rfl), by repeat (first | (with_reducible first | exact HB.out | apply below_alloc | apply pw_below_drewN | apply below_drew1) | exact HB.out)⟩
 · rw [if_neg c3] at H
   have c3b0 : ((l0.length : Int) == (l1.length : Int)) = false := beq_eq_false_iff_ne.mpr c3
   have c3b1 : ((l0.length : Int) != (l1.length : Int)) = true := bne_iff_ne.mpr c3
   have c3b2 : (l0.length == l1.length) = false := by first | simpa using c3 | (simp at c3 ⊢; omega)
   obtain rfl := Option.some.inj H
   go_enter Try.func28, Try.ntmps28
   go_wp2
   go_ret
   exact ⟨by first | rfl | (simp [errW_none, errW_some] <;> rfl) | (simp [*, errW_none, errW_some] <;> rfl), by repeat (first | (with_reducible first | exact HB.out | apply below_alloc | apply pw_below_drewN | apply below_drew1) | exact HB.out)⟩

/-! #### All together, by recursion on a number -/
def relayref05_sameExprs.rec : Nat → List (S65) → List (S65) → Option (Bool)
 | 0 => fun _ _ => none
 | n + 1 => relayref05_sameExprs.fOf (relayref05_SameExpr.fOf (relayref05_sameExprs.rec n) (n + 1)) (n + 1)
def relayref05_sameExprs.f (k : Nat) (l0 : List (S65)) (l1 : List (S65)) : Option (Bool) := relayref05_sameExprs.rec k l0 l1
theorem relayref05_sameExprs.mono : ∀ z0_0 z0_1 k, LeO (relayref05_sameExprs.f k z0_0 z0_1) (relayref05_sameExprs.f (k + 1) z0_0 z0_1) := by
 intro z0_0 z0_1 k
 induction k generalizing z0_0 z0_1 with
 | zero => exact LeO.none _
 | succ n ih => exact relayref05_sameExprs.monoOf _ _ (fun z1_0 z1_1 z1_2 z1_3 z1_4 z1_5 z1_6 z1_7 z1_8 z1_9 z1_10 z1_11 z1_12 z1_13 z1_14 z1_15 z1_16 z1_17 z1_18 z1_19 z1_20 z1_21 z1_22 z1_23 z1_24 z1_25 z1_26 z1_27 => relayref05_SameExpr.monoOf _ _ ih z1_0 z1_1 z1_2 z1_3 z1_4 z1_5 z1_6 z1_7 z1_8 z1_9 z1_10 z1_11 z1_12 z1_13 z1_14 z1_15 z1_16 z1_17 z1_18 z1_19 z1_20 z1_21 z1_22 z1_23 z1_24 z1_25 z1_26 z1_27 (n + 1)) z0_0 z0_1 (n + 1)
theorem relayref05_sameExprs.calls (k : Nat) : ∀ (A0 : Option Addr) (c0 : Nat) (l0 : List (S65)) (A1 : Option Addr) (c1 : Nat) (l1 : List (S65)) (r : Bool) (w : World) (hr0 : Kd.C k65 w A0 l0.length l0) (hc0 : l0.length ≤ c0) (hr1 : Kd.C k65 w A1 l1.length l1) (hc1 : l1.length ≤ c1) (h : relayref05_sameExprs.f k l0 l1 = some r),
 Calls Try.prog 28 #[.slice A0 l0.length c0, .slice A1 l1.length c1] w fun e w' => e = .returned (.bool r) ∧ Below w.heap.size w w' := by
 induction k with
 | zero => intro A0 c0 l0 A1 c1 l1 r w hr0 hc0 hr1 hc1 h; cases h
 | succ n ih => exact relayref05_sameExprs.callsOf _ (fun a0_0 a0_1 a0_2 a0_3 a0_4 a0_5 a0_6 A0_7 c0_7 l0_7 A0_8 c0_8 l0_8 a0_9 a0_10 a0_11 a0_12 a0_13 a1_0 a1_1 a1_2 a1_3 a1_4 a1_5 a1_6 A1_7 c1_7 l1_7 A1_8 c1_8 l1_8 a1_9 a1_10 a1_11 a1_12 a1_13 r w hr0_7 hc0_7 hr0_8 hc0_8 hr1_7 hc1_7 hr1_8 hc1_8 h => relayref05_SameExpr.callsOf _ ih (n + 1) a0_0 a0_1 a0_2 a0_3 a0_4 a0_5 a0_6 A0_7 c0_7 l0_7 A0_8 c0_8 l0_8 a0_9 a0_10 a0_11 a0_12 a0_13 a1_0 a1_1 a1_2 a1_3 a1_4 a1_5 a1_6 A1_7 c1_7 l1_7 A1_8 c1_8 l1_8 a1_9 a1_10 a1_11 a1_12 a1_13 r w hr0_7 hc0_7 hr0_8 hc0_8 hr1_7 hc1_7 hr1_8 hc1_8 h) (n + 1)
def relayref05_SameExpr.f (k : Nat) (a0_0 : Int) (a0_1 : Int) (a0_2 : ByteArray) (a0_3 : ByteArray) (a0_4 : Int) (a0_5 : Int) (a0_6 : ByteArray) (l0_7 : List (S65)) (l0_8 : List ByteArray) (a0_9 : Int) (a0_10 : Int) (a0_11 : Int) (a0_12 : Int) (a0_13 : Int) (a1_0 : Int) (a1_1 : Int) (a1_2 : ByteArray) (a1_3 : ByteArray) (a1_4 : Int) (a1_5 : Int) (a1_6 : ByteArray) (l1_7 : List (S65)) (l1_8 : List ByteArray) (a1_9 : Int) (a1_10 : Int) (a1_11 : Int) (a1_12 : Int) (a1_13 : Int) : Option (Bool) := relayref05_SameExpr.fOf (relayref05_sameExprs.rec k) (k + 1) a0_0 a0_1 a0_2 a0_3 a0_4 a0_5 a0_6 l0_7 l0_8 a0_9 a0_10 a0_11 a0_12 a0_13 a1_0 a1_1 a1_2 a1_3 a1_4 a1_5 a1_6 l1_7 l1_8 a1_9 a1_10 a1_11 a1_12 a1_13
theorem relayref05_SameExpr.mono : ∀ z1_0 z1_1 z1_2 z1_3 z1_4 z1_5 z1_6 z1_7 z1_8 z1_9 z1_10 z1_11 z1_12 z1_13 z1_14 z1_15 z1_16 z1_17 z1_18 z1_19 z1_20 z1_21 z1_22 z1_23 z1_24 z1_25 z1_26 z1_27 k, LeO (relayref05_SameExpr.f k z1_0 z1_1 z1_2 z1_3 z1_4 z1_5 z1_6 z1_7 z1_8 z1_9 z1_10 z1_11 z1_12 z1_13 z1_14 z1_15 z1_16 z1_17 z1_18 z1_19 z1_20 z1_21 z1_22 z1_23 z1_24 z1_25 z1_26 z1_27) (relayref05_SameExpr.f (k + 1) z1_0 z1_1 z1_2 z1_3 z1_4 z1_5 z1_6 z1_7 z1_8 z1_9 z1_10 z1_11 z1_12 z1_13 z1_14 z1_15 z1_16 z1_17 z1_18 z1_19 z1_20 z1_21 z1_22 z1_23 z1_24 z1_25 z1_26 z1_27) := fun z1_0 z1_1 z1_2 z1_3 z1_4 z1_5 z1_6 z1_7 z1_8 z1_9 z1_10 z1_11 z1_12 z1_13 z1_14 z1_15 z1_16 z1_17 z1_18 z1_19 z1_20 z1_21 z1_22 z1_23 z1_24 z1_25 z1_26 z1_27 k => relayref05_SameExpr.monoOf _ _ (fun z0_0 z0_1 => relayref05_sameExprs.mono z0_0 z0_1 k) z1_0 z1_1 z1_2 z1_3 z1_4 z1_5 z1_6 z1_7 z1_8 z1_9 z1_10 z1_11 z1_12 z1_13 z1_14 z1_15 z1_16 z1_17 z1_18 z1_19 z1_20 z1_21 z1_22 z1_23 z1_24 z1_25 z1_26 z1_27 (k + 1)
theorem relayref05_SameExpr.calls (k : Nat) : ∀ (a0_0 : Int) (a0_1 : Int) (a0_2 : ByteArray) (a0_3 : ByteArray) (a0_4 : Int) (a0_5 : Int) (a0_6 : ByteArray) (A0_7 : Option Addr) (c0_7 : Nat) (l0_7 : List (S65)) (A0_8 : Option Addr) (c0_8 : Nat) (l0_8 : List ByteArray) (a0_9 : Int) (a0_10 : Int) (a0_11 : Int) (a0_12 : Int) (a0_13 : Int) (a1_0 : Int) (a1_1 : Int) (a1_2 : ByteArray) (a1_3 : ByteArray) (a1_4 : Int) (a1_5 : Int) (a1_6 : ByteArray) (A1_7 : Option Addr) (c1_7 : Nat) (l1_7 : List (S65)) (A1_8 : Option Addr) (c1_8 : Nat) (l1_8 : List ByteArray) (a1_9 : Int) (a1_10 : Int) (a1_11 : Int) (a1_12 : Int) (a1_13 : Int) (r : Bool) (w : World) (hr0_7 : Kd.C k65 w A0_7 l0_7.length l0_7) (hc0_7 : l0_7.length ≤ c0_7) (hr0_8 : Kd.C Kd.string w A0_8 l0_8.length l0_8) (hc0_8 : l0_8.length ≤ c0_8) (hr1_7 : Kd.C k65 w A1_7 l1_7.length l1_7) (hc1_7 : l1_7.length ≤ c1_7) (hr1_8 : Kd.C Kd.string w A1_8 l1_8.length l1_8) (hc1_8 : l1_8.length ≤ c1_8) (h : relayref05_SameExpr.f k a0_0 a0_1 a0_2 a0_3 a0_4 a0_5 a0_6 l0_7 l0_8 a0_9 a0_10 a0_11 a0_12 a0_13 a1_0 a1_1 a1_2 a1_3 a1_4 a1_5 a1_6 l1_7 l1_8 a1_9 a1_10 a1_11 a1_12 a1_13 = some r),
 Calls Try.prog 52 #[.agg #[.int .i64 a0_0, .int .i64 a0_1, .string a0_2, .string a0_3, .int .u8 a0_4, .int .u64 a0_5, .string a0_6, .slice A0_7 l0_7.length c0_7, .slice A0_8 l0_8.length c0_8, .int .u8 a0_9, .int .i64 a0_10, .int .i64 a0_11, .int .i64 a0_12, .int .i64 a0_13], .agg #[.int .i64 a1_0, .int .i64 a1_1, .string a1_2, .string a1_3, .int .u8 a1_4, .int .u64 a1_5, .string a1_6, .slice A1_7 l1_7.length c1_7, .slice A1_8 l1_8.length c1_8, .int .u8 a1_9, .int .i64 a1_10, .int .i64 a1_11, .int .i64 a1_12, .int .i64 a1_13]] w fun e w' => e = .returned (.bool r) ∧ Below w.heap.size w w' := fun a0_0 a0_1 a0_2 a0_3 a0_4 a0_5 a0_6 A0_7 c0_7 l0_7 A0_8 c0_8 l0_8 a0_9 a0_10 a0_11 a0_12 a0_13 a1_0 a1_1 a1_2 a1_3 a1_4 a1_5 a1_6 A1_7 c1_7 l1_7 A1_8 c1_8 l1_8 a1_9 a1_10 a1_11 a1_12 a1_13 r w hr0_7 hc0_7 hr0_8 hc0_8 hr1_7 hc1_7 hr1_8 hc1_8 h => relayref05_SameExpr.callsOf _ (relayref05_sameExprs.calls k) (k + 1) a0_0 a0_1 a0_2 a0_3 a0_4 a0_5 a0_6 A0_7 c0_7 l0_7 A0_8 c0_8 l0_8 a0_9 a0_10 a0_11 a0_12 a0_13 a1_0 a1_1 a1_2 a1_3 a1_4 a1_5 a1_6 A1_7 c1_7 l1_7 A1_8 c1_8 l1_8 a1_9 a1_10 a1_11 a1_12 a1_13 r w hr0_7 hc0_7 hr0_8 hc0_8 hr1_7 hc1_7 hr1_8 hc1_8 h

end Go.Proofs.Ytmdkbhbconnmmaa.XIl
