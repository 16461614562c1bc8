-- WRITTEN BY wip/tools/xprint.py out of the translation: the kit's print with this work's hooks.
import Derived.Test.YtmdkbhbconnmmaaXIlx0
import Derived.Test.YtmdkbhbconnmmaaXIlx4
namespace Go.Proofs.Ytmdkbhbconnmmaa.XIl
open Go.RowKit Go.Proofs.YtmdkbhbconnmmaaW.PrintWords Go.Proofs.YtmdkbhbconnmmaaW.PrintLast Go.Proofs.YtmdkbhbconnmmaaW.PrintMore
attribute [local go_sem] max2_int min2_int max_two min_two max_three min_three max_four min_four   -- for this text's walks alone
set_option linter.unusedVariables false
set_option linter.unusedSimpArgs false

/-! ### relayplain_SameExprs: function 49 -/
theorem eqC63 (d : Nat) (w : World) (x0 y0 : Int) (x1 y1 : Int) (x2 y2 : ByteArray) :
 (Op.equalIn (d + 2) 63 (.agg #[.int .u8 x0, .int .u64 x1, .string x2]) (.agg #[.int .u8 y0, .int .u64 y1, .string y2])).run Try.prog w = .ok (x0 == y0 && (x1 == y1 && (x2.toList == y2.toList))) w := by
 refine eqA_of Try.underlying63 (by kernel_rfl) ?_
 refine eqf_cons (by rfl) (by go_simp; rfl) (by go_simp; rfl) (by go_simp) ?_
 refine eqf_cons (by rfl) (by go_simp; rfl) (by go_simp; rfl) (by go_simp) ?_
 exact eqf_last (by rfl) (by go_simp; rfl) (by go_simp; rfl) (by go_simp)
attribute [local go_sem high] eqC63
/-! #### relayplain_SameExpr, over relayplain_SameExprs -/
def relayplain_SameExpr.j0Of (Fn : List (S65) → List (S65) → Option (Bool)) : Nat → Bool → Int → Int → ByteArray → ByteArray → Int → Int → ByteArray → List (S65) → List ByteArray → Int → Int → Int → Int → Int → Int → Int → ByteArray → ByteArray → Int → Int → ByteArray → List (S65) → List ByteArray → Int → Int → Int → Int → Int → Option (Bool)
 | 0, _, _, _, _, _, _, _, _, _, _, _, _, _, _, _, _, _, _, _, _, _, _, _, _, _, _, _, _, _ => none
 | k + 1, x44, x118000, x118001, x118002, x118003, x118004, x118005, x118006, x118007, x118008, x118009, x118010, x118011, x118012, x118013, x119000, x119001, x119002, x119003, x119004, x119005, x119006, x119007, x119008, x119009, x119010, x119011, x119012, x119013 => if x44 = true then (some false) else (if x118010 = x119010 then (if x118011 = x119011 then (if x118012 = x119012 then (if x118013 = x119013 then ((slices_Equal_string_string.f k x118008 x119008).bind fun t119 => (if t119 = true then ((Fn x118007 x119007).bind fun t120 => (some t120)) else (some false))) else (some false)) else (some false)) else (some false)) else (some false))
def relayplain_SameExpr.fOf (Fn : List (S65) → List (S65) → Option (Bool)) (k : Nat) (a0_0 : Int) (a0_1 : Int) (a0_2 : ByteArray) (a0_3 : ByteArray) (a0_4 : Int) (a0_5 : Int) (a0_6 : ByteArray) (l0_7 : List (S65)) (l0_8 : List ByteArray) (a0_9 : Int) (a0_10 : Int) (a0_11 : Int) (a0_12 : Int) (a0_13 : Int) (a1_0 : Int) (a1_1 : Int) (a1_2 : ByteArray) (a1_3 : ByteArray) (a1_4 : Int) (a1_5 : Int) (a1_6 : ByteArray) (l1_7 : List (S65)) (l1_8 : List ByteArray) (a1_9 : Int) (a1_10 : Int) (a1_11 : Int) (a1_12 : Int) (a1_13 : Int) : Option (Bool) := if a0_0 = a1_0 then (if a0_1 = a1_1 then (if a0_2.toList = a1_2.toList then (if a0_3.toList = a1_3.toList then (if (!(a0_4 == a1_4) || (!(a0_5 == a1_5) || (!(a0_6.toList == a1_6.toList)))) = true then (relayplain_SameExpr.j0Of Fn k true a0_0 a0_1 a0_2 a0_3 a0_4 a0_5 a0_6 l0_7 l0_8 a0_9 a0_10 a0_11 a0_12 a0_13 a1_0 a1_1 a1_2 a1_3 a1_4 a1_5 a1_6 l1_7 l1_8 a1_9 a1_10 a1_11 a1_12 a1_13) else (relayplain_SameExpr.j0Of Fn k (a0_9 != a1_9) a0_0 a0_1 a0_2 a0_3 a0_4 a0_5 a0_6 l0_7 l0_8 a0_9 a0_10 a0_11 a0_12 a0_13 a1_0 a1_1 a1_2 a1_3 a1_4 a1_5 a1_6 l1_7 l1_8 a1_9 a1_10 a1_11 a1_12 a1_13)) else (relayplain_SameExpr.j0Of Fn k true a0_0 a0_1 a0_2 a0_3 a0_4 a0_5 a0_6 l0_7 l0_8 a0_9 a0_10 a0_11 a0_12 a0_13 a1_0 a1_1 a1_2 a1_3 a1_4 a1_5 a1_6 l1_7 l1_8 a1_9 a1_10 a1_11 a1_12 a1_13)) else (relayplain_SameExpr.j0Of Fn k true a0_0 a0_1 a0_2 a0_3 a0_4 a0_5 a0_6 l0_7 l0_8 a0_9 a0_10 a0_11 a0_12 a0_13 a1_0 a1_1 a1_2 a1_3 a1_4 a1_5 a1_6 l1_7 l1_8 a1_9 a1_10 a1_11 a1_12 a1_13)) else (relayplain_SameExpr.j0Of Fn k true a0_0 a0_1 a0_2 a0_3 a0_4 a0_5 a0_6 l0_7 l0_8 a0_9 a0_10 a0_11 a0_12 a0_13 a1_0 a1_1 a1_2 a1_3 a1_4 a1_5 a1_6 l1_7 l1_8 a1_9 a1_10 a1_11 a1_12 a1_13)) else (relayplain_SameExpr.j0Of Fn k true a0_0 a0_1 a0_2 a0_3 a0_4 a0_5 a0_6 l0_7 l0_8 a0_9 a0_10 a0_11 a0_12 a0_13 a1_0 a1_1 a1_2 a1_3 a1_4 a1_5 a1_6 l1_7 l1_8 a1_9 a1_10 a1_11 a1_12 a1_13)

theorem relayplain_SameExpr.mono_lOf (Fn Fn' : List (S65) → List (S65) → Option (Bool)) (hle_ : ∀ z0 z1, LeO (Fn z0 z1) (Fn' z0 z1)) : ∀ k, (∀ y0 y1 y2 y3 y4 y5 y6 y7 y8 y9 y10 y11 y12 y13 y14 y15 y16 y17 y18 y19 y20 y21 y22 y23 y24 y25 y26 y27 y28, LeO (relayplain_SameExpr.j0Of Fn k y0 y1 y2 y3 y4 y5 y6 y7 y8 y9 y10 y11 y12 y13 y14 y15 y16 y17 y18 y19 y20 y21 y22 y23 y24 y25 y26 y27 y28) (relayplain_SameExpr.j0Of Fn' (k + 1) y0 y1 y2 y3 y4 y5 y6 y7 y8 y9 y10 y11 y12 y13 y14 y15 y16 y17 y18 y19 y20 y21 y22 y23 y24 y25 y26 y27 y28))
 | 0 => fun _ _ _ _ _ _ _ _ _ _ _ _ _ _ _ _ _ _ _ _ _ _ _ _ _ _ _ _ _ r h => by simp [relayplain_SameExpr.j0Of] at h
 | k + 1 => by
  have ih0 := relayplain_SameExpr.mono_lOf Fn Fn' hle_ k
  · intro y0 y1 y2 y3 y4 y5 y6 y7 y8 y9 y10 y11 y12 y13 y14 y15 y16 y17 y18 y19 y20 y21 y22 y23 y24 y25 y26 y27 y28
    unfold relayplain_SameExpr.j0Of
    repeat' first
    | (with_reducible exact ih0 _ _ _ _ _ _ _ _ _ _ _ _ _ _ _ _ _ _ _ _ _ _ _ _ _ _ _ _ _)
    | (with_reducible exact hle_ _ _)
    | (with_reducible exact slices_Equal_string_string.mono _ _ _)
    | (with_reducible exact LeO.refl _)
    | (with_reducible exact LeO.none _)
    | (with_reducible refine LeO.ite ?_ ?_)
    | (with_reducible refine LeO.bind ?_ (fun _ => ?_))
    | exact ih0 _ _ _ _ _ _ _ _ _ _ _ _ _ _ _ _ _ _ _ _ _ _ _ _ _ _ _ _ _
    | exact hle_ _ _
    | exact slices_Equal_string_string.mono _ _ _
    | exact LeO.none _
    | refine LeO.ite ?_ ?_
    | refine LeO.bind ?_ (fun _ => ?_)
theorem relayplain_SameExpr.monoOf (Fn Fn' : List (S65) → List (S65) → Option (Bool)) (hle_ : ∀ z0 z1, LeO (Fn z0 z1) (Fn' z0 z1)) : ∀ a0 a1 a2 a3 a4 a5 a6 a7 a8 a9 a10 a11 a12 a13 a14 a15 a16 a17 a18 a19 a20 a21 a22 a23 a24 a25 a26 a27 k, LeO (relayplain_SameExpr.fOf Fn k a0 a1 a2 a3 a4 a5 a6 a7 a8 a9 a10 a11 a12 a13 a14 a15 a16 a17 a18 a19 a20 a21 a22 a23 a24 a25 a26 a27) (relayplain_SameExpr.fOf Fn' (k + 1) a0 a1 a2 a3 a4 a5 a6 a7 a8 a9 a10 a11 a12 a13 a14 a15 a16 a17 a18 a19 a20 a21 a22 a23 a24 a25 a26 a27) := by
 intro a0 a1 a2 a3 a4 a5 a6 a7 a8 a9 a10 a11 a12 a13 a14 a15 a16 a17 a18 a19 a20 a21 a22 a23 a24 a25 a26 a27 k
 have ih0 := relayplain_SameExpr.mono_lOf Fn Fn' hle_ k
 unfold relayplain_SameExpr.fOf
 repeat' first
  | (with_reducible exact ih0 _ _ _ _ _ _ _ _ _ _ _ _ _ _ _ _ _ _ _ _ _ _ _ _ _ _ _ _ _)
  | (with_reducible exact hle_ _ _)
  | (with_reducible exact slices_Equal_string_string.mono _ _ _)
  | (with_reducible exact LeO.refl _)
  | (with_reducible exact LeO.none _)
  | (with_reducible refine LeO.ite ?_ ?_)
  | (with_reducible refine LeO.bind ?_ (fun _ => ?_))
  | exact ih0 _ _ _ _ _ _ _ _ _ _ _ _ _ _ _ _ _ _ _ _ _ _ _ _ _ _ _ _ _
  | exact hle_ _ _
  | exact slices_Equal_string_string.mono _ _ _
  | exact LeO.none _
  | refine LeO.ite ?_ ?_
  | refine LeO.bind ?_ (fun _ => ?_)

set_option maxHeartbeats 8000000 in
set_option maxRecDepth 100000 in
theorem relayplain_SameExpr.callsOf (Fn : List (S65) → List (S65) → Option (Bool)) (hFn : ∀ (A0 : Option Addr) (c0 : Nat) (l0 : List (S65)) (A1 : Option Addr) (c1 : Nat) (l1 : List (S65)) (r : Bool) (w : World) (hr0 : Kd.C k65 w A0 l0.length l0) (hc0 : l0.length ≤ c0) (hr1 : Kd.C k65 w A1 l1.length l1) (hc1 : l1.length ≤ c1) (h : Fn l0 l1 = some r), Calls Try.prog 49 #[.slice A0 l0.length c0, .slice A1 l1.length c1] w fun e w' => e = .returned (.bool r) ∧ Below w.heap.size w w') (k : Nat) (a0_0 : Int) (a0_1 : Int) (a0_2 : ByteArray) (a0_3 : ByteArray) (a0_4 : Int) (a0_5 : Int) (a0_6 : ByteArray) (A0_7 : Option Addr) (c0_7 : Nat) (l0_7 : List (S65)) (A0_8 : Option Addr) (c0_8 : Nat) (l0_8 : List ByteArray) (a0_9 : Int) (a0_10 : Int) (a0_11 : Int) (a0_12 : Int) (a0_13 : Int) (a1_0 : Int) (a1_1 : Int) (a1_2 : ByteArray) (a1_3 : ByteArray) (a1_4 : Int) (a1_5 : Int) (a1_6 : ByteArray) (A1_7 : Option Addr) (c1_7 : Nat) (l1_7 : List (S65)) (A1_8 : Option Addr) (c1_8 : Nat) (l1_8 : List ByteArray) (a1_9 : Int) (a1_10 : Int) (a1_11 : Int) (a1_12 : Int) (a1_13 : Int) (r : Bool) (w : World) (hr0_7 : Kd.C k65 w A0_7 l0_7.length l0_7) (hc0_7 : l0_7.length ≤ c0_7) (hr0_8 : Kd.C Kd.string w A0_8 l0_8.length l0_8) (hc0_8 : l0_8.length ≤ c0_8) (hr1_7 : Kd.C k65 w A1_7 l1_7.length l1_7) (hc1_7 : l1_7.length ≤ c1_7) (hr1_8 : Kd.C Kd.string w A1_8 l1_8.length l1_8) (hc1_8 : l1_8.length ≤ c1_8) (h : relayplain_SameExpr.fOf Fn k a0_0 a0_1 a0_2 a0_3 a0_4 a0_5 a0_6 l0_7 l0_8 a0_9 a0_10 a0_11 a0_12 a0_13 a1_0 a1_1 a1_2 a1_3 a1_4 a1_5 a1_6 l1_7 l1_8 a1_9 a1_10 a1_11 a1_12 a1_13 = some r) :
 Calls Try.prog 43 #[.agg #[.int .i64 a0_0, .int .i64 a0_1, .string a0_2, .string a0_3, .int .u8 a0_4, .int .u64 a0_5, .string a0_6, .slice A0_7 l0_7.length c0_7, .slice A0_8 l0_8.length c0_8, .int .u8 a0_9, .int .i64 a0_10, .int .i64 a0_11, .int .i64 a0_12, .int .i64 a0_13], .agg #[.int .i64 a1_0, .int .i64 a1_1, .string a1_2, .string a1_3, .int .u8 a1_4, .int .u64 a1_5, .string a1_6, .slice A1_7 l1_7.length c1_7, .slice A1_8 l1_8.length c1_8, .int .u8 a1_9, .int .i64 a1_10, .int .i64 a1_11, .int .i64 a1_12, .int .i64 a1_13]] w fun e w' => e = .returned (.bool r) ∧ Below w.heap.size w w' := by
 have hu65 := Try.underlying65
 have hu63 := Try.underlying63
 have HR0_7 := Aside0.mk hr0_7
 have HC0_7 := Aside0.mk hc0_7
 clear hr0_7 hc0_7
 have HR0_8 := Aside0.mk hr0_8
 have HC0_8 := Aside0.mk hc0_8
 clear hr0_8 hc0_8
 have HR1_7 := Aside0.mk hr1_7
 have HC1_7 := Aside0.mk hc1_7
 clear hr1_7 hc1_7
 have HR1_8 := Aside0.mk hr1_8
 have HC1_8 := Aside0.mk hc1_8
 clear hr1_8 hc1_8
 have HB := Aside0.mk (Below.refl w.heap.size w)
 have H : (if a0_0 = a1_0 then (if a0_1 = a1_1 then (if a0_2.toList = a1_2.toList then (if a0_3.toList = a1_3.toList then (if (!(a0_4 == a1_4) || (!(a0_5 == a1_5) || (!(a0_6.toList == a1_6.toList)))) = true then (relayplain_SameExpr.j0Of Fn k true a0_0 a0_1 a0_2 a0_3 a0_4 a0_5 a0_6 l0_7 l0_8 a0_9 a0_10 a0_11 a0_12 a0_13 a1_0 a1_1 a1_2 a1_3 a1_4 a1_5 a1_6 l1_7 l1_8 a1_9 a1_10 a1_11 a1_12 a1_13) else (relayplain_SameExpr.j0Of Fn k (a0_9 != a1_9) a0_0 a0_1 a0_2 a0_3 a0_4 a0_5 a0_6 l0_7 l0_8 a0_9 a0_10 a0_11 a0_12 a0_13 a1_0 a1_1 a1_2 a1_3 a1_4 a1_5 a1_6 l1_7 l1_8 a1_9 a1_10 a1_11 a1_12 a1_13)) else (relayplain_SameExpr.j0Of Fn k true a0_0 a0_1 a0_2 a0_3 a0_4 a0_5 a0_6 l0_7 l0_8 a0_9 a0_10 a0_11 a0_12 a0_13 a1_0 a1_1 a1_2 a1_3 a1_4 a1_5 a1_6 l1_7 l1_8 a1_9 a1_10 a1_11 a1_12 a1_13)) else (relayplain_SameExpr.j0Of Fn k true a0_0 a0_1 a0_2 a0_3 a0_4 a0_5 a0_6 l0_7 l0_8 a0_9 a0_10 a0_11 a0_12 a0_13 a1_0 a1_1 a1_2 a1_3 a1_4 a1_5 a1_6 l1_7 l1_8 a1_9 a1_10 a1_11 a1_12 a1_13)) else (relayplain_SameExpr.j0Of Fn k true a0_0 a0_1 a0_2 a0_3 a0_4 a0_5 a0_6 l0_7 l0_8 a0_9 a0_10 a0_11 a0_12 a0_13 a1_0 a1_1 a1_2 a1_3 a1_4 a1_5 a1_6 l1_7 l1_8 a1_9 a1_10 a1_11 a1_12 a1_13)) else (relayplain_SameExpr.j0Of Fn k true a0_0 a0_1 a0_2 a0_3 a0_4 a0_5 a0_6 l0_7 l0_8 a0_9 a0_10 a0_11 a0_12 a0_13 a1_0 a1_1 a1_2 a1_3 a1_4 a1_5 a1_6 l1_7 l1_8 a1_9 a1_10 a1_11 a1_12 a1_13)) = some r := h
 clear h
 have HC3 := Aside0.mk H
 clear H
 go_enter Try.func43, Try.ntmps43
 go_upto_region 1 with (first | ((with_reducible refine gate_dst (N := 2) rfl ?_); refine box_event ?hg (N := 2) ?hd (cs := #[.int .i64 a0_0, .int .i64 a0_1, .string a0_2, .string a0_3, .int .u8 a0_4, .int .u64 a0_5, .string a0_6, .slice A0_7 l0_7.length c0_7, .slice A0_8 l0_8.length c0_8, .int .u8 a0_9, .int .i64 a0_10, .int .i64 a0_11, .int .i64 a0_12, .int .i64 a0_13]) (t := 65) ?hr ?_; (case hd => rfl); (case hg => rfl); (case hr => first | (go_simp; done) | (go_simp; rfl)); intro gb117 hg w4 hbox hb; have n0_ := Aside0.mk (below_step (by repeat (first | (with_reducible first | exact HB.out | apply below_alloc | apply pw_below_drewN | apply below_drew1) | exact HB.out)) hb); have n1_ := Aside0.mk (hbox); have n2_ := Aside0.mk ((by rw [hg]; exact (below_size (by repeat (first | (with_reducible first | exact HB.out | apply below_alloc | apply pw_below_drewN | apply below_drew1) | exact HB.out))) : w.heap.size ≤ gb117)); have n3_ := Aside0.mk ((by rw [hg]; exact (below_size (by repeat (first | (with_reducible first | exact HB.out | apply below_alloc | apply pw_below_drewN | apply below_drew1) | exact HB.out))) : w.heap.size ≤ gb117)); clear HB; have HB := n0_; have BK117 := n1_; have GW117 := n2_; have GE117 := n3_; clear n0_ n1_ n2_ n3_; clear hb hbox hg) | ((with_reducible refine gate_dst (N := 3) rfl ?_); refine box_event ?hg (N := 3) ?hd (cs := #[.int .i64 a1_0, .int .i64 a1_1, .string a1_2, .string a1_3, .int .u8 a1_4, .int .u64 a1_5, .string a1_6, .slice A1_7 l1_7.length c1_7, .slice A1_8 l1_8.length c1_8, .int .u8 a1_9, .int .i64 a1_10, .int .i64 a1_11, .int .i64 a1_12, .int .i64 a1_13]) (t := 65) ?hr ?_; (case hd => rfl); (case hg => rfl); (case hr => first | (go_simp; done) | (go_simp; rfl)); intro gb118 hg w5 hbox hb; have n0_ := Aside0.mk (blk_below (g := gb117) (by (with_reducible repeat (first | refine blk_drewN ?_ _ | refine blk_drew ?_ | refine blk_alloc ?_ _)); exact BK117.out) hb); have n1_ := Aside0.mk (below_step (by repeat (first | (with_reducible first | exact HB.out | apply below_alloc | apply pw_below_drewN | apply below_drew1 | refine below_set ?_ GE117.out) | exact HB.out)) hb); have n2_ := Aside0.mk (hbox); have n3_ := Aside0.mk ((by rw [hg]; exact (below_size (by repeat (first | (with_reducible first | exact HB.out | apply below_alloc | apply pw_below_drewN | apply below_drew1 | refine below_set ?_ GE117.out) | exact HB.out))) : w.heap.size ≤ gb118)); have n4_ := Aside0.mk ((by rw [hg]; exact (below_size (by repeat (first | (with_reducible first | exact HB.out | apply below_alloc | apply pw_below_drewN | apply below_drew1 | refine below_set ?_ GE117.out) | exact HB.out))) : w.heap.size ≤ gb118)); have n5_ := Aside0.mk ((by rw [hg]; exact Nat.ne_of_lt (blk_lt (g := gb117) (o := .cells #[.int .i64 a0_0, .int .i64 a0_1, .string a0_2, .string a0_3, .int .u8 a0_4, .int .u64 a0_5, .string a0_6, .slice A0_7 l0_7.length c0_7, .slice A0_8 l0_8.length c0_8, .int .u8 a0_9, .int .i64 a0_10, .int .i64 a0_11, .int .i64 a0_12, .int .i64 a0_13] 65 (0, 0)) (by (with_reducible repeat (first | refine blk_drewN ?_ _ | refine blk_drew ?_ | refine blk_alloc ?_ _)); exact BK117.out)) : gb117 ≠ gb118)); have n6_ := Aside0.mk ((by rw [hg]; exact Nat.ne_of_gt (blk_lt (g := gb117) (o := .cells #[.int .i64 a0_0, .int .i64 a0_1, .string a0_2, .string a0_3, .int .u8 a0_4, .int .u64 a0_5, .string a0_6, .slice A0_7 l0_7.length c0_7, .slice A0_8 l0_8.length c0_8, .int .u8 a0_9, .int .i64 a0_10, .int .i64 a0_11, .int .i64 a0_12, .int .i64 a0_13] 65 (0, 0)) (by (with_reducible repeat (first | refine blk_drewN ?_ _ | refine blk_drew ?_ | refine blk_alloc ?_ _)); exact BK117.out)) : gb118 ≠ gb117)); clear BK117; clear HB; have BK117 := n0_; have HB := n1_; have BK118 := n2_; have GW118 := n3_; have GE118 := n4_; have NB117_118 := n5_; have NB118_117 := n6_; clear n0_ n1_ n2_ n3_ n4_ n5_ n6_; clear hb hbox hg))
 (try simp only [Act.put, List.setIfInBounds_toArray, List.set_cons_zero, List.set_cons_succ])
 go_cut [44] (fun v44 wc => ∃ (kq : Nat) (x44_2 : Bool), v44 = .bool x44_2 ∧ Aside0 (relayplain_SameExpr.j0Of Fn kq x44_2 a0_0 a0_1 a0_2 a0_3 a0_4 a0_5 a0_6 l0_7 l0_8 a0_9 a0_10 a0_11 a0_12 a0_13 a1_0 a1_1 a1_2 a1_3 a1_4 a1_5 a1_6 l1_7 l1_8 a1_9 a1_10 a1_11 a1_12 a1_13 = some r) ∧ Aside0 (kq ≤ k) ∧ Aside0 (wc.heap[gb117]? = some (.cells #[.int .i64 a0_0, .int .i64 a0_1, .string a0_2, .string a0_3, .int .u8 a0_4, .int .u64 a0_5, .string a0_6, (.slice A0_7 l0_7.length c0_7), (.slice A0_8 l0_8.length c0_8), .int .u8 a0_9, .int .i64 a0_10, .int .i64 a0_11, .int .i64 a0_12, .int .i64 a0_13] 65 (0, 0))) ∧ Aside0 (wc.heap[gb118]? = some (.cells #[.int .i64 a1_0, .int .i64 a1_1, .string a1_2, .string a1_3, .int .u8 a1_4, .int .u64 a1_5, .string a1_6, (.slice A1_7 l1_7.length c1_7), (.slice A1_8 l1_8.length c1_8), .int .u8 a1_9, .int .i64 a1_10, .int .i64 a1_11, .int .i64 a1_12, .int .i64 a1_13] 65 (0, 0))) ∧ Aside0 (Below w.heap.size w wc))
 case first =>
  have H := HC3.out
  clear HC3
  by_cases c6 : a0_0 = a1_0
  · rw [if_pos c6] at H
    have c6b0 : (a0_0 == a1_0) = true := beq_iff_eq.mpr c6
    have c6b1 : (a0_0 != a1_0) = false := bne_eq_false_iff_eq.mpr c6
    clear c6
    (first | rw [c6b0] | (simp only [i64_w, i32_w]; rw [c6b0]) | skip)
    by_cases c7 : a0_1 = a1_1
    · rw [if_pos c7] at H
      have c7b0 : (a0_1 == a1_1) = true := beq_iff_eq.mpr c7
      have c7b1 : (a0_1 != a1_1) = false := bne_eq_false_iff_eq.mpr c7
      clear c7
      by_cases c8 : a0_2.toList = a1_2.toList
      · rw [if_pos c8] at H
        have c8b0 : (a0_2.toList == a1_2.toList) = true := beq_iff_eq.mpr c8
        have c8b1 : (a0_2.toList != a1_2.toList) = false := bne_eq_false_iff_eq.mpr c8
        clear c8
        by_cases c9 : a0_3.toList = a1_3.toList
        · rw [if_pos c9] at H
          have c9b0 : (a0_3.toList == a1_3.toList) = true := beq_iff_eq.mpr c9
          have c9b1 : (a0_3.toList != a1_3.toList) = false := bne_eq_false_iff_eq.mpr c9
          clear c9
          by_cases c10 : (!(a0_4 == a1_4) || (!(a0_5 == a1_5) || (!(a0_6.toList == a1_6.toList)))) = true
          · rw [if_pos c10] at H
            have c10b0 : (!(a0_4 == a1_4) || (!(a0_5 == a1_5) || (!(a0_6.toList == a1_6.toList)))) = true := c10
            clear c10
            have H' := Aside0.mk H
            clear H
            have hnb11 := NB117_118.out
            have hnc11 := NB118_117.out
            obtain ⟨hcz12_0, hcz12_1, hcz12_2, hcz12_3, hcz12_4, hcz12_5, hcz12_6, hcz12_7, hcz12_8, hcz12_9, hcz12_10, hcz12_11, hcz12_12, hcz12_13, hfz12_0, hfz12_1, hfz12_2, hfz12_3, hfz12_4, hfz12_5, hfz12_6, hfz12_7, hfz12_8, hfz12_9, hfz12_10, hfz12_11, hfz12_12, hfz12_13⟩ := cells14 BK117.out
            obtain ⟨hcz13_0, hcz13_1, hcz13_2, hcz13_3, hcz13_4, hcz13_5, hcz13_6, hcz13_7, hcz13_8, hcz13_9, hcz13_10, hcz13_11, hcz13_12, hcz13_13, hfz13_0, hfz13_1, hfz13_2, hfz13_3, hfz13_4, hfz13_5, hfz13_6, hfz13_7, hfz13_8, hfz13_9, hfz13_10, hfz13_11, hfz13_12, hfz13_13⟩ := cells14 BK118.out
            go_wp2
            go_meet
            case rel => exact ⟨_, (true), (by first | rfl | (simp; done) | (simp [*]; done) | (simp [*, bne]; done)), H', ⟨by first | omega | exact Nat.le_refl _⟩, ⟨by (with_reducible repeat (first | refine blk_drewN ?_ _ | refine blk_drew ?_ | refine blk_alloc ?_ _)); exact BK117.out⟩, ⟨by (with_reducible repeat (first | refine blk_drewN ?_ _ | refine blk_drew ?_ | refine blk_alloc ?_ _)); exact BK118.out⟩, ⟨by repeat (first | (with_reducible first | exact HB.out | apply below_alloc | apply pw_below_drewN | apply below_drew1 | refine below_set ?_ GE117.out | refine below_set ?_ GE118.out) | exact HB.out)⟩⟩
          · rw [if_neg c10] at H
            have c10b0 : (!(a0_4 == a1_4) || (!(a0_5 == a1_5) || (!(a0_6.toList == a1_6.toList)))) = false := by simpa using c10
            clear c10
            have H' := Aside0.mk H
            clear H
            have hnb14 := NB117_118.out
            have hnc14 := NB118_117.out
            obtain ⟨hcz15_0, hcz15_1, hcz15_2, hcz15_3, hcz15_4, hcz15_5, hcz15_6, hcz15_7, hcz15_8, hcz15_9, hcz15_10, hcz15_11, hcz15_12, hcz15_13, hfz15_0, hfz15_1, hfz15_2, hfz15_3, hfz15_4, hfz15_5, hfz15_6, hfz15_7, hfz15_8, hfz15_9, hfz15_10, hfz15_11, hfz15_12, hfz15_13⟩ := cells14 BK117.out
            obtain ⟨hcz16_0, hcz16_1, hcz16_2, hcz16_3, hcz16_4, hcz16_5, hcz16_6, hcz16_7, hcz16_8, hcz16_9, hcz16_10, hcz16_11, hcz16_12, hcz16_13, hfz16_0, hfz16_1, hfz16_2, hfz16_3, hfz16_4, hfz16_5, hfz16_6, hfz16_7, hfz16_8, hfz16_9, hfz16_10, hfz16_11, hfz16_12, hfz16_13⟩ := cells14 BK118.out
            go_wp2
            go_meet
            case rel => exact ⟨_, ((a0_9 != a1_9)), (by first | rfl | (simp; done) | (simp [*]; done) | (simp [*, bne]; done)), H', ⟨by first | omega | exact Nat.le_refl _⟩, ⟨by (with_reducible repeat (first | refine blk_drewN ?_ _ | refine blk_drew ?_ | refine blk_alloc ?_ _)); exact BK117.out⟩, ⟨by (with_reducible repeat (first | refine blk_drewN ?_ _ | refine blk_drew ?_ | refine blk_alloc ?_ _)); exact BK118.out⟩, ⟨by repeat (first | (with_reducible first | exact HB.out | apply below_alloc | apply pw_below_drewN | apply below_drew1 | refine below_set ?_ GE117.out | refine below_set ?_ GE118.out) | exact HB.out)⟩⟩
        · rw [if_neg c9] at H
          have c9b0 : (a0_3.toList == a1_3.toList) = false := beq_eq_false_iff_ne.mpr c9
          have c9b1 : (a0_3.toList != a1_3.toList) = true := bne_iff_ne.mpr c9
          have H' := Aside0.mk H
          clear H
          have hnb17 := NB117_118.out
          have hnc17 := NB118_117.out
          obtain ⟨hcz18_0, hcz18_1, hcz18_2, hcz18_3, hcz18_4, hcz18_5, hcz18_6, hcz18_7, hcz18_8, hcz18_9, hcz18_10, hcz18_11, hcz18_12, hcz18_13, hfz18_0, hfz18_1, hfz18_2, hfz18_3, hfz18_4, hfz18_5, hfz18_6, hfz18_7, hfz18_8, hfz18_9, hfz18_10, hfz18_11, hfz18_12, hfz18_13⟩ := cells14 BK117.out
          obtain ⟨hcz19_0, hcz19_1, hcz19_2, hcz19_3, hcz19_4, hcz19_5, hcz19_6, hcz19_7, hcz19_8, hcz19_9, hcz19_10, hcz19_11, hcz19_12, hcz19_13, hfz19_0, hfz19_1, hfz19_2, hfz19_3, hfz19_4, hfz19_5, hfz19_6, hfz19_7, hfz19_8, hfz19_9, hfz19_10, hfz19_11, hfz19_12, hfz19_13⟩ := cells14 BK118.out
          go_wp2
          go_meet
          case rel => exact ⟨_, (true), (by first | rfl | (simp; done) | (simp [*]; done) | (simp [*, bne]; done)), H', ⟨by first | omega | exact Nat.le_refl _⟩, ⟨by (with_reducible repeat (first | refine blk_drewN ?_ _ | refine blk_drew ?_ | refine blk_alloc ?_ _)); exact BK117.out⟩, ⟨by (with_reducible repeat (first | refine blk_drewN ?_ _ | refine blk_drew ?_ | refine blk_alloc ?_ _)); exact BK118.out⟩, ⟨by repeat (first | (with_reducible first | exact HB.out | apply below_alloc | apply pw_below_drewN | apply below_drew1 | refine below_set ?_ GE117.out | refine below_set ?_ GE118.out) | exact HB.out)⟩⟩
      · rw [if_neg c8] at H
        have c8b0 : (a0_2.toList == a1_2.toList) = false := beq_eq_false_iff_ne.mpr c8
        have c8b1 : (a0_2.toList != a1_2.toList) = true := bne_iff_ne.mpr c8
        have H' := Aside0.mk H
        clear H
        have hnb20 := NB117_118.out
        have hnc20 := NB118_117.out
        obtain ⟨hcz21_0, hcz21_1, hcz21_2, hcz21_3, hcz21_4, hcz21_5, hcz21_6, hcz21_7, hcz21_8, hcz21_9, hcz21_10, hcz21_11, hcz21_12, hcz21_13, hfz21_0, hfz21_1, hfz21_2, hfz21_3, hfz21_4, hfz21_5, hfz21_6, hfz21_7, hfz21_8, hfz21_9, hfz21_10, hfz21_11, hfz21_12, hfz21_13⟩ := cells14 BK117.out
        obtain ⟨hcz22_0, hcz22_1, hcz22_2, hcz22_3, hcz22_4, hcz22_5, hcz22_6, hcz22_7, hcz22_8, hcz22_9, hcz22_10, hcz22_11, hcz22_12, hcz22_13, hfz22_0, hfz22_1, hfz22_2, hfz22_3, hfz22_4, hfz22_5, hfz22_6, hfz22_7, hfz22_8, hfz22_9, hfz22_10, hfz22_11, hfz22_12, hfz22_13⟩ := cells14 BK118.out
        go_wp2
        go_meet
        case rel => exact ⟨_, (true), (by first | rfl | (simp; done) | (simp [*]; done) | (simp [*, bne]; done)), H', ⟨by first | omega | exact Nat.le_refl _⟩, ⟨by (with_reducible repeat (first | refine blk_drewN ?_ _ | refine blk_drew ?_ | refine blk_alloc ?_ _)); exact BK117.out⟩, ⟨by (with_reducible repeat (first | refine blk_drewN ?_ _ | refine blk_drew ?_ | refine blk_alloc ?_ _)); exact BK118.out⟩, ⟨by repeat (first | (with_reducible first | exact HB.out | apply below_alloc | apply pw_below_drewN | apply below_drew1 | refine below_set ?_ GE117.out | refine below_set ?_ GE118.out) | exact HB.out)⟩⟩
    · rw [if_neg c7] at H
      have c7b0 : (a0_1 == a1_1) = false := beq_eq_false_iff_ne.mpr c7
      have c7b1 : (a0_1 != a1_1) = true := bne_iff_ne.mpr c7
      have H' := Aside0.mk H
      clear H
      have hnb23 := NB117_118.out
      have hnc23 := NB118_117.out
      obtain ⟨hcz24_0, hcz24_1, hcz24_2, hcz24_3, hcz24_4, hcz24_5, hcz24_6, hcz24_7, hcz24_8, hcz24_9, hcz24_10, hcz24_11, hcz24_12, hcz24_13, hfz24_0, hfz24_1, hfz24_2, hfz24_3, hfz24_4, hfz24_5, hfz24_6, hfz24_7, hfz24_8, hfz24_9, hfz24_10, hfz24_11, hfz24_12, hfz24_13⟩ := cells14 BK117.out
      obtain ⟨hcz25_0, hcz25_1, hcz25_2, hcz25_3, hcz25_4, hcz25_5, hcz25_6, hcz25_7, hcz25_8, hcz25_9, hcz25_10, hcz25_11, hcz25_12, hcz25_13, hfz25_0, hfz25_1, hfz25_2, hfz25_3, hfz25_4, hfz25_5, hfz25_6, hfz25_7, hfz25_8, hfz25_9, hfz25_10, hfz25_11, hfz25_12, hfz25_13⟩ := cells14 BK118.out
      go_wp2
      go_meet
      case rel => exact ⟨_, (true), (by first | rfl | (simp; done) | (simp [*]; done) | (simp [*, bne]; done)), H', ⟨by first | omega | exact Nat.le_refl _⟩, ⟨by (with_reducible repeat (first | refine blk_drewN ?_ _ | refine blk_drew ?_ | refine blk_alloc ?_ _)); exact BK117.out⟩, ⟨by (with_reducible repeat (first | refine blk_drewN ?_ _ | refine blk_drew ?_ | refine blk_alloc ?_ _)); exact BK118.out⟩, ⟨by repeat (first | (with_reducible first | exact HB.out | apply below_alloc | apply pw_below_drewN | apply below_drew1 | refine below_set ?_ GE117.out | refine below_set ?_ GE118.out) | exact HB.out)⟩⟩
  · rw [if_neg c6] at H
    have c6b0 : (a0_0 == a1_0) = false := beq_eq_false_iff_ne.mpr c6
    have c6b1 : (a0_0 != a1_0) = true := bne_iff_ne.mpr c6
    (first | rw [c6b0] | (simp only [i64_w, i32_w]; rw [c6b0]) | skip)
    have H' := Aside0.mk H
    clear H
    have hnb26 := NB117_118.out
    have hnc26 := NB118_117.out
    obtain ⟨hcz27_0, hcz27_1, hcz27_2, hcz27_3, hcz27_4, hcz27_5, hcz27_6, hcz27_7, hcz27_8, hcz27_9, hcz27_10, hcz27_11, hcz27_12, hcz27_13, hfz27_0, hfz27_1, hfz27_2, hfz27_3, hfz27_4, hfz27_5, hfz27_6, hfz27_7, hfz27_8, hfz27_9, hfz27_10, hfz27_11, hfz27_12, hfz27_13⟩ := cells14 BK117.out
    obtain ⟨hcz28_0, hcz28_1, hcz28_2, hcz28_3, hcz28_4, hcz28_5, hcz28_6, hcz28_7, hcz28_8, hcz28_9, hcz28_10, hcz28_11, hcz28_12, hcz28_13, hfz28_0, hfz28_1, hfz28_2, hfz28_3, hfz28_4, hfz28_5, hfz28_6, hfz28_7, hfz28_8, hfz28_9, hfz28_10, hfz28_11, hfz28_12, hfz28_13⟩ := cells14 BK118.out
    go_wp2
    go_meet
    case rel => exact ⟨_, (true), (by first | rfl | (simp; done) | (simp [*]; done) | (simp [*, bne]; done)), H', ⟨by first | omega | exact Nat.le_refl _⟩, ⟨by (with_reducible repeat (first | refine blk_drewN ?_ _ | refine blk_drew ?_ | refine blk_alloc ?_ _)); exact BK117.out⟩, ⟨by (with_reducible repeat (first | refine blk_drewN ?_ _ | refine blk_drew ?_ | refine blk_alloc ?_ _)); exact BK118.out⟩, ⟨by repeat (first | (with_reducible first | exact HB.out | apply below_alloc | apply pw_below_drewN | apply below_drew1 | refine below_set ?_ GE117.out | refine below_set ?_ GE118.out) | exact HB.out)⟩⟩
 case rest =>
  clear HC3
  try clear c1
  try clear c2
  try clear p2
  try clear c4
  try clear c6
  try clear c6b0
  try clear c6b1
  try clear c7
  try clear c7b0
  try clear c7b1
  try clear c8
  try clear c8b0
  try clear c8b1
  try clear c9
  try clear c9b0
  try clear c9b1
  try clear c10
  try clear c10b0
  try clear c11
  try clear c14
  try clear c17
  try clear c20
  try clear c23
  try clear c26
  try clear hcz12_0 hcz12_1 hcz12_10 hcz12_11 hcz12_12 hcz12_13 hcz12_2 hcz12_3 hcz12_4 hcz12_5 hcz12_6 hcz12_7 hcz12_8 hcz12_9
  try clear hcz13_0 hcz13_1 hcz13_10 hcz13_11 hcz13_12 hcz13_13 hcz13_2 hcz13_3 hcz13_4 hcz13_5 hcz13_6 hcz13_7 hcz13_8 hcz13_9
  try clear hcz15_0 hcz15_1 hcz15_10 hcz15_11 hcz15_12 hcz15_13 hcz15_2 hcz15_3 hcz15_4 hcz15_5 hcz15_6 hcz15_7 hcz15_8 hcz15_9
  try clear hcz16_0 hcz16_1 hcz16_10 hcz16_11 hcz16_12 hcz16_13 hcz16_2 hcz16_3 hcz16_4 hcz16_5 hcz16_6 hcz16_7 hcz16_8 hcz16_9
  try clear hcz18_0 hcz18_1 hcz18_10 hcz18_11 hcz18_12 hcz18_13 hcz18_2 hcz18_3 hcz18_4 hcz18_5 hcz18_6 hcz18_7 hcz18_8 hcz18_9
  try clear hcz19_0 hcz19_1 hcz19_10 hcz19_11 hcz19_12 hcz19_13 hcz19_2 hcz19_3 hcz19_4 hcz19_5 hcz19_6 hcz19_7 hcz19_8 hcz19_9
  try clear hcz21_0 hcz21_1 hcz21_10 hcz21_11 hcz21_12 hcz21_13 hcz21_2 hcz21_3 hcz21_4 hcz21_5 hcz21_6 hcz21_7 hcz21_8 hcz21_9
  try clear hcz22_0 hcz22_1 hcz22_10 hcz22_11 hcz22_12 hcz22_13 hcz22_2 hcz22_3 hcz22_4 hcz22_5 hcz22_6 hcz22_7 hcz22_8 hcz22_9
  try clear hcz24_0 hcz24_1 hcz24_10 hcz24_11 hcz24_12 hcz24_13 hcz24_2 hcz24_3 hcz24_4 hcz24_5 hcz24_6 hcz24_7 hcz24_8 hcz24_9
  try clear hcz25_0 hcz25_1 hcz25_10 hcz25_11 hcz25_12 hcz25_13 hcz25_2 hcz25_3 hcz25_4 hcz25_5 hcz25_6 hcz25_7 hcz25_8 hcz25_9
  try clear hcz27_0 hcz27_1 hcz27_10 hcz27_11 hcz27_12 hcz27_13 hcz27_2 hcz27_3 hcz27_4 hcz27_5 hcz27_6 hcz27_7 hcz27_8 hcz27_9
  try clear hcz28_0 hcz28_1 hcz28_10 hcz28_11 hcz28_12 hcz28_13 hcz28_2 hcz28_3 hcz28_4 hcz28_5 hcz28_6 hcz28_7 hcz28_8 hcz28_9
  try clear hfz12_0 hfz12_1 hfz12_10 hfz12_11 hfz12_12 hfz12_13 hfz12_2 hfz12_3 hfz12_4 hfz12_5 hfz12_6 hfz12_7 hfz12_8 hfz12_9
  try clear hfz13_0 hfz13_1 hfz13_10 hfz13_11 hfz13_12 hfz13_13 hfz13_2 hfz13_3 hfz13_4 hfz13_5 hfz13_6 hfz13_7 hfz13_8 hfz13_9
  try clear hfz15_0 hfz15_1 hfz15_10 hfz15_11 hfz15_12 hfz15_13 hfz15_2 hfz15_3 hfz15_4 hfz15_5 hfz15_6 hfz15_7 hfz15_8 hfz15_9
  try clear hfz16_0 hfz16_1 hfz16_10 hfz16_11 hfz16_12 hfz16_13 hfz16_2 hfz16_3 hfz16_4 hfz16_5 hfz16_6 hfz16_7 hfz16_8 hfz16_9
  try clear hfz18_0 hfz18_1 hfz18_10 hfz18_11 hfz18_12 hfz18_13 hfz18_2 hfz18_3 hfz18_4 hfz18_5 hfz18_6 hfz18_7 hfz18_8 hfz18_9
  try clear hfz19_0 hfz19_1 hfz19_10 hfz19_11 hfz19_12 hfz19_13 hfz19_2 hfz19_3 hfz19_4 hfz19_5 hfz19_6 hfz19_7 hfz19_8 hfz19_9
  try clear hfz21_0 hfz21_1 hfz21_10 hfz21_11 hfz21_12 hfz21_13 hfz21_2 hfz21_3 hfz21_4 hfz21_5 hfz21_6 hfz21_7 hfz21_8 hfz21_9
  try clear hfz22_0 hfz22_1 hfz22_10 hfz22_11 hfz22_12 hfz22_13 hfz22_2 hfz22_3 hfz22_4 hfz22_5 hfz22_6 hfz22_7 hfz22_8 hfz22_9
  try clear hfz24_0 hfz24_1 hfz24_10 hfz24_11 hfz24_12 hfz24_13 hfz24_2 hfz24_3 hfz24_4 hfz24_5 hfz24_6 hfz24_7 hfz24_8 hfz24_9
  try clear hfz25_0 hfz25_1 hfz25_10 hfz25_11 hfz25_12 hfz25_13 hfz25_2 hfz25_3 hfz25_4 hfz25_5 hfz25_6 hfz25_7 hfz25_8 hfz25_9
  try clear hfz27_0 hfz27_1 hfz27_10 hfz27_11 hfz27_12 hfz27_13 hfz27_2 hfz27_3 hfz27_4 hfz27_5 hfz27_6 hfz27_7 hfz27_8 hfz27_9
  try clear hfz28_0 hfz28_1 hfz28_10 hfz28_11 hfz28_12 hfz28_13 hfz28_2 hfz28_3 hfz28_4 hfz28_5 hfz28_6 hfz28_7 hfz28_8 hfz28_9
  obtain ⟨kq, x44_2, rfl, HA, HJ2, BK117, BK118, HB⟩ := hcut
  cases kq with
  | zero => exact absurd HA.out (by simp [relayplain_SameExpr.j0Of])
  | succ kj2 =>
   have H := HA.out
   clear HA
   simp only [relayplain_SameExpr.j0Of] at H
   by_cases c29 : x44_2 = true
   · subst c29
     have H1 : (some false) = some r := by rw [if_pos rfl] at H; exact H
     clear H
     have H := H1
     clear H1
     obtain rfl := Option.some.inj H
     go_wp2
     go_ret
     exact ⟨by first | rfl | (simp [errW_none, errW_some] <;> rfl) | (simp [*, errW_none, errW_some] <;> rfl), by repeat (first | (with_reducible first | exact HB.out | apply below_alloc | apply pw_below_drewN | apply below_drew1 | refine below_set ?_ GE117.out | refine below_set ?_ GE118.out) | exact HB.out)⟩
   · replace c29 := Bool.eq_false_iff.mpr c29
     subst c29
     have H1 : (if a0_10 = a1_10 then (if a0_11 = a1_11 then (if a0_12 = a1_12 then (if a0_13 = a1_13 then ((slices_Equal_string_string.f kj2 l0_8 l1_8).bind fun t119 => (if t119 = true then ((Fn l0_7 l1_7).bind fun t120 => (some t120)) else (some false))) else (some false)) else (some false)) else (some false)) else (some false)) = some r := by rw [if_neg (show ¬ (false = true) by decide)] at H; exact H
     clear H
     have H := H1
     clear H1
     by_cases c30 : a0_10 = a1_10
     · rw [if_pos c30] at H
       have c30b0 : (a0_10 == a1_10) = true := beq_iff_eq.mpr c30
       have c30b1 : (a0_10 != a1_10) = false := bne_eq_false_iff_eq.mpr c30
       clear c30
       by_cases c31 : a0_11 = a1_11
       · rw [if_pos c31] at H
         have c31b0 : (a0_11 == a1_11) = true := beq_iff_eq.mpr c31
         have c31b1 : (a0_11 != a1_11) = false := bne_eq_false_iff_eq.mpr c31
         clear c31
         by_cases c32 : a0_12 = a1_12
         · rw [if_pos c32] at H
           have c32b0 : (a0_12 == a1_12) = true := beq_iff_eq.mpr c32
           have c32b1 : (a0_12 != a1_12) = false := bne_eq_false_iff_eq.mpr c32
           clear c32
           by_cases c33 : a0_13 = a1_13
           · rw [if_pos c33] at H
             have c33b0 : (a0_13 == a1_13) = true := beq_iff_eq.mpr c33
             have c33b1 : (a0_13 != a1_13) = false := bne_eq_false_iff_eq.mpr c33
             clear c33
             replace H := Option.bind_eq_some_iff.mp H
             obtain ⟨t119, A340, H⟩ := H
             replace H : (if t119 = true then ((Fn l0_7 l1_7).bind fun t120 => (some t120)) else (some false)) = some r := H
             have A34 := Aside0.mk A340
             clear A340
             by_cases c35 : t119 = true
             · subst c35
               have H1 : ((Fn l0_7 l1_7).bind fun t120 => (some t120)) = some r := by rw [if_pos rfl] at H; exact H
               clear H
               have H := H1
               clear H1
               replace H := Option.bind_eq_some_iff.mp H
               obtain ⟨t120, A360, H⟩ := H
               replace H : (some t120) = some r := H
               have A36 := Aside0.mk A360
               clear A360
               obtain rfl := Option.some.inj H
               have hnb37 := NB117_118.out
               have hnc37 := NB118_117.out
               obtain ⟨_, _, _, _, _, _, _, _, _, _, _, _, _, _, _, _, _, _, _, _, _, _, _, _, _, _, _, _⟩ := cells14 BK117.out
               obtain ⟨_, _, _, _, _, _, _, _, _, _, _, _, _, _, _, _, _, _, _, _, _, _, _, _, _, _, _, _⟩ := cells14 BK118.out
               go_wp2_with (first | (go_at_call 22; (with_reducible refine (slices_Equal_string_string.calls kj2 _ _ l0_8 _ _ l1_8 true _ ?side1 ?side2 ?side3 ?side4 A34.out).mono ?_); (case side1 => repeat (first | exact (Kd.C_below HR0_8.out HB.out) | (with_reducible refine Kd.C_alloc ?_ _) | (with_reducible refine Kd.C_drewN ?_ _) | (with_reducible refine Kd.C_drew ?_))); (case side2 => exact HC0_8.out); (case side3 => repeat (first | exact (Kd.C_below HR1_8.out HB.out) | (with_reducible refine Kd.C_alloc ?_ _) | (with_reducible refine Kd.C_drewN ?_ _) | (with_reducible refine Kd.C_drew ?_))); (case side4 => exact HC1_8.out); rintro e w' ⟨rfl, ⟨nd, rfl⟩⟩) | (go_at_call 49; (with_reducible refine (hFn _ _ l0_7 _ _ l1_7 t120 _ ?side1 ?side2 ?side3 ?side4 A36.out).mono ?_); (case side1 => repeat (first | exact (Kd.C_below HR0_7.out (by repeat (first | (with_reducible first | exact HB.out | apply below_alloc | apply pw_below_drewN | apply below_drew1 | refine below_set ?_ GE117.out | refine below_set ?_ GE118.out) | exact HB.out))) | (with_reducible refine Kd.C_alloc ?_ _) | (with_reducible refine Kd.C_drewN ?_ _) | (with_reducible refine Kd.C_drew ?_))); (case side2 => exact HC0_7.out); (case side3 => repeat (first | exact (Kd.C_below HR1_7.out (by repeat (first | (with_reducible first | exact HB.out | apply below_alloc | apply pw_below_drewN | apply below_drew1 | refine below_set ?_ GE117.out | refine below_set ?_ GE118.out) | exact HB.out))) | (with_reducible refine Kd.C_alloc ?_ _) | (with_reducible refine Kd.C_drewN ?_ _) | (with_reducible refine Kd.C_drew ?_))); (case side4 => exact HC1_7.out); rintro e w40 ⟨rfl, hb⟩; have n0_ := Aside0.mk (blk_below (g := gb117) (by (with_reducible repeat (first | refine blk_drewN ?_ _ | refine blk_drew ?_ | refine blk_alloc ?_ _)); exact BK117.out) hb); have n1_ := Aside0.mk (blk_below (g := gb118) (by (with_reducible repeat (first | refine blk_drewN ?_ _ | refine blk_drew ?_ | refine blk_alloc ?_ _)); exact BK118.out) hb); have n2_ := Aside0.mk (below_step (by repeat (first | (with_reducible first | exact HB.out | apply below_alloc | apply pw_below_drewN | apply below_drew1 | refine below_set ?_ GE117.out | refine below_set ?_ GE118.out) | exact HB.out)) hb); clear BK117; clear BK118; clear HB; have BK117 := n0_; have BK118 := n1_; have HB := n2_; clear n0_ n1_ n2_; (try clear hb); (try clear hb2); (try clear hk); (try clear hi)))
               go_ret
               exact ⟨by first | rfl | (simp [errW_none, errW_some] <;> rfl) | (simp [*, errW_none, errW_some] <;> rfl), by repeat (first | (with_reducible first | exact HB.out | apply below_alloc | apply pw_below_drewN | apply below_drew1 | refine below_set ?_ GE117.out | refine below_set ?_ GE118.out) | exact HB.out)⟩
             · replace c35 := Bool.eq_false_iff.mpr c35
               subst c35
               have H1 : (some false) = some r := by rw [if_neg (show ¬ (false = true) by decide)] at H; exact H
               clear H
               have H := H1
               clear H1
               obtain rfl := Option.some.inj H
               have hnb41 := NB117_118.out
               have hnc41 := NB118_117.out
               obtain ⟨_, _, _, _, _, _, _, _, _, _, _, _, _, _, _, _, _, _, _, _, _, _, _, _, _, _, _, _⟩ := cells14 BK117.out
               obtain ⟨_, _, _, _, _, _, _, _, _, _, _, _, _, _, _, _, _, _, _, _, _, _, _, _, _, _, _, _⟩ := cells14 BK118.out
               go_wp2_with (first | (go_at_call 22; (with_reducible refine (slices_Equal_string_string.calls kj2 _ _ l0_8 _ _ l1_8 false _ ?side1 ?side2 ?side3 ?side4 A34.out).mono ?_); (case side1 => repeat (first | exact (Kd.C_below HR0_8.out HB.out) | (with_reducible refine Kd.C_alloc ?_ _) | (with_reducible refine Kd.C_drewN ?_ _) | (with_reducible refine Kd.C_drew ?_))); (case side2 => exact HC0_8.out); (case side3 => repeat (first | exact (Kd.C_below HR1_8.out HB.out) | (with_reducible refine Kd.C_alloc ?_ _) | (with_reducible refine Kd.C_drewN ?_ _) | (with_reducible refine Kd.C_drew ?_))); (case side4 => exact HC1_8.out); rintro e w' ⟨rfl, ⟨nd, rfl⟩⟩))
               go_ret
               exact ⟨by first | rfl | (simp [errW_none, errW_some] <;> rfl) | (simp [*, errW_none, errW_some] <;> rfl), by repeat (first | (with_reducible first | exact HB.out | apply below_alloc | apply pw_below_drewN | apply below_drew1 | refine below_set ?_ GE117.out | refine below_set ?_ GE118.out) | exact HB.out)⟩
           · rw [if_neg c33] at H
             have c33b0 : (a0_13 == a1_13) = false := beq_eq_false_iff_ne.mpr c33
             have c33b1 : (a0_13 != a1_13) = true := bne_iff_ne.mpr c33
             obtain rfl := Option.some.inj H
             have hnb44 := NB117_118.out
             have hnc44 := NB118_117.out
             obtain ⟨_, _, _, _, _, _, _, _, _, _, _, _, _, _, _, _, _, _, _, _, _, _, _, _, _, _, _, _⟩ := cells14 BK117.out
             obtain ⟨_, _, _, _, _, _, _, _, _, _, _, _, _, _, _, _, _, _, _, _, _, _, _, _, _, _, _, _⟩ := cells14 BK118.out
             go_wp2
             go_ret
             exact ⟨by first | rfl | (simp [errW_none, errW_some] <;> rfl) | (simp [*, errW_none, errW_some] <;> rfl), by repeat (first | (with_reducible first | exact HB.out | apply below_alloc | apply pw_below_drewN | apply below_drew1 | refine below_set ?_ GE117.out | refine below_set ?_ GE118.out) | exact HB.out)⟩
         · rw [if_neg c32] at H
           have c32b0 : (a0_12 == a1_12) = false := beq_eq_false_iff_ne.mpr c32
           have c32b1 : (a0_12 != a1_12) = true := bne_iff_ne.mpr c32
           obtain rfl := Option.some.inj H
           have hnb47 := NB117_118.out
           have hnc47 := NB118_117.out
           obtain ⟨_, _, _, _, _, _, _, _, _, _, _, _, _, _, _, _, _, _, _, _, _, _, _, _, _, _, _, _⟩ := cells14 BK117.out
           obtain ⟨_, _, _, _, _, _, _, _, _, _, _, _, _, _, _, _, _, _, _, _, _, _, _, _, _, _, _, _⟩ := cells14 BK118.out
           go_wp2
           go_ret
           exact ⟨by first | rfl | (simp [errW_none, errW_some] <;> rfl) | (simp [*, errW_none, errW_some] <;> rfl), by repeat (first | (with_reducible first | exact HB.out | apply below_alloc | apply pw_below_drewN | apply below_drew1 | refine below_set ?_ GE117.out | refine below_set ?_ GE118.out) | exact HB.out)⟩
       · rw [if_neg c31] at H
         have c31b0 : (a0_11 == a1_11) = false := beq_eq_false_iff_ne.mpr c31
         have c31b1 : (a0_11 != a1_11) = true := bne_iff_ne.mpr c31
         obtain rfl := Option.some.inj H
         have hnb50 := NB117_118.out
         have hnc50 := NB118_117.out
         obtain ⟨_, _, _, _, _, _, _, _, _, _, _, _, _, _, _, _, _, _, _, _, _, _, _, _, _, _, _, _⟩ := cells14 BK117.out
         obtain ⟨_, _, _, _, _, _, _, _, _, _, _, _, _, _, _, _, _, _, _, _, _, _, _, _, _, _, _, _⟩ := cells14 BK118.out
         go_wp2
         go_ret
         exact ⟨by first | rfl | (simp [errW_none, errW_some] <;> rfl) | (simp [*, errW_none, errW_some] <;> rfl), by repeat (first | (with_reducible first | exact HB.out | apply below_alloc | apply pw_below_drewN | apply below_drew1 | refine below_set ?_ GE117.out | refine below_set ?_ GE118.out) | exact HB.out)⟩
     · rw [if_neg c30] at H
       have c30b0 : (a0_10 == a1_10) = false := beq_eq_false_iff_ne.mpr c30
       have c30b1 : (a0_10 != a1_10) = true := bne_iff_ne.mpr c30
       obtain rfl := Option.some.inj H
       have hnb53 := NB117_118.out
       have hnc53 := NB118_117.out
       obtain ⟨_, _, _, _, _, _, _, _, _, _, _, _, _, _, _, _, _, _, _, _, _, _, _, _, _, _, _, _⟩ := cells14 BK117.out
       obtain ⟨_, _, _, _, _, _, _, _, _, _, _, _, _, _, _, _, _, _, _, _, _, _, _, _, _, _, _, _⟩ := cells14 BK118.out
       go_wp2
       go_ret
       exact ⟨by first | rfl | (simp [errW_none, errW_some] <;> rfl) | (simp [*, errW_none, errW_some] <;> rfl), by repeat (first | (with_reducible first | exact HB.out | apply below_alloc | apply pw_below_drewN | apply below_drew1 | refine below_set ?_ GE117.out | refine below_set ?_ GE118.out) | exact HB.out)⟩

/-! #### relayplain_SameExprs, over relayplain_SameExpr -/
def relayplain_SameExprs.l0Of (Fn : Int → Int → ByteArray → ByteArray → Int → Int → ByteArray → List (S65) → List ByteArray → Int → Int → Int → Int → Int → Int → Int → ByteArray → ByteArray → Int → Int → ByteArray → List (S65) → List ByteArray → Int → Int → Int → Int → Int → Option (Bool)) : Nat → List (S65) → List (S65) → Int → Int → Option (Bool)
 | 0, _, _, _, _ => none
 | k + 1, x0, x1, x12, x13 => if x13 < x12 then (if 0 ≤ x13 then (if x13 < (x0.length : Int) then (if x13 < (x1.length : Int) then ((Fn ((rd_T65 x0 x13).f0) ((rd_T65 x0 x13).f1) ((rd_T65 x0 x13).f2) ((rd_T65 x0 x13).f3) ((rd_T65 x0 x13).f4.f0) ((rd_T65 x0 x13).f4.f1) ((rd_T65 x0 x13).f4.f2) ((rd_T65 x0 x13).f5) ((rd_T65 x0 x13).f6) ((rd_T65 x0 x13).f7) ((rd_T65 x0 x13).f8) ((rd_T65 x0 x13).f9) ((rd_T65 x0 x13).f10) ((rd_T65 x0 x13).f11) ((rd_T65 x1 x13).f0) ((rd_T65 x1 x13).f1) ((rd_T65 x1 x13).f2) ((rd_T65 x1 x13).f3) ((rd_T65 x1 x13).f4.f0) ((rd_T65 x1 x13).f4.f1) ((rd_T65 x1 x13).f4.f2) ((rd_T65 x1 x13).f5) ((rd_T65 x1 x13).f6) ((rd_T65 x1 x13).f7) ((rd_T65 x1 x13).f8) ((rd_T65 x1 x13).f9) ((rd_T65 x1 x13).f10) ((rd_T65 x1 x13).f11)).bind fun t129 => (if t129 = true then (relayplain_SameExprs.l0Of Fn k x0 x1 x12 (wrap64 (x13 + 1))) else (some false))) else (none)) else (none)) else (none)) else (some true)
def relayplain_SameExprs.fOf (Fn : Int → Int → ByteArray → ByteArray → Int → Int → ByteArray → List (S65) → List ByteArray → Int → Int → Int → Int → Int → Int → Int → ByteArray → ByteArray → Int → Int → ByteArray → List (S65) → List ByteArray → Int → Int → Int → Int → Int → Option (Bool)) (k : Nat) (l0 : List (S65)) (l1 : List (S65)) : Option (Bool) := if (l0.length : Int) = (l1.length : Int) then (relayplain_SameExprs.l0Of Fn k l0 l1 (l0.length : Int) 0) else (some false)

theorem relayplain_SameExprs.mono_lOf (Fn Fn' : Int → Int → ByteArray → ByteArray → Int → Int → ByteArray → List (S65) → List ByteArray → Int → Int → Int → Int → Int → Int → Int → ByteArray → ByteArray → Int → Int → ByteArray → List (S65) → List ByteArray → Int → Int → Int → Int → Int → Option (Bool)) (hle_ : ∀ z0 z1 z2 z3 z4 z5 z6 z7 z8 z9 z10 z11 z12 z13 z14 z15 z16 z17 z18 z19 z20 z21 z22 z23 z24 z25 z26 z27, LeO (Fn z0 z1 z2 z3 z4 z5 z6 z7 z8 z9 z10 z11 z12 z13 z14 z15 z16 z17 z18 z19 z20 z21 z22 z23 z24 z25 z26 z27) (Fn' z0 z1 z2 z3 z4 z5 z6 z7 z8 z9 z10 z11 z12 z13 z14 z15 z16 z17 z18 z19 z20 z21 z22 z23 z24 z25 z26 z27)) : ∀ k, (∀ y0 y1 y2 y3, LeO (relayplain_SameExprs.l0Of Fn k y0 y1 y2 y3) (relayplain_SameExprs.l0Of Fn' (k + 1) y0 y1 y2 y3))
 | 0 => fun _ _ _ _ r h => by simp [relayplain_SameExprs.l0Of] at h
 | k + 1 => by
  have ih0 := relayplain_SameExprs.mono_lOf Fn Fn' hle_ k
  · intro y0 y1 y2 y3
    unfold relayplain_SameExprs.l0Of
    repeat' first
    | (with_reducible exact ih0 _ _ _ _)
    | (with_reducible exact hle_ _ _ _ _ _ _ _ _ _ _ _ _ _ _ _ _ _ _ _ _ _ _ _ _ _ _ _ _)
    | (with_reducible exact LeO.refl _)
    | (with_reducible exact LeO.none _)
    | (with_reducible refine LeO.ite ?_ ?_)
    | (with_reducible refine LeO.bind ?_ (fun _ => ?_))
    | exact ih0 _ _ _ _
    | exact hle_ _ _ _ _ _ _ _ _ _ _ _ _ _ _ _ _ _ _ _ _ _ _ _ _ _ _ _ _
    | exact LeO.none _
    | refine LeO.ite ?_ ?_
    | refine LeO.bind ?_ (fun _ => ?_)
theorem relayplain_SameExprs.monoOf (Fn Fn' : Int → Int → ByteArray → ByteArray → Int → Int → ByteArray → List (S65) → List ByteArray → Int → Int → Int → Int → Int → Int → Int → ByteArray → ByteArray → Int → Int → ByteArray → List (S65) → List ByteArray → Int → Int → Int → Int → Int → Option (Bool)) (hle_ : ∀ z0 z1 z2 z3 z4 z5 z6 z7 z8 z9 z10 z11 z12 z13 z14 z15 z16 z17 z18 z19 z20 z21 z22 z23 z24 z25 z26 z27, LeO (Fn z0 z1 z2 z3 z4 z5 z6 z7 z8 z9 z10 z11 z12 z13 z14 z15 z16 z17 z18 z19 z20 z21 z22 z23 z24 z25 z26 z27) (Fn' z0 z1 z2 z3 z4 z5 z6 z7 z8 z9 z10 z11 z12 z13 z14 z15 z16 z17 z18 z19 z20 z21 z22 z23 z24 z25 z26 z27)) : ∀ a0 a1 k, LeO (relayplain_SameExprs.fOf Fn k a0 a1) (relayplain_SameExprs.fOf Fn' (k + 1) a0 a1) := by
 intro a0 a1 k
 have ih0 := relayplain_SameExprs.mono_lOf Fn Fn' hle_ k
 unfold relayplain_SameExprs.fOf
 repeat' first
  | (with_reducible exact ih0 _ _ _ _)
  | (with_reducible exact hle_ _ _ _ _ _ _ _ _ _ _ _ _ _ _ _ _ _ _ _ _ _ _ _ _ _ _ _ _)
  | (with_reducible exact LeO.refl _)
  | (with_reducible exact LeO.none _)
  | (with_reducible refine LeO.ite ?_ ?_)
  | (with_reducible refine LeO.bind ?_ (fun _ => ?_))
  | exact ih0 _ _ _ _
  | exact hle_ _ _ _ _ _ _ _ _ _ _ _ _ _ _ _ _ _ _ _ _ _ _ _ _ _ _ _ _
  | exact LeO.none _
  | refine LeO.ite ?_ ?_
  | refine LeO.bind ?_ (fun _ => ?_)
def relayplain_SameExprs.T6 : Bool × List (List Nat × List Nat) := (true, [([], []), ([], []), ([0, 1], [0, 1]), ([2], [2]), ([], []), ([], []), ([4, 5], [4, 5]), ([6], [6]), ([3, 7], [3, 7]), ([8], [8])])
def relayplain_SameExprs.B6 : List Nat := [0, 0, 3, 7, 0, 0, 48, 112, 255, 511]
theorem relayplain_SameExprs.tab6 : rtab .any (opsOf Try.f49 6) = relayplain_SameExprs.T6 := by kernel_rfl
theorem relayplain_SameExprs.bits6 : waitsOk relayplain_SameExprs.T6.2 relayplain_SameExprs.B6 = true := by kernel_rfl

set_option maxHeartbeats 8000000 in
set_option maxRecDepth 100000 in
theorem relayplain_SameExprs.callsOf (Fn : Int → Int → ByteArray → ByteArray → Int → Int → ByteArray → List (S65) → List ByteArray → Int → Int → Int → Int → Int → Int → Int → ByteArray → ByteArray → Int → Int → ByteArray → List (S65) → List ByteArray → Int → Int → Int → Int → Int → Option (Bool)) (hFn : ∀ (a0_0 : Int) (a0_1 : Int) (a0_2 : ByteArray) (a0_3 : ByteArray) (a0_4 : Int) (a0_5 : Int) (a0_6 : ByteArray) (A0_7 : Option Addr) (c0_7 : Nat) (l0_7 : List (S65)) (A0_8 : Option Addr) (c0_8 : Nat) (l0_8 : List ByteArray) (a0_9 : Int) (a0_10 : Int) (a0_11 : Int) (a0_12 : Int) (a0_13 : Int) (a1_0 : Int) (a1_1 : Int) (a1_2 : ByteArray) (a1_3 : ByteArray) (a1_4 : Int) (a1_5 : Int) (a1_6 : ByteArray) (A1_7 : Option Addr) (c1_7 : Nat) (l1_7 : List (S65)) (A1_8 : Option Addr) (c1_8 : Nat) (l1_8 : List ByteArray) (a1_9 : Int) (a1_10 : Int) (a1_11 : Int) (a1_12 : Int) (a1_13 : Int) (r : Bool) (w : World) (hr0_7 : Kd.C k65 w A0_7 l0_7.length l0_7) (hc0_7 : l0_7.length ≤ c0_7) (hr0_8 : Kd.C Kd.string w A0_8 l0_8.length l0_8) (hc0_8 : l0_8.length ≤ c0_8) (hr1_7 : Kd.C k65 w A1_7 l1_7.length l1_7) (hc1_7 : l1_7.length ≤ c1_7) (hr1_8 : Kd.C Kd.string w A1_8 l1_8.length l1_8) (hc1_8 : l1_8.length ≤ c1_8) (h : Fn a0_0 a0_1 a0_2 a0_3 a0_4 a0_5 a0_6 l0_7 l0_8 a0_9 a0_10 a0_11 a0_12 a0_13 a1_0 a1_1 a1_2 a1_3 a1_4 a1_5 a1_6 l1_7 l1_8 a1_9 a1_10 a1_11 a1_12 a1_13 = some r), Calls Try.prog 43 #[.agg #[.int .i64 a0_0, .int .i64 a0_1, .string a0_2, .string a0_3, .int .u8 a0_4, .int .u64 a0_5, .string a0_6, .slice A0_7 l0_7.length c0_7, .slice A0_8 l0_8.length c0_8, .int .u8 a0_9, .int .i64 a0_10, .int .i64 a0_11, .int .i64 a0_12, .int .i64 a0_13], .agg #[.int .i64 a1_0, .int .i64 a1_1, .string a1_2, .string a1_3, .int .u8 a1_4, .int .u64 a1_5, .string a1_6, .slice A1_7 l1_7.length c1_7, .slice A1_8 l1_8.length c1_8, .int .u8 a1_9, .int .i64 a1_10, .int .i64 a1_11, .int .i64 a1_12, .int .i64 a1_13]] w fun e w' => e = .returned (.bool r) ∧ Below w.heap.size w w') (k : Nat) (A0 : Option Addr) (c0 : Nat) (l0 : List (S65)) (A1 : Option Addr) (c1 : Nat) (l1 : List (S65)) (r : Bool) (w : World) (hr0 : Kd.C k65 w A0 l0.length l0) (hc0 : l0.length ≤ c0) (hr1 : Kd.C k65 w A1 l1.length l1) (hc1 : l1.length ≤ c1) (h : relayplain_SameExprs.fOf Fn k l0 l1 = some r) :
 Calls Try.prog 49 #[.slice A0 l0.length c0, .slice A1 l1.length c1] w fun e w' => e = .returned (.bool r) ∧ Below w.heap.size w w' := by
 have hu65 := Try.underlying65
 have HR0 := Aside0.mk hr0
 have HC0 := Aside0.mk hc0
 clear hr0 hc0
 have HR1 := Aside0.mk hr1
 have HC1 := Aside0.mk hc1
 clear hr1 hc1
 have HB := Aside0.mk (Below.refl w.heap.size w)
 have H : (if (l0.length : Int) = (l1.length : Int) then (relayplain_SameExprs.l0Of Fn k l0 l1 (l0.length : Int) 0) else (some false)) = some r := h
 clear h
 by_cases c3 : (l0.length : Int) = (l1.length : Int)
 · rw [if_pos c3] at H
   have c3b0 : ((l0.length : Int) == (l1.length : Int)) = true := beq_iff_eq.mpr c3
   have c3b1 : ((l0.length : Int) != (l1.length : Int)) = false := bne_eq_false_iff_eq.mpr c3
   have c3b2 : (l0.length == l1.length) = true := by first | simpa using c3 | (simp at c3 ⊢; omega)
   clear c3
   have H' := Aside0.mk H
   clear H
   go_enter Try.func49, Try.ntmps49
   go_wp2
   go_loopg [13] k (fun kq v13 w' => ∃ (x13_1 : Int), v13 = .int .i64 x13_1 ∧ Aside0 (relayplain_SameExprs.l0Of Fn kq l0 l1 (l0.length : Int) x13_1 = some r) ∧ Aside0 (kq ≤ k) ∧ Aside0 (Below w.heap.size w w'))
   case atStart => exact ⟨(0), (by first | rfl | (simp; done) | (simp [*]; done) | (simp [*, bne]; done)), H', ⟨Nat.le_refl _⟩, ⟨by repeat (first | (with_reducible first | exact HB.out | apply below_alloc | apply pw_below_drewN | apply below_drew1) | exact HB.out)⟩⟩
   case round =>
    clear H'
    try clear c1
    try clear p2
    try clear c3
    try clear c3b0
    try clear c3b1
    try clear c3b2
    obtain ⟨x13_1, rfl, HA, HK1, HB⟩ := hrel
    cases gk with
    | zero => exact absurd HA.out (by simp [relayplain_SameExprs.l0Of])
    | succ k1 =>
     have H := HA.out
     clear HA
     simp only [relayplain_SameExprs.l0Of] at H
     by_cases c4 : x13_1 < (l0.length : Int)
     · rw [if_pos c4] at H
       have c4b0 : decide (x13_1 < (l0.length : Int)) = true := decide_eq_true c4
       clear c4
       by_cases c5 : 0 ≤ x13_1
       · rw [if_pos c5] at H
         have c5b0 : decide (0 ≤ x13_1) = true := decide_eq_true c5
         clear c5
         by_cases c6 : x13_1 < (l0.length : Int)
         · rw [if_pos c6] at H
           have c6b0 : decide (x13_1 < (l0.length : Int)) = true := decide_eq_true c6
           clear c6
           by_cases c7 : x13_1 < (l1.length : Int)
           · rw [if_pos c7] at H
             have c7b0 : decide (x13_1 < (l1.length : Int)) = true := decide_eq_true c7
             clear c7
             replace H := Option.bind_eq_some_iff.mp H
             obtain ⟨t129, A80, H⟩ := H
             replace H : (if t129 = true then (relayplain_SameExprs.l0Of Fn k1 l0 l1 (l0.length : Int) (wrap64 (x13_1 + 1))) else (some false)) = some r := H
             have A8 := Aside0.mk A80
             clear A80
             by_cases c9 : t129 = true
             · subst c9
               have H1 : (relayplain_SameExprs.l0Of Fn k1 l0 l1 (l0.length : Int) (wrap64 (x13_1 + 1))) = some r := by rw [if_pos rfl] at H; exact H
               clear H
               have H := H1
               clear H1
               have H' := Aside0.mk H
               clear H
               try go_wp2
               have n0_ := Aside0.mk (below_drew1 HB.out)
               clear HB
               have HB := n0_
               clear n0_
               have p127 : 0 ≤ (x13_1 : Int) := of_decide_eq_true (by first | (with_reducible assumption) | assumption)
               have q127 : x13_1 < (l0.length : Int) := of_decide_eq_true (by first | (with_reducible assumption) | assumption)
               obtain ⟨ad127, A127_7, c127_7, A127_8, c127_8, e127, hx127_0, hx127_1, hx127_2, hx127_3, hx127_4, hx127_5, hx127_6, hx127_7, hx127_8, hx127_9, hx127_10, hx127_11, hx127_12, hx127_13, hl127_7, hi127_7, hl127_8, hi127_8⟩ := at_T65 HR0.out x13_1 p127 q127
               have hw127_13 := hx127_13
               have hw127_12 := hx127_12
               have hw127_11 := hx127_11
               have hw127_10 := hx127_10
               have hw127_9 := hx127_9
               have hw127_8 := hx127_8
               have hw127_7 := hx127_7
               have hw127_6 := hx127_6
               have hw127_5 := hx127_5
               have hw127_4 := hx127_4
               have hw127_3 := hx127_3
               have hw127_2 := hx127_2
               have hw127_1 := hx127_1
               have hw127_0 := hx127_0
               cases e127
               replace hx127_0 := (HB.out.cell (World.block_lt_of_cell? w _ hx127_0)).trans hx127_0
               replace hx127_1 := (HB.out.cell (World.block_lt_of_cell? w _ hx127_1)).trans hx127_1
               replace hx127_2 := (HB.out.cell (World.block_lt_of_cell? w _ hx127_2)).trans hx127_2
               replace hx127_3 := (HB.out.cell (World.block_lt_of_cell? w _ hx127_3)).trans hx127_3
               replace hx127_4 := (HB.out.cell (World.block_lt_of_cell? w _ hx127_4)).trans hx127_4
               replace hx127_5 := (HB.out.cell (World.block_lt_of_cell? w _ hx127_5)).trans hx127_5
               replace hx127_6 := (HB.out.cell (World.block_lt_of_cell? w _ hx127_6)).trans hx127_6
               replace hx127_7 := (HB.out.cell (World.block_lt_of_cell? w _ hx127_7)).trans hx127_7
               replace hx127_8 := (HB.out.cell (World.block_lt_of_cell? w _ hx127_8)).trans hx127_8
               replace hx127_9 := (HB.out.cell (World.block_lt_of_cell? w _ hx127_9)).trans hx127_9
               replace hx127_10 := (HB.out.cell (World.block_lt_of_cell? w _ hx127_10)).trans hx127_10
               replace hx127_11 := (HB.out.cell (World.block_lt_of_cell? w _ hx127_11)).trans hx127_11
               replace hx127_12 := (HB.out.cell (World.block_lt_of_cell? w _ hx127_12)).trans hx127_12
               replace hx127_13 := (HB.out.cell (World.block_lt_of_cell? w _ hx127_13)).trans hx127_13
               have HR127_7 := Aside0.mk hi127_7
               have HC127_7 := Aside0.mk hl127_7
               clear hi127_7 hl127_7
               have HR127_8 := Aside0.mk hi127_8
               have HC127_8 := Aside0.mk hl127_8
               clear hi127_8 hl127_8
               replace p127 := eq_true p127
               replace q127 := eq_true q127
               have p128 : 0 ≤ (x13_1 : Int) := of_decide_eq_true (by first | (with_reducible assumption) | assumption)
               have q128 : x13_1 < (l1.length : Int) := of_decide_eq_true (by first | (with_reducible assumption) | assumption)
               obtain ⟨ad128, A128_7, c128_7, A128_8, c128_8, e128, hx128_0, hx128_1, hx128_2, hx128_3, hx128_4, hx128_5, hx128_6, hx128_7, hx128_8, hx128_9, hx128_10, hx128_11, hx128_12, hx128_13, hl128_7, hi128_7, hl128_8, hi128_8⟩ := at_T65 HR1.out x13_1 p128 q128
               have hw128_13 := hx128_13
               have hw128_12 := hx128_12
               have hw128_11 := hx128_11
               have hw128_10 := hx128_10
               have hw128_9 := hx128_9
               have hw128_8 := hx128_8
               have hw128_7 := hx128_7
               have hw128_6 := hx128_6
               have hw128_5 := hx128_5
               have hw128_4 := hx128_4
               have hw128_3 := hx128_3
               have hw128_2 := hx128_2
               have hw128_1 := hx128_1
               have hw128_0 := hx128_0
               cases e128
               replace hx128_0 := (HB.out.cell (World.block_lt_of_cell? w _ hx128_0)).trans hx128_0
               replace hx128_1 := (HB.out.cell (World.block_lt_of_cell? w _ hx128_1)).trans hx128_1
               replace hx128_2 := (HB.out.cell (World.block_lt_of_cell? w _ hx128_2)).trans hx128_2
               replace hx128_3 := (HB.out.cell (World.block_lt_of_cell? w _ hx128_3)).trans hx128_3
               replace hx128_4 := (HB.out.cell (World.block_lt_of_cell? w _ hx128_4)).trans hx128_4
               replace hx128_5 := (HB.out.cell (World.block_lt_of_cell? w _ hx128_5)).trans hx128_5
               replace hx128_6 := (HB.out.cell (World.block_lt_of_cell? w _ hx128_6)).trans hx128_6
               replace hx128_7 := (HB.out.cell (World.block_lt_of_cell? w _ hx128_7)).trans hx128_7
               replace hx128_8 := (HB.out.cell (World.block_lt_of_cell? w _ hx128_8)).trans hx128_8
               replace hx128_9 := (HB.out.cell (World.block_lt_of_cell? w _ hx128_9)).trans hx128_9
               replace hx128_10 := (HB.out.cell (World.block_lt_of_cell? w _ hx128_10)).trans hx128_10
               replace hx128_11 := (HB.out.cell (World.block_lt_of_cell? w _ hx128_11)).trans hx128_11
               replace hx128_12 := (HB.out.cell (World.block_lt_of_cell? w _ hx128_12)).trans hx128_12
               replace hx128_13 := (HB.out.cell (World.block_lt_of_cell? w _ hx128_13)).trans hx128_13
               have HR128_7 := Aside0.mk hi128_7
               have HC128_7 := Aside0.mk hl128_7
               clear hi128_7 hl128_7
               have HR128_8 := Aside0.mk hi128_8
               have HC128_8 := Aside0.mk hl128_8
               clear hi128_8 hl128_8
               replace p128 := eq_true p128
               replace q128 := eq_true q128
               refine start_ (n := 10) (S := fun w' => w'.cell? (ad127.add ((x13_1).toNat * 14)) = some (.int .i64 ((rd_T65 l0 x13_1).f0)) ∧ w'.cell? ⟨(ad127.add ((x13_1).toNat * 14)).block, (ad127.add ((x13_1).toNat * 14)).off + 1, none⟩ = some (.int .i64 ((rd_T65 l0 x13_1).f1)) ∧ w'.cell? ⟨(ad127.add ((x13_1).toNat * 14)).block, (ad127.add ((x13_1).toNat * 14)).off + 2, none⟩ = some (.string ((rd_T65 l0 x13_1).f2)) ∧ w'.cell? ⟨(ad127.add ((x13_1).toNat * 14)).block, (ad127.add ((x13_1).toNat * 14)).off + 3, none⟩ = some (.string ((rd_T65 l0 x13_1).f3)) ∧ w'.cell? ⟨(ad127.add ((x13_1).toNat * 14)).block, (ad127.add ((x13_1).toNat * 14)).off + 4, none⟩ = some (.int .u8 ((rd_T65 l0 x13_1).f4.f0)) ∧ w'.cell? ⟨(ad127.add ((x13_1).toNat * 14)).block, (ad127.add ((x13_1).toNat * 14)).off + 5, none⟩ = some (.int .u64 ((rd_T65 l0 x13_1).f4.f1)) ∧ w'.cell? ⟨(ad127.add ((x13_1).toNat * 14)).block, (ad127.add ((x13_1).toNat * 14)).off + 6, none⟩ = some (.string ((rd_T65 l0 x13_1).f4.f2)) ∧ w'.cell? ⟨(ad127.add ((x13_1).toNat * 14)).block, (ad127.add ((x13_1).toNat * 14)).off + 7, none⟩ = some (.slice A127_7 ((rd_T65 l0 x13_1).f5).length c127_7) ∧ w'.cell? ⟨(ad127.add ((x13_1).toNat * 14)).block, (ad127.add ((x13_1).toNat * 14)).off + 8, none⟩ = some (.slice A127_8 ((rd_T65 l0 x13_1).f6).length c127_8) ∧ w'.cell? ⟨(ad127.add ((x13_1).toNat * 14)).block, (ad127.add ((x13_1).toNat * 14)).off + 9, none⟩ = some (.int .u8 ((rd_T65 l0 x13_1).f7)) ∧ w'.cell? ⟨(ad127.add ((x13_1).toNat * 14)).block, (ad127.add ((x13_1).toNat * 14)).off + 10, none⟩ = some (.int .i64 ((rd_T65 l0 x13_1).f8)) ∧ w'.cell? ⟨(ad127.add ((x13_1).toNat * 14)).block, (ad127.add ((x13_1).toNat * 14)).off + 11, none⟩ = some (.int .i64 ((rd_T65 l0 x13_1).f9)) ∧ w'.cell? ⟨(ad127.add ((x13_1).toNat * 14)).block, (ad127.add ((x13_1).toNat * 14)).off + 12, none⟩ = some (.int .i64 ((rd_T65 l0 x13_1).f10)) ∧ w'.cell? ⟨(ad127.add ((x13_1).toNat * 14)).block, (ad127.add ((x13_1).toNat * 14)).off + 13, none⟩ = some (.int .i64 ((rd_T65 l0 x13_1).f11)) ∧ w'.cell? (ad128.add ((x13_1).toNat * 14)) = some (.int .i64 ((rd_T65 l1 x13_1).f0)) ∧ w'.cell? ⟨(ad128.add ((x13_1).toNat * 14)).block, (ad128.add ((x13_1).toNat * 14)).off + 1, none⟩ = some (.int .i64 ((rd_T65 l1 x13_1).f1)) ∧ w'.cell? ⟨(ad128.add ((x13_1).toNat * 14)).block, (ad128.add ((x13_1).toNat * 14)).off + 2, none⟩ = some (.string ((rd_T65 l1 x13_1).f2)) ∧ w'.cell? ⟨(ad128.add ((x13_1).toNat * 14)).block, (ad128.add ((x13_1).toNat * 14)).off + 3, none⟩ = some (.string ((rd_T65 l1 x13_1).f3)) ∧ w'.cell? ⟨(ad128.add ((x13_1).toNat * 14)).block, (ad128.add ((x13_1).toNat * 14)).off + 4, none⟩ = some (.int .u8 ((rd_T65 l1 x13_1).f4.f0)) ∧ w'.cell? ⟨(ad128.add ((x13_1).toNat * 14)).block, (ad128.add ((x13_1).toNat * 14)).off + 5, none⟩ = some (.int .u64 ((rd_T65 l1 x13_1).f4.f1)) ∧ w'.cell? ⟨(ad128.add ((x13_1).toNat * 14)).block, (ad128.add ((x13_1).toNat * 14)).off + 6, none⟩ = some (.string ((rd_T65 l1 x13_1).f4.f2)) ∧ w'.cell? ⟨(ad128.add ((x13_1).toNat * 14)).block, (ad128.add ((x13_1).toNat * 14)).off + 7, none⟩ = some (.slice A128_7 ((rd_T65 l1 x13_1).f5).length c128_7) ∧ w'.cell? ⟨(ad128.add ((x13_1).toNat * 14)).block, (ad128.add ((x13_1).toNat * 14)).off + 8, none⟩ = some (.slice A128_8 ((rd_T65 l1 x13_1).f6).length c128_8) ∧ w'.cell? ⟨(ad128.add ((x13_1).toNat * 14)).block, (ad128.add ((x13_1).toNat * 14)).off + 9, none⟩ = some (.int .u8 ((rd_T65 l1 x13_1).f7)) ∧ w'.cell? ⟨(ad128.add ((x13_1).toNat * 14)).block, (ad128.add ((x13_1).toNat * 14)).off + 10, none⟩ = some (.int .i64 ((rd_T65 l1 x13_1).f8)) ∧ w'.cell? ⟨(ad128.add ((x13_1).toNat * 14)).block, (ad128.add ((x13_1).toNat * 14)).off + 11, none⟩ = some (.int .i64 ((rd_T65 l1 x13_1).f9)) ∧ w'.cell? ⟨(ad128.add ((x13_1).toNat * 14)).block, (ad128.add ((x13_1).toNat * 14)).off + 12, none⟩ = some (.int .i64 ((rd_T65 l1 x13_1).f10)) ∧ w'.cell? ⟨(ad128.add ((x13_1).toNat * 14)).block, (ad128.add ((x13_1).toNat * 14)).off + 13, none⟩ = some (.int .i64 ((rd_T65 l1 x13_1).f11))) (ds := []) #[false, false, false, false, false, false, false, false, false, false] (by kernel_rfl) rfl rfl ⟨((HB.out.cell (World.block_lt_of_cell? w _ hw127_0)).trans hw127_0), ((HB.out.cell (World.block_lt_of_cell? w _ hw127_1)).trans hw127_1), ((HB.out.cell (World.block_lt_of_cell? w _ hw127_2)).trans hw127_2), ((HB.out.cell (World.block_lt_of_cell? w _ hw127_3)).trans hw127_3), ((HB.out.cell (World.block_lt_of_cell? w _ hw127_4)).trans hw127_4), ((HB.out.cell (World.block_lt_of_cell? w _ hw127_5)).trans hw127_5), ((HB.out.cell (World.block_lt_of_cell? w _ hw127_6)).trans hw127_6), ((HB.out.cell (World.block_lt_of_cell? w _ hw127_7)).trans hw127_7), ((HB.out.cell (World.block_lt_of_cell? w _ hw127_8)).trans hw127_8), ((HB.out.cell (World.block_lt_of_cell? w _ hw127_9)).trans hw127_9), ((HB.out.cell (World.block_lt_of_cell? w _ hw127_10)).trans hw127_10), ((HB.out.cell (World.block_lt_of_cell? w _ hw127_11)).trans hw127_11), ((HB.out.cell (World.block_lt_of_cell? w _ hw127_12)).trans hw127_12), ((HB.out.cell (World.block_lt_of_cell? w _ hw127_13)).trans hw127_13), ((HB.out.cell (World.block_lt_of_cell? w _ hw128_0)).trans hw128_0), ((HB.out.cell (World.block_lt_of_cell? w _ hw128_1)).trans hw128_1), ((HB.out.cell (World.block_lt_of_cell? w _ hw128_2)).trans hw128_2), ((HB.out.cell (World.block_lt_of_cell? w _ hw128_3)).trans hw128_3), ((HB.out.cell (World.block_lt_of_cell? w _ hw128_4)).trans hw128_4), ((HB.out.cell (World.block_lt_of_cell? w _ hw128_5)).trans hw128_5), ((HB.out.cell (World.block_lt_of_cell? w _ hw128_6)).trans hw128_6), ((HB.out.cell (World.block_lt_of_cell? w _ hw128_7)).trans hw128_7), ((HB.out.cell (World.block_lt_of_cell? w _ hw128_8)).trans hw128_8), ((HB.out.cell (World.block_lt_of_cell? w _ hw128_9)).trans hw128_9), ((HB.out.cell (World.block_lt_of_cell? w _ hw128_10)).trans hw128_10), ((HB.out.cell (World.block_lt_of_cell? w _ hw128_11)).trans hw128_11), ((HB.out.cell (World.block_lt_of_cell? w _ hw128_12)).trans hw128_12), ((HB.out.cell (World.block_lt_of_cell? w _ hw128_13)).trans hw128_13)⟩ (fun hHeld => ?_); refine with_tabW relayplain_SameExprs.tab6 relayplain_SameExprs.bits6 (fun HT_ HW_ => ?_)
               generalize wr.drew = w10 at HB HR127_7 HR127_8 HR128_7 HR128_8 hx127_0 hx127_1 hx127_10 hx127_11 hx127_12 hx127_13 hx127_2 hx127_3 hx127_4 hx127_5 hx127_6 hx127_7 hx127_8 hx127_9 hx128_0 hx128_1 hx128_10 hx128_11 hx128_12 hx128_13 hx128_2 hx128_3 hx128_4 hx128_5 hx128_6 hx128_7 hx128_8 hx128_9 hHeld ⊢
               refine pure_ (i := 0) (N := some 16) (v := ?_) (a' := ?_) #[true, false, false, false, false, false, false, false, false, false] rfl rfl (any_of HT_.out (by kernel_rfl)) (fun _ _ _ h => h) (Or.inl ⟨by rfl, ?_⟩) ?_ ?_
               rotate_left
               · intro w'
                 go_simp
                 with_reducible rfl
               rotate_left
               · simp only [Act.put, List.setIfInBounds_toArray, List.set_cons_zero, List.set_cons_succ, i64_w, i32_w]
                 rfl
               refine pure_ (i := 1) (N := some 17) (v := ?_) (a' := ?_) #[true, true, false, false, false, false, false, false, false, false] rfl rfl (any_of HT_.out (by kernel_rfl)) (fun _ _ _ h => h) (Or.inl ⟨by rfl, ?_⟩) ?_ ?_
               rotate_left
               · intro w'
                 go_simp
                 with_reducible rfl
               rotate_left
               · simp only [Act.put, List.setIfInBounds_toArray, List.set_cons_zero, List.set_cons_succ, i64_w, i32_w]
                 rfl
               refine pure_ (i := 2) (N := some 18) (v := ?_) (a' := ?_) #[true, true, true, false, false, false, false, false, false, false] rfl rfl (any_of HT_.out (by kernel_rfl)) (fun _ _ _ h => h) (Or.inl ⟨by rfl, ?_⟩) ?_ ?_
               rotate_left
               · intro w'
                 go_simp
                 with_reducible rfl
               rotate_left
               · simp only [Act.put, List.setIfInBounds_toArray, List.set_cons_zero, List.set_cons_succ, i64_w, i32_w]
                 rfl
               refine pure_ (i := 4) (N := some 20) (v := ?_) (a' := ?_) #[true, true, true, false, true, false, false, false, false, false] rfl rfl (any_of HT_.out (by kernel_rfl)) (fun _ _ _ h => h) (Or.inl ⟨by rfl, ?_⟩) ?_ ?_
               rotate_left
               · intro w'
                 go_simp
                 with_reducible rfl
               rotate_left
               · simp only [Act.put, List.setIfInBounds_toArray, List.set_cons_zero, List.set_cons_succ, i64_w, i32_w]
                 rfl
               refine pure_ (i := 5) (N := some 21) (v := ?_) (a' := ?_) #[true, true, true, false, true, true, false, false, false, false] rfl rfl (any_of HT_.out (by kernel_rfl)) (fun _ _ _ h => h) (Or.inl ⟨by rfl, ?_⟩) ?_ ?_
               rotate_left
               · intro w'
                 go_simp
                 with_reducible rfl
               rotate_left
               · simp only [Act.put, List.setIfInBounds_toArray, List.set_cons_zero, List.set_cons_succ, i64_w, i32_w]
                 rfl
               refine pure_ (i := 6) (N := some 22) (v := ?_) (a' := ?_) #[true, true, true, false, true, true, true, false, false, false] rfl rfl (any_of HT_.out (by kernel_rfl)) (fun _ _ _ h => h) (Or.inl ⟨by rfl, ?_⟩) ?_ ?_
               rotate_left
               · intro w'
                 go_simp
                 with_reducible rfl
               rotate_left
               · simp only [Act.put, List.setIfInBounds_toArray, List.set_cons_zero, List.set_cons_succ, i64_w, i32_w]
                 rfl
               refine take_ (i := 3) (N := some 19) (v := ?_) (a' := ?_) #[true, true, true, true, true, true, true, false, false, false] rfl rfl (take_ofW HT_.out HW_.out (by kernel_rfl)) (fun _ _ _ h => h) (Or.inl ⟨by rfl, ?_⟩) hHeld ?_ ?_
               rotate_left
               · rintro w' ⟨s0, s1, s2, s3, s4, s5, s6, s7, s8, s9, s10, s11, s12, s13, s14, s15, s16, s17, s18, s19, s20, s21, s22, s23, s24, s25, s26, s27⟩
                 go_simp
                 with_reducible rfl
               rotate_left
               · simp only [Act.put, List.setIfInBounds_toArray, List.set_cons_zero, List.set_cons_succ, i64_w, i32_w]
                 rfl
               refine take_ (i := 7) (N := some 23) (v := ?_) (a' := ?_) #[true, true, true, true, true, true, true, true, false, false] rfl rfl (take_ofW HT_.out HW_.out (by kernel_rfl)) (fun _ _ _ h => h) (Or.inl ⟨by rfl, ?_⟩) hHeld ?_ ?_
               rotate_left
               · rintro w' ⟨s0, s1, s2, s3, s4, s5, s6, s7, s8, s9, s10, s11, s12, s13, s14, s15, s16, s17, s18, s19, s20, s21, s22, s23, s24, s25, s26, s27⟩
                 go_simp
                 with_reducible rfl
               rotate_left
               · simp only [Act.put, List.setIfInBounds_toArray, List.set_cons_zero, List.set_cons_succ, i64_w, i32_w]
                 rfl
               refine one_ (i := 8) (N := some 24) #[true, true, true, true, true, true, true, true, true, false] rfl rfl (one_of HT_.out (by kernel_rfl)) (by decide) (fun K hK => ?_)
               refine goes_ Try.func43 (by kernel_rfl) rfl #[.agg #[.int .i64 ((rd_T65 l0 x13_1).f0), .int .i64 ((rd_T65 l0 x13_1).f1), .string ((rd_T65 l0 x13_1).f2), .string ((rd_T65 l0 x13_1).f3), .int .u8 ((rd_T65 l0 x13_1).f4.f0), .int .u64 ((rd_T65 l0 x13_1).f4.f1), .string ((rd_T65 l0 x13_1).f4.f2), .slice A127_7 ((rd_T65 l0 x13_1).f5).length c127_7, .slice A127_8 ((rd_T65 l0 x13_1).f6).length c127_8, .int .u8 ((rd_T65 l0 x13_1).f7), .int .i64 ((rd_T65 l0 x13_1).f8), .int .i64 ((rd_T65 l0 x13_1).f9), .int .i64 ((rd_T65 l0 x13_1).f10), .int .i64 ((rd_T65 l0 x13_1).f11)], .agg #[.int .i64 ((rd_T65 l1 x13_1).f0), .int .i64 ((rd_T65 l1 x13_1).f1), .string ((rd_T65 l1 x13_1).f2), .string ((rd_T65 l1 x13_1).f3), .int .u8 ((rd_T65 l1 x13_1).f4.f0), .int .u64 ((rd_T65 l1 x13_1).f4.f1), .string ((rd_T65 l1 x13_1).f4.f2), .slice A128_7 ((rd_T65 l1 x13_1).f5).length c128_7, .slice A128_8 ((rd_T65 l1 x13_1).f6).length c128_8, .int .u8 ((rd_T65 l1 x13_1).f7), .int .i64 ((rd_T65 l1 x13_1).f8), .int .i64 ((rd_T65 l1 x13_1).f9), .int .i64 ((rd_T65 l1 x13_1).f10), .int .i64 ((rd_T65 l1 x13_1).f11)]] (by rfl) rfl rfl (by (try simp only [List.map_toArray, List.map_cons, List.map_nil]); first | done | rfl | (simp only [List.length_drop, List.length_take]; rfl)) ?_
               with_reducible refine (hFn ((rd_T65 l0 x13_1).f0) ((rd_T65 l0 x13_1).f1) ((rd_T65 l0 x13_1).f2) ((rd_T65 l0 x13_1).f3) ((rd_T65 l0 x13_1).f4.f0) ((rd_T65 l0 x13_1).f4.f1) ((rd_T65 l0 x13_1).f4.f2) _ _ ((rd_T65 l0 x13_1).f5) _ _ ((rd_T65 l0 x13_1).f6) ((rd_T65 l0 x13_1).f7) ((rd_T65 l0 x13_1).f8) ((rd_T65 l0 x13_1).f9) ((rd_T65 l0 x13_1).f10) ((rd_T65 l0 x13_1).f11) ((rd_T65 l1 x13_1).f0) ((rd_T65 l1 x13_1).f1) ((rd_T65 l1 x13_1).f2) ((rd_T65 l1 x13_1).f3) ((rd_T65 l1 x13_1).f4.f0) ((rd_T65 l1 x13_1).f4.f1) ((rd_T65 l1 x13_1).f4.f2) _ _ ((rd_T65 l1 x13_1).f5) _ _ ((rd_T65 l1 x13_1).f6) ((rd_T65 l1 x13_1).f7) ((rd_T65 l1 x13_1).f8) ((rd_T65 l1 x13_1).f9) ((rd_T65 l1 x13_1).f10) ((rd_T65 l1 x13_1).f11) true _ ?side1 ?side2 ?side3 ?side4 ?side5 ?side6 ?side7 ?side8 A8.out).mono ?_
               (case side1 => repeat (first | exact (Kd.C_below HR127_7.out HB.out) | (with_reducible refine Kd.C_alloc ?_ _) | (with_reducible refine Kd.C_drewN ?_ _) | (with_reducible refine Kd.C_drew ?_)))
               (case side2 => exact HC127_7.out)
               (case side3 => repeat (first | exact (Kd.C_below HR127_8.out HB.out) | (with_reducible refine Kd.C_alloc ?_ _) | (with_reducible refine Kd.C_drewN ?_ _) | (with_reducible refine Kd.C_drew ?_)))
               (case side4 => exact HC127_8.out)
               (case side5 => repeat (first | exact (Kd.C_below HR128_7.out HB.out) | (with_reducible refine Kd.C_alloc ?_ _) | (with_reducible refine Kd.C_drewN ?_ _) | (with_reducible refine Kd.C_drew ?_)))
               (case side6 => exact HC128_7.out)
               (case side7 => repeat (first | exact (Kd.C_below HR128_8.out HB.out) | (with_reducible refine Kd.C_alloc ?_ _) | (with_reducible refine Kd.C_drewN ?_ _) | (with_reducible refine Kd.C_drew ?_)))
               (case side8 => exact HC128_8.out)
               rintro e w11 ⟨rfl, hb⟩
               refine ⟨_, rfl, ?_⟩
               have n0_ := Aside0.mk (below_step (by repeat (first | (with_reducible first | exact HB.out | apply below_alloc | apply pw_below_drewN | apply below_drew1) | exact HB.out)) hb)
               clear HB
               have HB := n0_
               clear n0_
               (try clear hb)
               (try clear hb2)
               (try clear hk)
               (try clear hi)
               refine hK.out _ _ ⟨((HB.out.cell (World.block_lt_of_cell? w _ hw127_0)).trans hw127_0), ((HB.out.cell (World.block_lt_of_cell? w _ hw127_1)).trans hw127_1), ((HB.out.cell (World.block_lt_of_cell? w _ hw127_2)).trans hw127_2), ((HB.out.cell (World.block_lt_of_cell? w _ hw127_3)).trans hw127_3), ((HB.out.cell (World.block_lt_of_cell? w _ hw127_4)).trans hw127_4), ((HB.out.cell (World.block_lt_of_cell? w _ hw127_5)).trans hw127_5), ((HB.out.cell (World.block_lt_of_cell? w _ hw127_6)).trans hw127_6), ((HB.out.cell (World.block_lt_of_cell? w _ hw127_7)).trans hw127_7), ((HB.out.cell (World.block_lt_of_cell? w _ hw127_8)).trans hw127_8), ((HB.out.cell (World.block_lt_of_cell? w _ hw127_9)).trans hw127_9), ((HB.out.cell (World.block_lt_of_cell? w _ hw127_10)).trans hw127_10), ((HB.out.cell (World.block_lt_of_cell? w _ hw127_11)).trans hw127_11), ((HB.out.cell (World.block_lt_of_cell? w _ hw127_12)).trans hw127_12), ((HB.out.cell (World.block_lt_of_cell? w _ hw127_13)).trans hw127_13), ((HB.out.cell (World.block_lt_of_cell? w _ hw128_0)).trans hw128_0), ((HB.out.cell (World.block_lt_of_cell? w _ hw128_1)).trans hw128_1), ((HB.out.cell (World.block_lt_of_cell? w _ hw128_2)).trans hw128_2), ((HB.out.cell (World.block_lt_of_cell? w _ hw128_3)).trans hw128_3), ((HB.out.cell (World.block_lt_of_cell? w _ hw128_4)).trans hw128_4), ((HB.out.cell (World.block_lt_of_cell? w _ hw128_5)).trans hw128_5), ((HB.out.cell (World.block_lt_of_cell? w _ hw128_6)).trans hw128_6), ((HB.out.cell (World.block_lt_of_cell? w _ hw128_7)).trans hw128_7), ((HB.out.cell (World.block_lt_of_cell? w _ hw128_8)).trans hw128_8), ((HB.out.cell (World.block_lt_of_cell? w _ hw128_9)).trans hw128_9), ((HB.out.cell (World.block_lt_of_cell? w _ hw128_10)).trans hw128_10), ((HB.out.cell (World.block_lt_of_cell? w _ hw128_11)).trans hw128_11), ((HB.out.cell (World.block_lt_of_cell? w _ hw128_12)).trans hw128_12), ((HB.out.cell (World.block_lt_of_cell? w _ hw128_13)).trans hw128_13)⟩ (fun hHeld => ?_)
               clear hK K
               refine norm_ (a' := ?_) ?_ ?_
               rotate_left
               · show Act.put _ (some 24) _ = _
                 simp only [Act.put, List.setIfInBounds_toArray, List.set_cons_zero, List.set_cons_succ, i64_w, i32_w]
                 rfl
               refine pure_ (i := 9) (N := some 25) (v := ?_) (a' := ?_) #[true, true, true, true, true, true, true, true, true, true] rfl rfl (any_of HT_.out (by kernel_rfl)) (fun _ _ _ h => h) (Or.inl ⟨by rfl, ?_⟩) ?_ ?_
               rotate_left
               · intro w'
                 go_simp
                 with_reducible rfl
               rotate_left
               · simp only [Act.put, List.setIfInBounds_toArray, List.set_cons_zero, List.set_cons_succ, i64_w, i32_w]
                 rfl
               refine done_ (done_of HT_.out (by kernel_rfl)) ?_
               try go_wp2
               go_roundg k1
               case measure => have := HK1.out; omega
               case rel => exact ⟨(wrap64 (x13_1 + 1)), (by first | rfl | (simp; done) | (simp [*]; done) | (simp [*, bne]; done)), H', ⟨by have := HK1.out; omega⟩, ⟨by repeat (first | (with_reducible first | exact HB.out | apply below_alloc | apply pw_below_drewN | apply below_drew1) | exact HB.out)⟩⟩
             · replace c9 := Bool.eq_false_iff.mpr c9
               subst c9
               have H1 : (some false) = some r := by rw [if_neg (show ¬ (false = true) by decide)] at H; exact H
               clear H
               have H := H1
               clear H1
               obtain rfl := Option.some.inj H
               try go_wp2
               have n0_ := Aside0.mk (below_drew1 HB.out)
               clear HB
               have HB := n0_
               clear n0_
               have p127 : 0 ≤ (x13_1 : Int) := of_decide_eq_true (by first | (with_reducible assumption) | assumption)
               have q127 : x13_1 < (l0.length : Int) := of_decide_eq_true (by first | (with_reducible assumption) | assumption)
               obtain ⟨ad127, A127_7, c127_7, A127_8, c127_8, e127, hx127_0, hx127_1, hx127_2, hx127_3, hx127_4, hx127_5, hx127_6, hx127_7, hx127_8, hx127_9, hx127_10, hx127_11, hx127_12, hx127_13, hl127_7, hi127_7, hl127_8, hi127_8⟩ := at_T65 HR0.out x13_1 p127 q127
               have hw127_13 := hx127_13
               have hw127_12 := hx127_12
               have hw127_11 := hx127_11
               have hw127_10 := hx127_10
               have hw127_9 := hx127_9
               have hw127_8 := hx127_8
               have hw127_7 := hx127_7
               have hw127_6 := hx127_6
               have hw127_5 := hx127_5
               have hw127_4 := hx127_4
               have hw127_3 := hx127_3
               have hw127_2 := hx127_2
               have hw127_1 := hx127_1
               have hw127_0 := hx127_0
               cases e127
               replace hx127_0 := (HB.out.cell (World.block_lt_of_cell? w _ hx127_0)).trans hx127_0
               replace hx127_1 := (HB.out.cell (World.block_lt_of_cell? w _ hx127_1)).trans hx127_1
               replace hx127_2 := (HB.out.cell (World.block_lt_of_cell? w _ hx127_2)).trans hx127_2
               replace hx127_3 := (HB.out.cell (World.block_lt_of_cell? w _ hx127_3)).trans hx127_3
               replace hx127_4 := (HB.out.cell (World.block_lt_of_cell? w _ hx127_4)).trans hx127_4
               replace hx127_5 := (HB.out.cell (World.block_lt_of_cell? w _ hx127_5)).trans hx127_5
               replace hx127_6 := (HB.out.cell (World.block_lt_of_cell? w _ hx127_6)).trans hx127_6
               replace hx127_7 := (HB.out.cell (World.block_lt_of_cell? w _ hx127_7)).trans hx127_7
               replace hx127_8 := (HB.out.cell (World.block_lt_of_cell? w _ hx127_8)).trans hx127_8
               replace hx127_9 := (HB.out.cell (World.block_lt_of_cell? w _ hx127_9)).trans hx127_9
               replace hx127_10 := (HB.out.cell (World.block_lt_of_cell? w _ hx127_10)).trans hx127_10
               replace hx127_11 := (HB.out.cell (World.block_lt_of_cell? w _ hx127_11)).trans hx127_11
               replace hx127_12 := (HB.out.cell (World.block_lt_of_cell? w _ hx127_12)).trans hx127_12
               replace hx127_13 := (HB.out.cell (World.block_lt_of_cell? w _ hx127_13)).trans hx127_13
               have HR127_7 := Aside0.mk hi127_7
               have HC127_7 := Aside0.mk hl127_7
               clear hi127_7 hl127_7
               have HR127_8 := Aside0.mk hi127_8
               have HC127_8 := Aside0.mk hl127_8
               clear hi127_8 hl127_8
               replace p127 := eq_true p127
               replace q127 := eq_true q127
               have p128 : 0 ≤ (x13_1 : Int) := of_decide_eq_true (by first | (with_reducible assumption) | assumption)
               have q128 : x13_1 < (l1.length : Int) := of_decide_eq_true (by first | (with_reducible assumption) | assumption)
               obtain ⟨ad128, A128_7, c128_7, A128_8, c128_8, e128, hx128_0, hx128_1, hx128_2, hx128_3, hx128_4, hx128_5, hx128_6, hx128_7, hx128_8, hx128_9, hx128_10, hx128_11, hx128_12, hx128_13, hl128_7, hi128_7, hl128_8, hi128_8⟩ := at_T65 HR1.out x13_1 p128 q128
               have hw128_13 := hx128_13
               have hw128_12 := hx128_12
               have hw128_11 := hx128_11
               have hw128_10 := hx128_10
               have hw128_9 := hx128_9
               have hw128_8 := hx128_8
               have hw128_7 := hx128_7
               have hw128_6 := hx128_6
               have hw128_5 := hx128_5
               have hw128_4 := hx128_4
               have hw128_3 := hx128_3
               have hw128_2 := hx128_2
               have hw128_1 := hx128_1
               have hw128_0 := hx128_0
               cases e128
               replace hx128_0 := (HB.out.cell (World.block_lt_of_cell? w _ hx128_0)).trans hx128_0
               replace hx128_1 := (HB.out.cell (World.block_lt_of_cell? w _ hx128_1)).trans hx128_1
               replace hx128_2 := (HB.out.cell (World.block_lt_of_cell? w _ hx128_2)).trans hx128_2
               replace hx128_3 := (HB.out.cell (World.block_lt_of_cell? w _ hx128_3)).trans hx128_3
               replace hx128_4 := (HB.out.cell (World.block_lt_of_cell? w _ hx128_4)).trans hx128_4
               replace hx128_5 := (HB.out.cell (World.block_lt_of_cell? w _ hx128_5)).trans hx128_5
               replace hx128_6 := (HB.out.cell (World.block_lt_of_cell? w _ hx128_6)).trans hx128_6
               replace hx128_7 := (HB.out.cell (World.block_lt_of_cell? w _ hx128_7)).trans hx128_7
               replace hx128_8 := (HB.out.cell (World.block_lt_of_cell? w _ hx128_8)).trans hx128_8
               replace hx128_9 := (HB.out.cell (World.block_lt_of_cell? w _ hx128_9)).trans hx128_9
               replace hx128_10 := (HB.out.cell (World.block_lt_of_cell? w _ hx128_10)).trans hx128_10
               replace hx128_11 := (HB.out.cell (World.block_lt_of_cell? w _ hx128_11)).trans hx128_11
               replace hx128_12 := (HB.out.cell (World.block_lt_of_cell? w _ hx128_12)).trans hx128_12
               replace hx128_13 := (HB.out.cell (World.block_lt_of_cell? w _ hx128_13)).trans hx128_13
               have HR128_7 := Aside0.mk hi128_7
               have HC128_7 := Aside0.mk hl128_7
               clear hi128_7 hl128_7
               have HR128_8 := Aside0.mk hi128_8
               have HC128_8 := Aside0.mk hl128_8
               clear hi128_8 hl128_8
               replace p128 := eq_true p128
               replace q128 := eq_true q128
               refine start_ (n := 10) (S := fun w' => w'.cell? (ad127.add ((x13_1).toNat * 14)) = some (.int .i64 ((rd_T65 l0 x13_1).f0)) ∧ w'.cell? ⟨(ad127.add ((x13_1).toNat * 14)).block, (ad127.add ((x13_1).toNat * 14)).off + 1, none⟩ = some (.int .i64 ((rd_T65 l0 x13_1).f1)) ∧ w'.cell? ⟨(ad127.add ((x13_1).toNat * 14)).block, (ad127.add ((x13_1).toNat * 14)).off + 2, none⟩ = some (.string ((rd_T65 l0 x13_1).f2)) ∧ w'.cell? ⟨(ad127.add ((x13_1).toNat * 14)).block, (ad127.add ((x13_1).toNat * 14)).off + 3, none⟩ = some (.string ((rd_T65 l0 x13_1).f3)) ∧ w'.cell? ⟨(ad127.add ((x13_1).toNat * 14)).block, (ad127.add ((x13_1).toNat * 14)).off + 4, none⟩ = some (.int .u8 ((rd_T65 l0 x13_1).f4.f0)) ∧ w'.cell? ⟨(ad127.add ((x13_1).toNat * 14)).block, (ad127.add ((x13_1).toNat * 14)).off + 5, none⟩ = some (.int .u64 ((rd_T65 l0 x13_1).f4.f1)) ∧ w'.cell? ⟨(ad127.add ((x13_1).toNat * 14)).block, (ad127.add ((x13_1).toNat * 14)).off + 6, none⟩ = some (.string ((rd_T65 l0 x13_1).f4.f2)) ∧ w'.cell? ⟨(ad127.add ((x13_1).toNat * 14)).block, (ad127.add ((x13_1).toNat * 14)).off + 7, none⟩ = some (.slice A127_7 ((rd_T65 l0 x13_1).f5).length c127_7) ∧ w'.cell? ⟨(ad127.add ((x13_1).toNat * 14)).block, (ad127.add ((x13_1).toNat * 14)).off + 8, none⟩ = some (.slice A127_8 ((rd_T65 l0 x13_1).f6).length c127_8) ∧ w'.cell? ⟨(ad127.add ((x13_1).toNat * 14)).block, (ad127.add ((x13_1).toNat * 14)).off + 9, none⟩ = some (.int .u8 ((rd_T65 l0 x13_1).f7)) ∧ w'.cell? ⟨(ad127.add ((x13_1).toNat * 14)).block, (ad127.add ((x13_1).toNat * 14)).off + 10, none⟩ = some (.int .i64 ((rd_T65 l0 x13_1).f8)) ∧ w'.cell? ⟨(ad127.add ((x13_1).toNat * 14)).block, (ad127.add ((x13_1).toNat * 14)).off + 11, none⟩ = some (.int .i64 ((rd_T65 l0 x13_1).f9)) ∧ w'.cell? ⟨(ad127.add ((x13_1).toNat * 14)).block, (ad127.add ((x13_1).toNat * 14)).off + 12, none⟩ = some (.int .i64 ((rd_T65 l0 x13_1).f10)) ∧ w'.cell? ⟨(ad127.add ((x13_1).toNat * 14)).block, (ad127.add ((x13_1).toNat * 14)).off + 13, none⟩ = some (.int .i64 ((rd_T65 l0 x13_1).f11)) ∧ w'.cell? (ad128.add ((x13_1).toNat * 14)) = some (.int .i64 ((rd_T65 l1 x13_1).f0)) ∧ w'.cell? ⟨(ad128.add ((x13_1).toNat * 14)).block, (ad128.add ((x13_1).toNat * 14)).off + 1, none⟩ = some (.int .i64 ((rd_T65 l1 x13_1).f1)) ∧ w'.cell? ⟨(ad128.add ((x13_1).toNat * 14)).block, (ad128.add ((x13_1).toNat * 14)).off + 2, none⟩ = some (.string ((rd_T65 l1 x13_1).f2)) ∧ w'.cell? ⟨(ad128.add ((x13_1).toNat * 14)).block, (ad128.add ((x13_1).toNat * 14)).off + 3, none⟩ = some (.string ((rd_T65 l1 x13_1).f3)) ∧ w'.cell? ⟨(ad128.add ((x13_1).toNat * 14)).block, (ad128.add ((x13_1).toNat * 14)).off + 4, none⟩ = some (.int .u8 ((rd_T65 l1 x13_1).f4.f0)) ∧ w'.cell? ⟨(ad128.add ((x13_1).toNat * 14)).block, (ad128.add ((x13_1).toNat * 14)).off + 5, none⟩ = some (.int .u64 ((rd_T65 l1 x13_1).f4.f1)) ∧ w'.cell? ⟨(ad128.add ((x13_1).toNat * 14)).block, (ad128.add ((x13_1).toNat * 14)).off + 6, none⟩ = some (.string ((rd_T65 l1 x13_1).f4.f2)) ∧ w'.cell? ⟨(ad128.add ((x13_1).toNat * 14)).block, (ad128.add ((x13_1).toNat * 14)).off + 7, none⟩ = some (.slice A128_7 ((rd_T65 l1 x13_1).f5).length c128_7) ∧ w'.cell? ⟨(ad128.add ((x13_1).toNat * 14)).block, (ad128.add ((x13_1).toNat * 14)).off + 8, none⟩ = some (.slice A128_8 ((rd_T65 l1 x13_1).f6).length c128_8) ∧ w'.cell? ⟨(ad128.add ((x13_1).toNat * 14)).block, (ad128.add ((x13_1).toNat * 14)).off + 9, none⟩ = some (.int .u8 ((rd_T65 l1 x13_1).f7)) ∧ w'.cell? ⟨(ad128.add ((x13_1).toNat * 14)).block, (ad128.add ((x13_1).toNat * 14)).off + 10, none⟩ = some (.int .i64 ((rd_T65 l1 x13_1).f8)) ∧ w'.cell? ⟨(ad128.add ((x13_1).toNat * 14)).block, (ad128.add ((x13_1).toNat * 14)).off + 11, none⟩ = some (.int .i64 ((rd_T65 l1 x13_1).f9)) ∧ w'.cell? ⟨(ad128.add ((x13_1).toNat * 14)).block, (ad128.add ((x13_1).toNat * 14)).off + 12, none⟩ = some (.int .i64 ((rd_T65 l1 x13_1).f10)) ∧ w'.cell? ⟨(ad128.add ((x13_1).toNat * 14)).block, (ad128.add ((x13_1).toNat * 14)).off + 13, none⟩ = some (.int .i64 ((rd_T65 l1 x13_1).f11))) (ds := []) #[false, false, false, false, false, false, false, false, false, false] (by kernel_rfl) rfl rfl ⟨((HB.out.cell (World.block_lt_of_cell? w _ hw127_0)).trans hw127_0), ((HB.out.cell (World.block_lt_of_cell? w _ hw127_1)).trans hw127_1), ((HB.out.cell (World.block_lt_of_cell? w _ hw127_2)).trans hw127_2), ((HB.out.cell (World.block_lt_of_cell? w _ hw127_3)).trans hw127_3), ((HB.out.cell (World.block_lt_of_cell? w _ hw127_4)).trans hw127_4), ((HB.out.cell (World.block_lt_of_cell? w _ hw127_5)).trans hw127_5), ((HB.out.cell (World.block_lt_of_cell? w _ hw127_6)).trans hw127_6), ((HB.out.cell (World.block_lt_of_cell? w _ hw127_7)).trans hw127_7), ((HB.out.cell (World.block_lt_of_cell? w _ hw127_8)).trans hw127_8), ((HB.out.cell (World.block_lt_of_cell? w _ hw127_9)).trans hw127_9), ((HB.out.cell (World.block_lt_of_cell? w _ hw127_10)).trans hw127_10), ((HB.out.cell (World.block_lt_of_cell? w _ hw127_11)).trans hw127_11), ((HB.out.cell (World.block_lt_of_cell? w _ hw127_12)).trans hw127_12), ((HB.out.cell (World.block_lt_of_cell? w _ hw127_13)).trans hw127_13), ((HB.out.cell (World.block_lt_of_cell? w _ hw128_0)).trans hw128_0), ((HB.out.cell (World.block_lt_of_cell? w _ hw128_1)).trans hw128_1), ((HB.out.cell (World.block_lt_of_cell? w _ hw128_2)).trans hw128_2), ((HB.out.cell (World.block_lt_of_cell? w _ hw128_3)).trans hw128_3), ((HB.out.cell (World.block_lt_of_cell? w _ hw128_4)).trans hw128_4), ((HB.out.cell (World.block_lt_of_cell? w _ hw128_5)).trans hw128_5), ((HB.out.cell (World.block_lt_of_cell? w _ hw128_6)).trans hw128_6), ((HB.out.cell (World.block_lt_of_cell? w _ hw128_7)).trans hw128_7), ((HB.out.cell (World.block_lt_of_cell? w _ hw128_8)).trans hw128_8), ((HB.out.cell (World.block_lt_of_cell? w _ hw128_9)).trans hw128_9), ((HB.out.cell (World.block_lt_of_cell? w _ hw128_10)).trans hw128_10), ((HB.out.cell (World.block_lt_of_cell? w _ hw128_11)).trans hw128_11), ((HB.out.cell (World.block_lt_of_cell? w _ hw128_12)).trans hw128_12), ((HB.out.cell (World.block_lt_of_cell? w _ hw128_13)).trans hw128_13)⟩ (fun hHeld => ?_); refine with_tabW relayplain_SameExprs.tab6 relayplain_SameExprs.bits6 (fun HT_ HW_ => ?_)
               generalize wr.drew = w12 at HB HR127_7 HR127_8 HR128_7 HR128_8 hx127_0 hx127_1 hx127_10 hx127_11 hx127_12 hx127_13 hx127_2 hx127_3 hx127_4 hx127_5 hx127_6 hx127_7 hx127_8 hx127_9 hx128_0 hx128_1 hx128_10 hx128_11 hx128_12 hx128_13 hx128_2 hx128_3 hx128_4 hx128_5 hx128_6 hx128_7 hx128_8 hx128_9 hHeld ⊢
               refine pure_ (i := 0) (N := some 16) (v := ?_) (a' := ?_) #[true, false, false, false, false, false, false, false, false, false] rfl rfl (any_of HT_.out (by kernel_rfl)) (fun _ _ _ h => h) (Or.inl ⟨by rfl, ?_⟩) ?_ ?_
               rotate_left
               · intro w'
                 go_simp
                 with_reducible rfl
               rotate_left
               · simp only [Act.put, List.setIfInBounds_toArray, List.set_cons_zero, List.set_cons_succ, i64_w, i32_w]
                 rfl
               refine pure_ (i := 1) (N := some 17) (v := ?_) (a' := ?_) #[true, true, false, false, false, false, false, false, false, false] rfl rfl (any_of HT_.out (by kernel_rfl)) (fun _ _ _ h => h) (Or.inl ⟨by rfl, ?_⟩) ?_ ?_
               rotate_left
               · intro w'
                 go_simp
                 with_reducible rfl
               rotate_left
               · simp only [Act.put, List.setIfInBounds_toArray, List.set_cons_zero, List.set_cons_succ, i64_w, i32_w]
                 rfl
               refine pure_ (i := 2) (N := some 18) (v := ?_) (a' := ?_) #[true, true, true, false, false, false, false, false, false, false] rfl rfl (any_of HT_.out (by kernel_rfl)) (fun _ _ _ h => h) (Or.inl ⟨by rfl, ?_⟩) ?_ ?_
               rotate_left
               · intro w'
                 go_simp
                 with_reducible rfl
               rotate_left
               · simp only [Act.put, List.setIfInBounds_toArray, List.set_cons_zero, List.set_cons_succ, i64_w, i32_w]
                 rfl
               refine pure_ (i := 4) (N := some 20) (v := ?_) (a' := ?_) #[true, true, true, false, true, false, false, false, false, false] rfl rfl (any_of HT_.out (by kernel_rfl)) (fun _ _ _ h => h) (Or.inl ⟨by rfl, ?_⟩) ?_ ?_
               rotate_left
               · intro w'
                 go_simp
                 with_reducible rfl
               rotate_left
               · simp only [Act.put, List.setIfInBounds_toArray, List.set_cons_zero, List.set_cons_succ, i64_w, i32_w]
                 rfl
               refine pure_ (i := 5) (N := some 21) (v := ?_) (a' := ?_) #[true, true, true, false, true, true, false, false, false, false] rfl rfl (any_of HT_.out (by kernel_rfl)) (fun _ _ _ h => h) (Or.inl ⟨by rfl, ?_⟩) ?_ ?_
               rotate_left
               · intro w'
                 go_simp
                 with_reducible rfl
               rotate_left
               · simp only [Act.put, List.setIfInBounds_toArray, List.set_cons_zero, List.set_cons_succ, i64_w, i32_w]
                 rfl
               refine pure_ (i := 6) (N := some 22) (v := ?_) (a' := ?_) #[true, true, true, false, true, true, true, false, false, false] rfl rfl (any_of HT_.out (by kernel_rfl)) (fun _ _ _ h => h) (Or.inl ⟨by rfl, ?_⟩) ?_ ?_
               rotate_left
               · intro w'
                 go_simp
                 with_reducible rfl
               rotate_left
               · simp only [Act.put, List.setIfInBounds_toArray, List.set_cons_zero, List.set_cons_succ, i64_w, i32_w]
                 rfl
               refine take_ (i := 3) (N := some 19) (v := ?_) (a' := ?_) #[true, true, true, true, true, true, true, false, false, false] rfl rfl (take_ofW HT_.out HW_.out (by kernel_rfl)) (fun _ _ _ h => h) (Or.inl ⟨by rfl, ?_⟩) hHeld ?_ ?_
               rotate_left
               · rintro w' ⟨s0, s1, s2, s3, s4, s5, s6, s7, s8, s9, s10, s11, s12, s13, s14, s15, s16, s17, s18, s19, s20, s21, s22, s23, s24, s25, s26, s27⟩
                 go_simp
                 with_reducible rfl
               rotate_left
               · simp only [Act.put, List.setIfInBounds_toArray, List.set_cons_zero, List.set_cons_succ, i64_w, i32_w]
                 rfl
               refine take_ (i := 7) (N := some 23) (v := ?_) (a' := ?_) #[true, true, true, true, true, true, true, true, false, false] rfl rfl (take_ofW HT_.out HW_.out (by kernel_rfl)) (fun _ _ _ h => h) (Or.inl ⟨by rfl, ?_⟩) hHeld ?_ ?_
               rotate_left
               · rintro w' ⟨s0, s1, s2, s3, s4, s5, s6, s7, s8, s9, s10, s11, s12, s13, s14, s15, s16, s17, s18, s19, s20, s21, s22, s23, s24, s25, s26, s27⟩
                 go_simp
                 with_reducible rfl
               rotate_left
               · simp only [Act.put, List.setIfInBounds_toArray, List.set_cons_zero, List.set_cons_succ, i64_w, i32_w]
                 rfl
               refine one_ (i := 8) (N := some 24) #[true, true, true, true, true, true, true, true, true, false] rfl rfl (one_of HT_.out (by kernel_rfl)) (by decide) (fun K hK => ?_)
               refine goes_ Try.func43 (by kernel_rfl) rfl #[.agg #[.int .i64 ((rd_T65 l0 x13_1).f0), .int .i64 ((rd_T65 l0 x13_1).f1), .string ((rd_T65 l0 x13_1).f2), .string ((rd_T65 l0 x13_1).f3), .int .u8 ((rd_T65 l0 x13_1).f4.f0), .int .u64 ((rd_T65 l0 x13_1).f4.f1), .string ((rd_T65 l0 x13_1).f4.f2), .slice A127_7 ((rd_T65 l0 x13_1).f5).length c127_7, .slice A127_8 ((rd_T65 l0 x13_1).f6).length c127_8, .int .u8 ((rd_T65 l0 x13_1).f7), .int .i64 ((rd_T65 l0 x13_1).f8), .int .i64 ((rd_T65 l0 x13_1).f9), .int .i64 ((rd_T65 l0 x13_1).f10), .int .i64 ((rd_T65 l0 x13_1).f11)], .agg #[.int .i64 ((rd_T65 l1 x13_1).f0), .int .i64 ((rd_T65 l1 x13_1).f1), .string ((rd_T65 l1 x13_1).f2), .string ((rd_T65 l1 x13_1).f3), .int .u8 ((rd_T65 l1 x13_1).f4.f0), .int .u64 ((rd_T65 l1 x13_1).f4.f1), .string ((rd_T65 l1 x13_1).f4.f2), .slice A128_7 ((rd_T65 l1 x13_1).f5).length c128_7, .slice A128_8 ((rd_T65 l1 x13_1).f6).length c128_8, .int .u8 ((rd_T65 l1 x13_1).f7), .int .i64 ((rd_T65 l1 x13_1).f8), .int .i64 ((rd_T65 l1 x13_1).f9), .int .i64 ((rd_T65 l1 x13_1).f10), .int .i64 ((rd_T65 l1 x13_1).f11)]] (by rfl) rfl rfl (by (try simp only [List.map_toArray, List.map_cons, List.map_nil]); first | done | rfl | (simp only [List.length_drop, List.length_take]; rfl)) ?_
               with_reducible refine (hFn ((rd_T65 l0 x13_1).f0) ((rd_T65 l0 x13_1).f1) ((rd_T65 l0 x13_1).f2) ((rd_T65 l0 x13_1).f3) ((rd_T65 l0 x13_1).f4.f0) ((rd_T65 l0 x13_1).f4.f1) ((rd_T65 l0 x13_1).f4.f2) _ _ ((rd_T65 l0 x13_1).f5) _ _ ((rd_T65 l0 x13_1).f6) ((rd_T65 l0 x13_1).f7) ((rd_T65 l0 x13_1).f8) ((rd_T65 l0 x13_1).f9) ((rd_T65 l0 x13_1).f10) ((rd_T65 l0 x13_1).f11) ((rd_T65 l1 x13_1).f0) ((rd_T65 l1 x13_1).f1) ((rd_T65 l1 x13_1).f2) ((rd_T65 l1 x13_1).f3) ((rd_T65 l1 x13_1).f4.f0) ((rd_T65 l1 x13_1).f4.f1) ((rd_T65 l1 x13_1).f4.f2) _ _ ((rd_T65 l1 x13_1).f5) _ _ ((rd_T65 l1 x13_1).f6) ((rd_T65 l1 x13_1).f7) ((rd_T65 l1 x13_1).f8) ((rd_T65 l1 x13_1).f9) ((rd_T65 l1 x13_1).f10) ((rd_T65 l1 x13_1).f11) false _ ?side1 ?side2 ?side3 ?side4 ?side5 ?side6 ?side7 ?side8 A8.out).mono ?_
               (case side1 => repeat (first | exact (Kd.C_below HR127_7.out HB.out) | (with_reducible refine Kd.C_alloc ?_ _) | (with_reducible refine Kd.C_drewN ?_ _) | (with_reducible refine Kd.C_drew ?_)))
               (case side2 => exact HC127_7.out)
               (case side3 => repeat (first | exact (Kd.C_below HR127_8.out HB.out) | (with_reducible refine Kd.C_alloc ?_ _) | (with_reducible refine Kd.C_drewN ?_ _) | (with_reducible refine Kd.C_drew ?_)))
               (case side4 => exact HC127_8.out)
               (case side5 => repeat (first | exact (Kd.C_below HR128_7.out HB.out) | (with_reducible refine Kd.C_alloc ?_ _) | (with_reducible refine Kd.C_drewN ?_ _) | (with_reducible refine Kd.C_drew ?_)))
               (case side6 => exact HC128_7.out)
               (case side7 => repeat (first | exact (Kd.C_below HR128_8.out HB.out) | (with_reducible refine Kd.C_alloc ?_ _) | (with_reducible refine Kd.C_drewN ?_ _) | (with_reducible refine Kd.C_drew ?_)))
               (case side8 => exact HC128_8.out)
               rintro e w13 ⟨rfl, hb⟩
               refine ⟨_, rfl, ?_⟩
               have n0_ := Aside0.mk (below_step (by repeat (first | (with_reducible first | exact HB.out | apply below_alloc | apply pw_below_drewN | apply below_drew1) | exact HB.out)) hb)
               clear HB
               have HB := n0_
               clear n0_
               (try clear hb)
               (try clear hb2)
               (try clear hk)
               (try clear hi)
               refine hK.out _ _ ⟨((HB.out.cell (World.block_lt_of_cell? w _ hw127_0)).trans hw127_0), ((HB.out.cell (World.block_lt_of_cell? w _ hw127_1)).trans hw127_1), ((HB.out.cell (World.block_lt_of_cell? w _ hw127_2)).trans hw127_2), ((HB.out.cell (World.block_lt_of_cell? w _ hw127_3)).trans hw127_3), ((HB.out.cell (World.block_lt_of_cell? w _ hw127_4)).trans hw127_4), ((HB.out.cell (World.block_lt_of_cell? w _ hw127_5)).trans hw127_5), ((HB.out.cell (World.block_lt_of_cell? w _ hw127_6)).trans hw127_6), ((HB.out.cell (World.block_lt_of_cell? w _ hw127_7)).trans hw127_7), ((HB.out.cell (World.block_lt_of_cell? w _ hw127_8)).trans hw127_8), ((HB.out.cell (World.block_lt_of_cell? w _ hw127_9)).trans hw127_9), ((HB.out.cell (World.block_lt_of_cell? w _ hw127_10)).trans hw127_10), ((HB.out.cell (World.block_lt_of_cell? w _ hw127_11)).trans hw127_11), ((HB.out.cell (World.block_lt_of_cell? w _ hw127_12)).trans hw127_12), ((HB.out.cell (World.block_lt_of_cell? w _ hw127_13)).trans hw127_13), ((HB.out.cell (World.block_lt_of_cell? w _ hw128_0)).trans hw128_0), ((HB.out.cell (World.block_lt_of_cell? w _ hw128_1)).trans hw128_1), ((HB.out.cell (World.block_lt_of_cell? w _ hw128_2)).trans hw128_2), ((HB.out.cell (World.block_lt_of_cell? w _ hw128_3)).trans hw128_3), ((HB.out.cell (World.block_lt_of_cell? w _ hw128_4)).trans hw128_4), ((HB.out.cell (World.block_lt_of_cell? w _ hw128_5)).trans hw128_5), ((HB.out.cell (World.block_lt_of_cell? w _ hw128_6)).trans hw128_6), ((HB.out.cell (World.block_lt_of_cell? w _ hw128_7)).trans hw128_7), ((HB.out.cell (World.block_lt_of_cell? w _ hw128_8)).trans hw128_8), ((HB.out.cell (World.block_lt_of_cell? w _ hw128_9)).trans hw128_9), ((HB.out.cell (World.block_lt_of_cell? w _ hw128_10)).trans hw128_10), ((HB.out.cell (World.block_lt_of_cell? w _ hw128_11)).trans hw128_11), ((HB.out.cell (World.block_lt_of_cell? w _ hw128_12)).trans hw128_12), ((HB.out.cell (World.block_lt_of_cell? w _ hw128_13)).trans hw128_13)⟩ (fun hHeld => ?_)
               clear hK K
               refine norm_ (a' := ?_) ?_ ?_
               rotate_left
               · show Act.put _ (some 24) _ = _
                 simp only [Act.put, List.setIfInBounds_toArray, List.set_cons_zero, List.set_cons_succ, i64_w, i32_w]
                 rfl
               refine pure_ (i := 9) (N := some 25) (v := ?_) (a' := ?_) #[true, true, true, true, true, true, true, true, true, true] rfl rfl (any_of HT_.out (by kernel_rfl)) (fun _ _ _ h => h) (Or.inl ⟨by rfl, ?_⟩) ?_ ?_
               rotate_left
               · intro w'
                 go_simp
                 with_reducible rfl
               rotate_left
               · simp only [Act.put, List.setIfInBounds_toArray, List.set_cons_zero, List.set_cons_succ, i64_w, i32_w]
                 rfl
               refine done_ (done_of HT_.out (by kernel_rfl)) ?_
               try go_wp2
               go_ret
               exact ⟨by first | rfl | (simp [errW_none, errW_some] <;> rfl) | (simp [*, errW_none, errW_some] <;> rfl), by repeat (first | (with_reducible first | exact HB.out | apply below_alloc | apply pw_below_drewN | apply below_drew1) | exact HB.out)⟩
           · rw [if_neg c7] at H
             exact absurd H (by simp)
         · rw [if_neg c6] at H
           exact absurd H (by simp)
       · rw [if_neg c5] at H
         exact absurd H (by simp)
     · rw [if_neg c4] at H
       have c4b0 : decide (x13_1 < (l0.length : Int)) = false := decide_eq_false c4
       clear c4
       obtain rfl := Option.some.inj H
       go_wp2
       go_ret
       exact ⟨by first | rfl | (simp [errW_none, errW_some] <;> rfl) | (simp [*, errW_none, errW_some] <;> rfl), by repeat (first | (with_reducible first | exact HB.out | apply below_alloc | apply pw_below_drewN | apply below_drew1) | exact HB.out)⟩
 · rw [if_neg c3] at H
   have c3b0 : ((l0.length : Int) == (l1.length : Int)) = false := beq_eq_false_iff_ne.mpr c3
   have c3b1 : ((l0.length : Int) != (l1.length : Int)) = true := bne_iff_ne.mpr c3
   have c3b2 : (l0.length == l1.length) = false := by first | simpa using c3 | (simp at c3 ⊢; omega)
   obtain rfl := Option.some.inj H
   go_enter Try.func49, Try.ntmps49
   go_wp2
   go_ret
   exact ⟨by first | rfl | (simp [errW_none, errW_some] <;> rfl) | (simp [*, errW_none, errW_some] <;> rfl), by repeat (first | (with_reducible first | exact HB.out | apply below_alloc | apply pw_below_drewN | apply below_drew1) | exact HB.out)⟩

/-! #### All together, by recursion on a number -/
def relayplain_SameExprs.rec : Nat → List (S65) → List (S65) → Option (Bool)
 | 0 => fun _ _ => none
 | n + 1 => relayplain_SameExprs.fOf (relayplain_SameExpr.fOf (relayplain_SameExprs.rec n) (n + 1)) (n + 1)
def relayplain_SameExprs.f (k : Nat) (l0 : List (S65)) (l1 : List (S65)) : Option (Bool) := relayplain_SameExprs.rec k l0 l1
theorem relayplain_SameExprs.mono : ∀ z0_0 z0_1 k, LeO (relayplain_SameExprs.f k z0_0 z0_1) (relayplain_SameExprs.f (k + 1) z0_0 z0_1) := by
 intro z0_0 z0_1 k
 induction k generalizing z0_0 z0_1 with
 | zero => exact LeO.none _
 | succ n ih => exact relayplain_SameExprs.monoOf _ _ (fun z1_0 z1_1 z1_2 z1_3 z1_4 z1_5 z1_6 z1_7 z1_8 z1_9 z1_10 z1_11 z1_12 z1_13 z1_14 z1_15 z1_16 z1_17 z1_18 z1_19 z1_20 z1_21 z1_22 z1_23 z1_24 z1_25 z1_26 z1_27 => relayplain_SameExpr.monoOf _ _ ih z1_0 z1_1 z1_2 z1_3 z1_4 z1_5 z1_6 z1_7 z1_8 z1_9 z1_10 z1_11 z1_12 z1_13 z1_14 z1_15 z1_16 z1_17 z1_18 z1_19 z1_20 z1_21 z1_22 z1_23 z1_24 z1_25 z1_26 z1_27 (n + 1)) z0_0 z0_1 (n + 1)
theorem relayplain_SameExprs.calls (k : Nat) : ∀ (A0 : Option Addr) (c0 : Nat) (l0 : List (S65)) (A1 : Option Addr) (c1 : Nat) (l1 : List (S65)) (r : Bool) (w : World) (hr0 : Kd.C k65 w A0 l0.length l0) (hc0 : l0.length ≤ c0) (hr1 : Kd.C k65 w A1 l1.length l1) (hc1 : l1.length ≤ c1) (h : relayplain_SameExprs.f k l0 l1 = some r),
 Calls Try.prog 49 #[.slice A0 l0.length c0, .slice A1 l1.length c1] w fun e w' => e = .returned (.bool r) ∧ Below w.heap.size w w' := by
 induction k with
 | zero => intro A0 c0 l0 A1 c1 l1 r w hr0 hc0 hr1 hc1 h; cases h
 | succ n ih => exact relayplain_SameExprs.callsOf _ (fun a0_0 a0_1 a0_2 a0_3 a0_4 a0_5 a0_6 A0_7 c0_7 l0_7 A0_8 c0_8 l0_8 a0_9 a0_10 a0_11 a0_12 a0_13 a1_0 a1_1 a1_2 a1_3 a1_4 a1_5 a1_6 A1_7 c1_7 l1_7 A1_8 c1_8 l1_8 a1_9 a1_10 a1_11 a1_12 a1_13 r w hr0_7 hc0_7 hr0_8 hc0_8 hr1_7 hc1_7 hr1_8 hc1_8 h => relayplain_SameExpr.callsOf _ ih (n + 1) a0_0 a0_1 a0_2 a0_3 a0_4 a0_5 a0_6 A0_7 c0_7 l0_7 A0_8 c0_8 l0_8 a0_9 a0_10 a0_11 a0_12 a0_13 a1_0 a1_1 a1_2 a1_3 a1_4 a1_5 a1_6 A1_7 c1_7 l1_7 A1_8 c1_8 l1_8 a1_9 a1_10 a1_11 a1_12 a1_13 r w hr0_7 hc0_7 hr0_8 hc0_8 hr1_7 hc1_7 hr1_8 hc1_8 h) (n + 1)
def relayplain_SameExpr.f (k : Nat) (a0_0 : Int) (a0_1 : Int) (a0_2 : ByteArray) (a0_3 : ByteArray) (a0_4 : Int) (a0_5 : Int) (a0_6 : ByteArray) (l0_7 : List (S65)) (l0_8 : List ByteArray) (a0_9 : Int) (a0_10 : Int) (a0_11 : Int) (a0_12 : Int) (a0_13 : Int) (a1_0 : Int) (a1_1 : Int) (a1_2 : ByteArray) (a1_3 : ByteArray) (a1_4 : Int) (a1_5 : Int) (a1_6 : ByteArray) (l1_7 : List (S65)) (l1_8 : List ByteArray) (a1_9 : Int) (a1_10 : Int) (a1_11 : Int) (a1_12 : Int) (a1_13 : Int) : Option (Bool) := relayplain_SameExpr.fOf (relayplain_SameExprs.rec k) (k + 1) a0_0 a0_1 a0_2 a0_3 a0_4 a0_5 a0_6 l0_7 l0_8 a0_9 a0_10 a0_11 a0_12 a0_13 a1_0 a1_1 a1_2 a1_3 a1_4 a1_5 a1_6 l1_7 l1_8 a1_9 a1_10 a1_11 a1_12 a1_13
theorem relayplain_SameExpr.mono : ∀ z1_0 z1_1 z1_2 z1_3 z1_4 z1_5 z1_6 z1_7 z1_8 z1_9 z1_10 z1_11 z1_12 z1_13 z1_14 z1_15 z1_16 z1_17 z1_18 z1_19 z1_20 z1_21 z1_22 z1_23 z1_24 z1_25 z1_26 z1_27 k, LeO (relayplain_SameExpr.f k z1_0 z1_1 z1_2 z1_3 z1_4 z1_5 z1_6 z1_7 z1_8 z1_9 z1_10 z1_11 z1_12 z1_13 z1_14 z1_15 z1_16 z1_17 z1_18 z1_19 z1_20 z1_21 z1_22 z1_23 z1_24 z1_25 z1_26 z1_27) (relayplain_SameExpr.f (k + 1) z1_0 z1_1 z1_2 z1_3 z1_4 z1_5 z1_6 z1_7 z1_8 z1_9 z1_10 z1_11 z1_12 z1_13 z1_14 z1_15 z1_16 z1_17 z1_18 z1_19 z1_20 z1_21 z1_22 z1_23 z1_24 z1_25 z1_26 z1_27) := fun z1_0 z1_1 z1_2 z1_3 z1_4 z1_5 z1_6 z1_7 z1_8 z1_9 z1_10 z1_11 z1_12 z1_13 z1_14 z1_15 z1_16 z1_17 z1_18 z1_19 z1_20 z1_21 z1_22 z1_23 z1_24 z1_25 z1_26 z1_27 k => relayplain_SameExpr.monoOf _ _ (fun z0_0 z0_1 => relayplain_SameExprs.mono z0_0 z0_1 k) z1_0 z1_1 z1_2 z1_3 z1_4 z1_5 z1_6 z1_7 z1_8 z1_9 z1_10 z1_11 z1_12 z1_13 z1_14 z1_15 z1_16 z1_17 z1_18 z1_19 z1_20 z1_21 z1_22 z1_23 z1_24 z1_25 z1_26 z1_27 (k + 1)
theorem relayplain_SameExpr.calls (k : Nat) : ∀ (a0_0 : Int) (a0_1 : Int) (a0_2 : ByteArray) (a0_3 : ByteArray) (a0_4 : Int) (a0_5 : Int) (a0_6 : ByteArray) (A0_7 : Option Addr) (c0_7 : Nat) (l0_7 : List (S65)) (A0_8 : Option Addr) (c0_8 : Nat) (l0_8 : List ByteArray) (a0_9 : Int) (a0_10 : Int) (a0_11 : Int) (a0_12 : Int) (a0_13 : Int) (a1_0 : Int) (a1_1 : Int) (a1_2 : ByteArray) (a1_3 : ByteArray) (a1_4 : Int) (a1_5 : Int) (a1_6 : ByteArray) (A1_7 : Option Addr) (c1_7 : Nat) (l1_7 : List (S65)) (A1_8 : Option Addr) (c1_8 : Nat) (l1_8 : List ByteArray) (a1_9 : Int) (a1_10 : Int) (a1_11 : Int) (a1_12 : Int) (a1_13 : Int) (r : Bool) (w : World) (hr0_7 : Kd.C k65 w A0_7 l0_7.length l0_7) (hc0_7 : l0_7.length ≤ c0_7) (hr0_8 : Kd.C Kd.string w A0_8 l0_8.length l0_8) (hc0_8 : l0_8.length ≤ c0_8) (hr1_7 : Kd.C k65 w A1_7 l1_7.length l1_7) (hc1_7 : l1_7.length ≤ c1_7) (hr1_8 : Kd.C Kd.string w A1_8 l1_8.length l1_8) (hc1_8 : l1_8.length ≤ c1_8) (h : relayplain_SameExpr.f k a0_0 a0_1 a0_2 a0_3 a0_4 a0_5 a0_6 l0_7 l0_8 a0_9 a0_10 a0_11 a0_12 a0_13 a1_0 a1_1 a1_2 a1_3 a1_4 a1_5 a1_6 l1_7 l1_8 a1_9 a1_10 a1_11 a1_12 a1_13 = some r),
 Calls Try.prog 43 #[.agg #[.int .i64 a0_0, .int .i64 a0_1, .string a0_2, .string a0_3, .int .u8 a0_4, .int .u64 a0_5, .string a0_6, .slice A0_7 l0_7.length c0_7, .slice A0_8 l0_8.length c0_8, .int .u8 a0_9, .int .i64 a0_10, .int .i64 a0_11, .int .i64 a0_12, .int .i64 a0_13], .agg #[.int .i64 a1_0, .int .i64 a1_1, .string a1_2, .string a1_3, .int .u8 a1_4, .int .u64 a1_5, .string a1_6, .slice A1_7 l1_7.length c1_7, .slice A1_8 l1_8.length c1_8, .int .u8 a1_9, .int .i64 a1_10, .int .i64 a1_11, .int .i64 a1_12, .int .i64 a1_13]] w fun e w' => e = .returned (.bool r) ∧ Below w.heap.size w w' := fun a0_0 a0_1 a0_2 a0_3 a0_4 a0_5 a0_6 A0_7 c0_7 l0_7 A0_8 c0_8 l0_8 a0_9 a0_10 a0_11 a0_12 a0_13 a1_0 a1_1 a1_2 a1_3 a1_4 a1_5 a1_6 A1_7 c1_7 l1_7 A1_8 c1_8 l1_8 a1_9 a1_10 a1_11 a1_12 a1_13 r w hr0_7 hc0_7 hr0_8 hc0_8 hr1_7 hc1_7 hr1_8 hc1_8 h => relayplain_SameExpr.callsOf _ (relayplain_SameExprs.calls k) (k + 1) a0_0 a0_1 a0_2 a0_3 a0_4 a0_5 a0_6 A0_7 c0_7 l0_7 A0_8 c0_8 l0_8 a0_9 a0_10 a0_11 a0_12 a0_13 a1_0 a1_1 a1_2 a1_3 a1_4 a1_5 a1_6 A1_7 c1_7 l1_7 A1_8 c1_8 l1_8 a1_9 a1_10 a1_11 a1_12 a1_13 r w hr0_7 hc0_7 hr0_8 hc0_8 hr1_7 hc1_7 hr1_8 hc1_8 h

end Go.Proofs.Ytmdkbhbconnmmaa.XIl
