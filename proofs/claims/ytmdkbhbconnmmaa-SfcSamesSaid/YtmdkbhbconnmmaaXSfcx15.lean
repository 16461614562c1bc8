-- WRITTEN BY wip/tools/sfc/all.py
import Derived.Test.YtmdkbhbconnmmaaXSfcB
import Derived.Test.YtmdkbhbconnmmaaXSfcx1
import Derived.Test.YtmdkbhbconnmmaaXSfcx4
namespace Go.Proofs.Ytmdkbhbconnmmaa.XSfc
open Go.RowKit Go.Proofs.YtmdkbhbconnmmaaW.PrintWords Go.Proofs.YtmdkbhbconnmmaaW.PrintLast Go.Proofs.YtmdkbhbconnmmaaW.PrintMore
attribute [local go_sem] max2_int min2_int max_two min_two max_three min_three max_four min_four
set_option linter.unusedVariables false
set_option linter.unusedSimpArgs false
attribute [local go_sem high] eqA63
def relayplain_SameExpr.el (F : List S65 → List S65 → Option Bool) (k : Nat) (x y : S65) : Option Bool := if x.f0 = y.f0 then (if x.f1 = y.f1 then (if x.f2.toList = y.f2.toList then (if x.f3.toList = y.f3.toList then (if (x.f4.f0 == y.f4.f0 && (x.f4.f1 == y.f4.f1 && (x.f4.f2.toList == y.f4.f2.toList))) = true then (if x.f7 = y.f7 then (if x.f8 = y.f8 then (if x.f9 = y.f9 then (if x.f10 = y.f10 then (if x.f11 = y.f11 then ((slices_Equal_string_string.f k x.f6 y.f6).bind fun u10 => if u10 = true then ((F x.f5 y.f5).bind fun u11 => if u11 = true then (some true) else some false) else some false) else some false) else some false) else some false) else some false) else some false) else some false) else some false) else some false) else some false) else some false
set_option maxHeartbeats 16000000 in
set_option maxRecDepth 100000 in
theorem relayplain_SameExpr.callsOf (F : List S65 → List S65 → Option Bool) (hF : ∀ (A0 : Option Addr) (c0 : Nat) (l0 : List (S65)) (A1 : Option Addr) (c1 : Nat) (l1 : List (S65)) (r : Bool) (w : World) (hr0 : Kd.C k65 w A0 l0.length l0) (hc0 : l0.length ≤ c0) (hr1 : Kd.C k65 w A1 l1.length l1) (hc1 : l1.length ≤ c1) (h : F l0 l1 = some r), Calls Try.prog 49 #[.slice A0 l0.length c0, .slice A1 l1.length c1] w fun e w' => e = .returned (.bool r) ∧ Below w.heap.size w w') (k : Nat) (x y : S65) (aA7 : Option Addr) (ac7 : Nat) (aA8 : Option Addr) (ac8 : Nat) (bA7 : Option Addr) (bc7 : Nat) (bA8 : Option Addr) (bc8 : Nat) (r : Bool) (w : World) (ahc0 : Kd.C k65 w aA7 x.f5.length x.f5) (ahl0 : x.f5.length ≤ ac7) (ahc1 : Kd.C Kd.string w aA8 x.f6.length x.f6) (ahl1 : x.f6.length ≤ ac8) (bhc0 : Kd.C k65 w bA7 y.f5.length y.f5) (bhl0 : y.f5.length ≤ bc7) (bhc1 : Kd.C Kd.string w bA8 y.f6.length y.f6) (bhl1 : y.f6.length ≤ bc8) (h : relayplain_SameExpr.el F k x y = some r) :
  Calls Try.prog 43 #[.agg #[.int .i64 x.f0, .int .i64 x.f1, .string x.f2, .string x.f3, .int .u8 x.f4.f0, .int .u64 x.f4.f1, .string x.f4.f2, .slice aA7 x.f5.length ac7, .slice aA8 x.f6.length ac8, .int .u8 x.f7, .int .i64 x.f8, .int .i64 x.f9, .int .i64 x.f10, .int .i64 x.f11], .agg #[.int .i64 y.f0, .int .i64 y.f1, .string y.f2, .string y.f3, .int .u8 y.f4.f0, .int .u64 y.f4.f1, .string y.f4.f2, .slice bA7 y.f5.length bc7, .slice bA8 y.f6.length bc8, .int .u8 y.f7, .int .i64 y.f8, .int .i64 y.f9, .int .i64 y.f10, .int .i64 y.f11]] w fun e w' => e = .returned (.bool r) ∧ Below w.heap.size w w' := by
 have hu := Try.underlying65
 have hu63 := Try.underlying63
 have HF := Aside0.mk hF
 clear hF
 have HB := Aside0.mk (Below.refl w.heap.size w)
 unfold relayplain_SameExpr.el at h
 have HE := Aside0.mk h
 clear h
 have HH1 : Aside0 ((if r = true then some true else some false) = some r) := ⟨by cases r <;> rfl⟩
 go_enter Try.func43, Try.ntmps43
 go_upto_region 1 with (first | ((with_reducible refine gate_dst (N := 2) rfl ?_); refine box_event ?hg (N := 2) ?hd (cs := #[.int .i64 x.f0, .int .i64 x.f1, .string x.f2, .string x.f3, .int .u8 x.f4.f0, .int .u64 x.f4.f1, .string x.f4.f2, .slice aA7 x.f5.length ac7, .slice aA8 x.f6.length ac8, .int .u8 x.f7, .int .i64 x.f8, .int .i64 x.f9, .int .i64 x.f10, .int .i64 x.f11]) (t := 65) ?hr ?_; (case hd => rfl); (case hg => rfl); (case hr => first | (go_simp; done) | (go_simp; rfl)); intro g1 hg w1 hbox hb; have n0_ := Aside0.mk (below_step (by repeat (first | (with_reducible first | exact HB.out | apply below_alloc | apply pw_below_drewN | apply below_drew1) | exact HB.out)) hb); have G1 := Aside0.mk ((by rw [hg]; exact below_size (by repeat (first | (with_reducible first | exact HB.out | apply below_alloc | apply pw_below_drewN | apply below_drew1) | exact HB.out))) : w.heap.size ≤ g1); have B1 := Aside0.mk hbox; clear HB; have HB := n0_; clear n0_ hb hbox hg) | ((with_reducible refine gate_dst (N := 3) rfl ?_); refine box_event ?hg (N := 3) ?hd (cs := #[.int .i64 y.f0, .int .i64 y.f1, .string y.f2, .string y.f3, .int .u8 y.f4.f0, .int .u64 y.f4.f1, .string y.f4.f2, .slice bA7 y.f5.length bc7, .slice bA8 y.f6.length bc8, .int .u8 y.f7, .int .i64 y.f8, .int .i64 y.f9, .int .i64 y.f10, .int .i64 y.f11]) (t := 65) ?hr ?_; (case hd => rfl); (case hg => rfl); (case hr => first | (go_simp; done) | (go_simp; rfl)); intro g2 hg w2 hbox hb; have n0_ := Aside0.mk (below_step (by repeat (first | (with_reducible first | exact HB.out | apply below_alloc | apply pw_below_drewN | apply below_drew1) | exact HB.out)) hb); have n1_ := Aside0.mk (blk_below B1.out hb); have NE1_2 := Aside0.mk ((by rw [hg]; exact Nat.ne_of_lt (blk_lt B1.out)) : g1 ≠ g2); clear B1; have B1 := n1_; clear n1_; have G2 := Aside0.mk ((by rw [hg]; exact below_size (by repeat (first | (with_reducible first | exact HB.out | apply below_alloc | apply pw_below_drewN | apply below_drew1) | exact HB.out))) : w.heap.size ≤ g2); have B2 := Aside0.mk hbox; clear HB; have HB := n0_; clear n0_ hb hbox hg))
 have BB := Aside0.mk (And.intro B1.out B2.out)
 clear B1 B2 G1 G2 NE1_2
 obtain ⟨z0, z1, z2, z3, z4, z5, z6, -, -, z9, -, -, -, -, -, -, -, -, -, -, -, -, -, -, -, -, -, -⟩ := cells14 BB.out.1
 obtain ⟨y0, y1, y2, y3, y4, y5, y6, -, -, y9, -, -, -, -, -, -, -, -, -, -, -, -, -, -, -, -, -, -⟩ := cells14 BB.out.2
 by_cases c0 : x.f0 = y.f0
 case neg =>
  have d0_0 : (x.f0 == y.f0) = false := beq_eq_false_iff_ne.mpr c0
  have d0_1 : (x.f0 != y.f0) = true := bne_iff_ne.mpr c0
  have hr := HE.out
  rw [if_neg c0] at hr
  clear HE c0
  have HE := Aside0.mk hr
  clear hr
  obtain rfl := Option.some.inj HE.out
  have hr := HH1.out
  rw [if_neg Bool.false_ne_true] at hr
  clear hr HE HH1
  go_wp2
  go_ret
  exact ⟨rfl, (by repeat (first | (with_reducible first | exact HB.out | apply below_alloc | apply pw_below_drewN | apply below_drew1) | exact HB.out))⟩
 have d0_0 : (x.f0 == y.f0) = true := beq_iff_eq.mpr c0
 have d0_1 : (x.f0 != y.f0) = false := bne_eq_false_iff_eq.mpr c0
 have hr := HE.out
 rw [if_pos c0] at hr
 clear HE c0
 have HE := Aside0.mk hr
 clear hr
 by_cases c1 : x.f1 = y.f1
 case neg =>
  have d1_0 : (x.f1 == y.f1) = false := beq_eq_false_iff_ne.mpr c1
  have d1_1 : (x.f1 != y.f1) = true := bne_iff_ne.mpr c1
  have hr := HE.out
  rw [if_neg c1] at hr
  clear HE c1
  have HE := Aside0.mk hr
  clear hr
  obtain rfl := Option.some.inj HE.out
  have hr := HH1.out
  rw [if_neg Bool.false_ne_true] at hr
  clear hr HE HH1
  go_wp2
  go_ret
  exact ⟨rfl, (by repeat (first | (with_reducible first | exact HB.out | apply below_alloc | apply pw_below_drewN | apply below_drew1) | exact HB.out))⟩
 have d1_0 : (x.f1 == y.f1) = true := beq_iff_eq.mpr c1
 have d1_1 : (x.f1 != y.f1) = false := bne_eq_false_iff_eq.mpr c1
 have hr := HE.out
 rw [if_pos c1] at hr
 clear HE c1
 have HE := Aside0.mk hr
 clear hr
 by_cases c2 : x.f2.toList = y.f2.toList
 case neg =>
  have d2_0 : (x.f2.toList == y.f2.toList) = false := beq_eq_false_iff_ne.mpr c2
  have d2_1 : (x.f2.toList != y.f2.toList) = true := bne_iff_ne.mpr c2
  have hr := HE.out
  rw [if_neg c2] at hr
  clear HE c2
  have HE := Aside0.mk hr
  clear hr
  obtain rfl := Option.some.inj HE.out
  have hr := HH1.out
  rw [if_neg Bool.false_ne_true] at hr
  clear hr HE HH1
  go_wp2
  go_ret
  exact ⟨rfl, (by repeat (first | (with_reducible first | exact HB.out | apply below_alloc | apply pw_below_drewN | apply below_drew1) | exact HB.out))⟩
 have d2_0 : (x.f2.toList == y.f2.toList) = true := beq_iff_eq.mpr c2
 have d2_1 : (x.f2.toList != y.f2.toList) = false := bne_eq_false_iff_eq.mpr c2
 have hr := HE.out
 rw [if_pos c2] at hr
 clear HE c2
 have HE := Aside0.mk hr
 clear hr
 by_cases c3 : x.f3.toList = y.f3.toList
 case neg =>
  have d3_0 : (x.f3.toList == y.f3.toList) = false := beq_eq_false_iff_ne.mpr c3
  have d3_1 : (x.f3.toList != y.f3.toList) = true := bne_iff_ne.mpr c3
  have hr := HE.out
  rw [if_neg c3] at hr
  clear HE c3
  have HE := Aside0.mk hr
  clear hr
  obtain rfl := Option.some.inj HE.out
  have hr := HH1.out
  rw [if_neg Bool.false_ne_true] at hr
  clear hr HE HH1
  go_wp2
  go_ret
  exact ⟨rfl, (by repeat (first | (with_reducible first | exact HB.out | apply below_alloc | apply pw_below_drewN | apply below_drew1) | exact HB.out))⟩
 have d3_0 : (x.f3.toList == y.f3.toList) = true := beq_iff_eq.mpr c3
 have d3_1 : (x.f3.toList != y.f3.toList) = false := bne_eq_false_iff_eq.mpr c3
 have hr := HE.out
 rw [if_pos c3] at hr
 clear HE c3
 have HE := Aside0.mk hr
 clear hr
 by_cases c4 : (x.f4.f0 == y.f4.f0 && (x.f4.f1 == y.f4.f1 && (x.f4.f2.toList == y.f4.f2.toList))) = true
 case neg =>
  have d4_0 : (x.f4.f0 == y.f4.f0 && (x.f4.f1 == y.f4.f1 && (x.f4.f2.toList == y.f4.f2.toList))) = false := Bool.eq_false_iff.mpr c4
  have d4_1 : (!(x.f4.f0 == y.f4.f0) || (!(x.f4.f1 == y.f4.f1) || !(x.f4.f2.toList == y.f4.f2.toList))) = true := and3_f d4_0
  have hr := HE.out
  rw [if_neg c4] at hr
  clear HE c4
  have HE := Aside0.mk hr
  clear hr
  obtain rfl := Option.some.inj HE.out
  have hr := HH1.out
  rw [if_neg Bool.false_ne_true] at hr
  clear hr HE HH1
  go_wp2
  go_ret
  exact ⟨rfl, (by repeat (first | (with_reducible first | exact HB.out | apply below_alloc | apply pw_below_drewN | apply below_drew1) | exact HB.out))⟩
 have d4_0 : (x.f4.f0 == y.f4.f0 && (x.f4.f1 == y.f4.f1 && (x.f4.f2.toList == y.f4.f2.toList))) = true := c4
 have d4_1 : (!(x.f4.f0 == y.f4.f0) || (!(x.f4.f1 == y.f4.f1) || !(x.f4.f2.toList == y.f4.f2.toList))) = false := and3_t d4_0
 have hr := HE.out
 rw [if_pos c4] at hr
 clear HE c4
 have HE := Aside0.mk hr
 clear hr
 by_cases c5 : x.f7 = y.f7
 case neg =>
  have d5_0 : (x.f7 == y.f7) = false := beq_eq_false_iff_ne.mpr c5
  have d5_1 : (x.f7 != y.f7) = true := bne_iff_ne.mpr c5
  have hr := HE.out
  rw [if_neg c5] at hr
  clear HE c5
  have HE := Aside0.mk hr
  clear hr
  obtain rfl := Option.some.inj HE.out
  have hr := HH1.out
  rw [if_neg Bool.false_ne_true] at hr
  clear hr HE HH1
  go_wp2
  go_ret
  exact ⟨rfl, (by repeat (first | (with_reducible first | exact HB.out | apply below_alloc | apply pw_below_drewN | apply below_drew1) | exact HB.out))⟩
 have d5_0 : (x.f7 == y.f7) = true := beq_iff_eq.mpr c5
 have d5_1 : (x.f7 != y.f7) = false := bne_eq_false_iff_eq.mpr c5
 have hr := HE.out
 rw [if_pos c5] at hr
 clear HE c5
 have HE := Aside0.mk hr
 clear hr
 go_upto_region 3 with (fail)
 (try simp only [Act.put, List.setIfInBounds_toArray, List.set_cons_zero, List.set_cons_succ])
 (try clear d0_0 d0_1)
 (try clear d1_0 d1_1)
 (try clear d2_0 d2_1)
 (try clear d3_0 d3_1)
 (try clear d4_0 d4_1)
 (try clear d5_0 d5_1)
 clear z0 z1 z2 z3 z4 z5 z6 z9 y0 y1 y2 y3 y4 y5 y6 y9
 obtain ⟨-, -, -, -, -, -, -, z7, z8, -, z10, z11, z12, z13, -, -, -, -, -, -, -, -, -, -, -, -, -, -⟩ := cells14 BB.out.1
 obtain ⟨-, -, -, -, -, -, -, y7, y8, -, y10, y11, y12, y13, -, -, -, -, -, -, -, -, -, -, -, -, -, -⟩ := cells14 BB.out.2
 by_cases c6 : x.f8 = y.f8
 case neg =>
  have d6_0 : (x.f8 == y.f8) = false := beq_eq_false_iff_ne.mpr c6
  have d6_1 : (x.f8 != y.f8) = true := bne_iff_ne.mpr c6
  have hr := HE.out
  rw [if_neg c6] at hr
  clear HE c6
  have HE := Aside0.mk hr
  clear hr
  obtain rfl := Option.some.inj HE.out
  have hr := HH1.out
  rw [if_neg Bool.false_ne_true] at hr
  clear hr HE HH1
  go_wp2
  go_ret
  exact ⟨rfl, (by repeat (first | (with_reducible first | exact HB.out | apply below_alloc | apply pw_below_drewN | apply below_drew1) | exact HB.out))⟩
 have d6_0 : (x.f8 == y.f8) = true := beq_iff_eq.mpr c6
 have d6_1 : (x.f8 != y.f8) = false := bne_eq_false_iff_eq.mpr c6
 have hr := HE.out
 rw [if_pos c6] at hr
 clear HE c6
 have HE := Aside0.mk hr
 clear hr
 by_cases c7 : x.f9 = y.f9
 case neg =>
  have d7_0 : (x.f9 == y.f9) = false := beq_eq_false_iff_ne.mpr c7
  have d7_1 : (x.f9 != y.f9) = true := bne_iff_ne.mpr c7
  have hr := HE.out
  rw [if_neg c7] at hr
  clear HE c7
  have HE := Aside0.mk hr
  clear hr
  obtain rfl := Option.some.inj HE.out
  have hr := HH1.out
  rw [if_neg Bool.false_ne_true] at hr
  clear hr HE HH1
  go_wp2
  go_ret
  exact ⟨rfl, (by repeat (first | (with_reducible first | exact HB.out | apply below_alloc | apply pw_below_drewN | apply below_drew1) | exact HB.out))⟩
 have d7_0 : (x.f9 == y.f9) = true := beq_iff_eq.mpr c7
 have d7_1 : (x.f9 != y.f9) = false := bne_eq_false_iff_eq.mpr c7
 have hr := HE.out
 rw [if_pos c7] at hr
 clear HE c7
 have HE := Aside0.mk hr
 clear hr
 by_cases c8 : x.f10 = y.f10
 case neg =>
  have d8_0 : (x.f10 == y.f10) = false := beq_eq_false_iff_ne.mpr c8
  have d8_1 : (x.f10 != y.f10) = true := bne_iff_ne.mpr c8
  have hr := HE.out
  rw [if_neg c8] at hr
  clear HE c8
  have HE := Aside0.mk hr
  clear hr
  obtain rfl := Option.some.inj HE.out
  have hr := HH1.out
  rw [if_neg Bool.false_ne_true] at hr
  clear hr HE HH1
  go_wp2
  go_ret
  exact ⟨rfl, (by repeat (first | (with_reducible first | exact HB.out | apply below_alloc | apply pw_below_drewN | apply below_drew1) | exact HB.out))⟩
 have d8_0 : (x.f10 == y.f10) = true := beq_iff_eq.mpr c8
 have d8_1 : (x.f10 != y.f10) = false := bne_eq_false_iff_eq.mpr c8
 have hr := HE.out
 rw [if_pos c8] at hr
 clear HE c8
 have HE := Aside0.mk hr
 clear hr
 by_cases c9 : x.f11 = y.f11
 case neg =>
  have d9_0 : (x.f11 == y.f11) = false := beq_eq_false_iff_ne.mpr c9
  have d9_1 : (x.f11 != y.f11) = true := bne_iff_ne.mpr c9
  have hr := HE.out
  rw [if_neg c9] at hr
  clear HE c9
  have HE := Aside0.mk hr
  clear hr
  obtain rfl := Option.some.inj HE.out
  have hr := HH1.out
  rw [if_neg Bool.false_ne_true] at hr
  clear hr HE HH1
  go_wp2
  go_ret
  exact ⟨rfl, (by repeat (first | (with_reducible first | exact HB.out | apply below_alloc | apply pw_below_drewN | apply below_drew1) | exact HB.out))⟩
 have d9_0 : (x.f11 == y.f11) = true := beq_iff_eq.mpr c9
 have d9_1 : (x.f11 != y.f11) = false := bne_eq_false_iff_eq.mpr c9
 have hr := HE.out
 rw [if_pos c9] at hr
 clear HE c9
 have HE := Aside0.mk hr
 clear hr
 obtain ⟨u10, hu10, hr⟩ := Option.bind_eq_some_iff.mp HE.out
 have A10 := Aside0.mk hu10
 clear HE hu10
 have HE := Aside0.mk hr
 clear hr
 cases u10
 case false =>
  have hr := HE.out
  rw [if_neg Bool.false_ne_true] at hr
  clear HE
  have HE := Aside0.mk hr
  clear hr
  obtain rfl := Option.some.inj HE.out
  have hr := HH1.out
  rw [if_neg Bool.false_ne_true] at hr
  clear hr HE HH1
  go_wp2_with (first | (go_at_call 22; (with_reducible refine (slices_Equal_string_string.calls k _ _ x.f6 _ _ y.f6 _ _ ?side0 ?side1 ?side2 ?side3 A10.out).mono ?_); (case side0 => exact Kd.C_below ahc1 (by repeat (first | (with_reducible first | exact HB.out | apply below_alloc | apply pw_below_drewN | apply below_drew1) | exact HB.out))); (case side1 => exact ahl1); (case side2 => exact Kd.C_below bhc1 (by repeat (first | (with_reducible first | exact HB.out | apply below_alloc | apply pw_below_drewN | apply below_drew1) | exact HB.out))); (case side3 => exact bhl1); rintro e w' ⟨rfl, hb⟩; replace hb := Drawn0.below hb; have n0_ := Aside0.mk (below_step (by repeat (first | (with_reducible first | exact HB.out | apply below_alloc | apply pw_below_drewN | apply below_drew1) | exact HB.out)) hb); have n1_ := Aside0.mk (And.intro (blk_below BB.out.1 hb) (blk_below BB.out.2 hb)); clear HB BB hb z7 z8 z10 z11 z12 z13 y7 y8 y10 y11 y12 y13; have HB := n0_; have BB := n1_; clear n0_ n1_; obtain ⟨-, -, -, -, -, -, -, z7, z8, -, z10, z11, z12, z13, -, -, -, -, -, -, -, -, -, -, -, -, -, -⟩ := cells14 BB.out.1; obtain ⟨-, -, -, -, -, -, -, y7, y8, -, y10, y11, y12, y13, -, -, -, -, -, -, -, -, -, -, -, -, -, -⟩ := cells14 BB.out.2))
  go_ret
  exact ⟨rfl, (by repeat (first | (with_reducible first | exact HB.out | apply below_alloc | apply pw_below_drewN | apply below_drew1) | exact HB.out))⟩
 have hr := HE.out
 rw [if_pos rfl] at hr
 clear HE
 have HE := Aside0.mk hr
 clear hr
 obtain ⟨u11, hu11, hr⟩ := Option.bind_eq_some_iff.mp HE.out
 have A11 := Aside0.mk hu11
 clear HE hu11
 have HE := Aside0.mk hr
 clear hr
 cases u11
 case false =>
  have hr := HE.out
  rw [if_neg Bool.false_ne_true] at hr
  clear HE
  have HE := Aside0.mk hr
  clear hr
  obtain rfl := Option.some.inj HE.out
  have hr := HH1.out
  rw [if_neg Bool.false_ne_true] at hr
  clear hr HE HH1
  go_wp2_with (first | (go_at_call 22; (with_reducible refine (slices_Equal_string_string.calls k _ _ x.f6 _ _ y.f6 _ _ ?side0 ?side1 ?side2 ?side3 A10.out).mono ?_); (case side0 => exact Kd.C_below ahc1 (by repeat (first | (with_reducible first | exact HB.out | apply below_alloc | apply pw_below_drewN | apply below_drew1) | exact HB.out))); (case side1 => exact ahl1); (case side2 => exact Kd.C_below bhc1 (by repeat (first | (with_reducible first | exact HB.out | apply below_alloc | apply pw_below_drewN | apply below_drew1) | exact HB.out))); (case side3 => exact bhl1); rintro e w' ⟨rfl, hb⟩; replace hb := Drawn0.below hb; have n0_ := Aside0.mk (below_step (by repeat (first | (with_reducible first | exact HB.out | apply below_alloc | apply pw_below_drewN | apply below_drew1) | exact HB.out)) hb); have n1_ := Aside0.mk (And.intro (blk_below BB.out.1 hb) (blk_below BB.out.2 hb)); clear HB BB hb z7 z8 z10 z11 z12 z13 y7 y8 y10 y11 y12 y13; have HB := n0_; have BB := n1_; clear n0_ n1_; obtain ⟨-, -, -, -, -, -, -, z7, z8, -, z10, z11, z12, z13, -, -, -, -, -, -, -, -, -, -, -, -, -, -⟩ := cells14 BB.out.1; obtain ⟨-, -, -, -, -, -, -, y7, y8, -, y10, y11, y12, y13, -, -, -, -, -, -, -, -, -, -, -, -, -, -⟩ := cells14 BB.out.2) | (go_at_call 49; (with_reducible refine (HF.out _ _ x.f5 _ _ y.f5 _ _ ?side0 ?side1 ?side2 ?side3 A11.out).mono ?_); (case side0 => exact Kd.C_below ahc0 (by repeat (first | (with_reducible first | exact HB.out | apply below_alloc | apply pw_below_drewN | apply below_drew1) | exact HB.out))); (case side1 => exact ahl0); (case side2 => exact Kd.C_below bhc0 (by repeat (first | (with_reducible first | exact HB.out | apply below_alloc | apply pw_below_drewN | apply below_drew1) | exact HB.out))); (case side3 => exact bhl0); rintro e w' ⟨rfl, hb⟩; have n0_ := Aside0.mk (below_step (by repeat (first | (with_reducible first | exact HB.out | apply below_alloc | apply pw_below_drewN | apply below_drew1) | exact HB.out)) hb); have n1_ := Aside0.mk (And.intro (blk_below BB.out.1 hb) (blk_below BB.out.2 hb)); clear HB BB hb z7 z8 z10 z11 z12 z13 y7 y8 y10 y11 y12 y13; have HB := n0_; have BB := n1_; clear n0_ n1_; obtain ⟨-, -, -, -, -, -, -, z7, z8, -, z10, z11, z12, z13, -, -, -, -, -, -, -, -, -, -, -, -, -, -⟩ := cells14 BB.out.1; obtain ⟨-, -, -, -, -, -, -, y7, y8, -, y10, y11, y12, y13, -, -, -, -, -, -, -, -, -, -, -, -, -, -⟩ := cells14 BB.out.2))
  go_ret
  exact ⟨rfl, (by repeat (first | (with_reducible first | exact HB.out | apply below_alloc | apply pw_below_drewN | apply below_drew1) | exact HB.out))⟩
 have hr := HE.out
 rw [if_pos rfl] at hr
 clear HE
 have HE := Aside0.mk hr
 clear hr
 obtain rfl := Option.some.inj HE.out
 have hr := HH1.out
 rw [if_pos rfl] at hr
 have HH := Aside0.mk hr
 clear hr HE HH1
 go_wp2_with (first | (go_at_call 22; (with_reducible refine (slices_Equal_string_string.calls k _ _ x.f6 _ _ y.f6 _ _ ?side0 ?side1 ?side2 ?side3 A10.out).mono ?_); (case side0 => exact Kd.C_below ahc1 (by repeat (first | (with_reducible first | exact HB.out | apply below_alloc | apply pw_below_drewN | apply below_drew1) | exact HB.out))); (case side1 => exact ahl1); (case side2 => exact Kd.C_below bhc1 (by repeat (first | (with_reducible first | exact HB.out | apply below_alloc | apply pw_below_drewN | apply below_drew1) | exact HB.out))); (case side3 => exact bhl1); rintro e w' ⟨rfl, hb⟩; replace hb := Drawn0.below hb; have n0_ := Aside0.mk (below_step (by repeat (first | (with_reducible first | exact HB.out | apply below_alloc | apply pw_below_drewN | apply below_drew1) | exact HB.out)) hb); have n1_ := Aside0.mk (And.intro (blk_below BB.out.1 hb) (blk_below BB.out.2 hb)); clear HB BB hb z7 z8 z10 z11 z12 z13 y7 y8 y10 y11 y12 y13; have HB := n0_; have BB := n1_; clear n0_ n1_; obtain ⟨-, -, -, -, -, -, -, z7, z8, -, z10, z11, z12, z13, -, -, -, -, -, -, -, -, -, -, -, -, -, -⟩ := cells14 BB.out.1; obtain ⟨-, -, -, -, -, -, -, y7, y8, -, y10, y11, y12, y13, -, -, -, -, -, -, -, -, -, -, -, -, -, -⟩ := cells14 BB.out.2) | (go_at_call 49; (with_reducible refine (HF.out _ _ x.f5 _ _ y.f5 _ _ ?side0 ?side1 ?side2 ?side3 A11.out).mono ?_); (case side0 => exact Kd.C_below ahc0 (by repeat (first | (with_reducible first | exact HB.out | apply below_alloc | apply pw_below_drewN | apply below_drew1) | exact HB.out))); (case side1 => exact ahl0); (case side2 => exact Kd.C_below bhc0 (by repeat (first | (with_reducible first | exact HB.out | apply below_alloc | apply pw_below_drewN | apply below_drew1) | exact HB.out))); (case side3 => exact bhl0); rintro e w' ⟨rfl, hb⟩; have n0_ := Aside0.mk (below_step (by repeat (first | (with_reducible first | exact HB.out | apply below_alloc | apply pw_below_drewN | apply below_drew1) | exact HB.out)) hb); have n1_ := Aside0.mk (And.intro (blk_below BB.out.1 hb) (blk_below BB.out.2 hb)); clear HB BB hb z7 z8 z10 z11 z12 z13 y7 y8 y10 y11 y12 y13; have HB := n0_; have BB := n1_; clear n0_ n1_; obtain ⟨-, -, -, -, -, -, -, z7, z8, -, z10, z11, z12, z13, -, -, -, -, -, -, -, -, -, -, -, -, -, -⟩ := cells14 BB.out.1; obtain ⟨-, -, -, -, -, -, -, y7, y8, -, y10, y11, y12, y13, -, -, -, -, -, -, -, -, -, -, -, -, -, -⟩ := cells14 BB.out.2))
 go_ret
 exact ⟨rfl, (by repeat (first | (with_reducible first | exact HB.out | apply below_alloc | apply pw_below_drewN | apply below_drew1) | exact HB.out))⟩
def relayplain_SameExprs.T6 : Bool × List (List Nat × List Nat) := (true, [([], []), ([], []), ([0, 1], [0, 1]), ([2], [2]), ([], []), ([], []), ([4, 5], [4, 5]), ([6], [6]), ([3, 7], [3, 7]), ([8], [8])])
def relayplain_SameExprs.B6 : List Nat := [0, 0, 3, 7, 0, 0, 48, 112, 255, 511]
theorem relayplain_SameExprs.tab6 : rtab .any (opsOf Try.f49 6) = relayplain_SameExprs.T6 := by kernel_rfl
theorem relayplain_SameExprs.bits6 : waitsOk relayplain_SameExprs.T6.2 relayplain_SameExprs.B6 = true := by kernel_rfl
set_option maxHeartbeats 8000000 in
set_option maxRecDepth 100000 in
theorem relayplain_SameExprs.callsOf (F : List S65 → List S65 → Option Bool) (hF : ∀ (A0 : Option Addr) (c0 : Nat) (l0 : List (S65)) (A1 : Option Addr) (c1 : Nat) (l1 : List (S65)) (r : Bool) (w : World) (hr0 : Kd.C k65 w A0 l0.length l0) (hc0 : l0.length ≤ c0) (hr1 : Kd.C k65 w A1 l1.length l1) (hc1 : l1.length ≤ c1) (h : F l0 l1 = some r), Calls Try.prog 49 #[.slice A0 l0.length c0, .slice A1 l1.length c1] w fun e w' => e = .returned (.bool r) ∧ Below w.heap.size w w') (k : Nat) (A0 : Option Addr) (c0 : Nat) (l0 : List (S65)) (A1 : Option Addr) (c1 : Nat) (l1 : List (S65)) (r : Bool) (w : World) (hr0 : Kd.C k65 w A0 l0.length l0) (hc0 : l0.length ≤ c0) (hr1 : Kd.C k65 w A1 l1.length l1) (hc1 : l1.length ≤ c1) (h : (if l0.length = l1.length then eqGo (relayplain_SameExpr.el F k) l0 l1 else some false) = some r) : Calls Try.prog 49 #[.slice A0 l0.length c0, .slice A1 l1.length c1] w fun e w' => e = .returned (.bool r) ∧ Below w.heap.size w w' := by
 have hu := Try.underlying65
 have HF := Aside0.mk hF
 have HR0 := Aside0.mk hr0
 have HR1 := Aside0.mk hr1
 have HM0 := Aside0.mk (Kd.C_max hr0)
 clear hr0 hr1 hc0 hc1 hF
 have HB := Aside0.mk (Below.refl w.heap.size w)
 by_cases hl : l0.length = l1.length
 case neg =>
  rw [if_neg hl] at h
  obtain rfl := Option.some.inj h
  have hn : ¬ ((l0.length : Int) = (l1.length : Int)) := fun e => hl (by omega)
  have b0 : ((l0.length : Int) == (l1.length : Int)) = false := beq_eq_false_iff_ne.mpr hn
  have b1 : ((l0.length : Int) != (l1.length : Int)) = true := bne_iff_ne.mpr hn
  clear hn
  go_enter Try.func49, Try.ntmps49
  go_wp2
  go_ret
  exact ⟨rfl, HB.out⟩
 rw [if_pos hl] at h
 obtain ⟨u0, h⟩ : ∃ u0, u0 = r ∧ eqGo (relayplain_SameExpr.el F k) l0 l1 = some u0 := ⟨r, rfl, h⟩
 obtain ⟨hu0, h⟩ := h
 have HH := Aside0.mk h
 have HL0 := Aside0.mk hl
 have b0 : ((l0.length : Int) == (l1.length : Int)) = true := by rw [hl]; exact beq_self_eq_true _
 have b1 : ((l0.length : Int) != (l1.length : Int)) = false := by rw [hl]; exact bne_self_eq_false _
 clear h hl
 subst hu0
 go_enter Try.func49, Try.ntmps49
 go_wp2
 clear b0 b1
 go_loopg [13] (l0.length + 1) (fun kq v_ w' => ∃ i : Int, v_ = .int .i64 i ∧ Aside0 (0 ≤ i ∧ i ≤ l0.length ∧ (kq : Int) = l0.length + 1 - i) ∧ Aside0 (eqGo (relayplain_SameExpr.el F k) (l0.drop i.toNat) (l1.drop i.toNat) = some u0) ∧ Aside0 (Below w.heap.size w w'))
 case atStart => exact ⟨0, rfl, ⟨by omega⟩, ⟨by simpa using HH.out⟩, ⟨HB.out⟩⟩
 case round =>
  clear HH HB
  obtain ⟨i, rfl, hi, HH, HB⟩ := hrel
  by_cases c2 : i < (l0.length : Int)
  case neg =>
   have c2b0 : decide (i < (l0.length : Int)) = false := decide_eq_false c2
   have hd : l0.drop i.toNat = [] := List.drop_eq_nil_of_le (by have := hi.out; omega)
   have hr := HH.out
   rw [hd, eqGo] at hr
   obtain rfl := Option.some.inj hr
   clear hr hd HH hi c2
   go_wp2
   go_ret
   exact ⟨rfl, HB.out⟩
  have c2b0 : decide (i < (l0.length : Int)) = true := decide_eq_true c2
  have h0 := hi.out.1
  have c3 : i < (l1.length : Int) := by have := HL0.out; omega
  obtain ⟨aad, aA7, ac7, aA8, ac8, ae, ahr, ahl0, ahc0, ahl1, ahc1⟩ := el_T65 HR0.out i h0 c2
  cases ae
  obtain ⟨bad, bA7, bc7, bA8, bc8, be, bhr, bhl0, bhc0, bhl1, bhc1⟩ := el_T65 HR1.out i h0 c3
  cases be
  have p0 := eq_true h0
  have p1 := eq_true c2
  have q1_ := eq_true c3
  have C2 := Aside0.mk c2
  have C3 := Aside0.mk c3
  clear h0 c2 c3
  have hr := HH.out
  rw [drop_rd z65 hi.out.1 C2.out, drop_rd z65 hi.out.1 C3.out, eqGo] at hr
  obtain ⟨u, hu_, hr1⟩ := Option.bind_eq_some_iff.mp hr
  have HH1 := Aside0.mk hr1
  have HE := Aside0.mk (show relayplain_SameExpr.el F k (rd_T65 l0 i) (rd_T65 l1 i) = some u from hu_)
  clear hr hr1 hu_ HH
  go_upto_region 6 with (fail)
  have AU := Aside0.mk HE.out
  clear HE
  have n0_ := Aside0.mk (below_drew1 HB.out)
  clear HB
  have HB := n0_
  clear n0_
  refine start_ (n := 10) (S := fun w' => Below w.heap.size w w') (ds := []) #[false, false, false, false, false, false, false, false, false, false] (by kernel_rfl) rfl (by kernel_rfl) HB.out (fun _ => ?_)
  refine with_tabW relayplain_SameExprs.tab6 relayplain_SameExprs.bits6 (fun HT_ HW_ => ?_)
  generalize World.drew _ = W5 at HB ⊢
  refine pure_ (i := 0) (N := some 16) (v := ?_) (a' := ?_) #[true, false, false, false, false, false, false, false, false, false] rfl rfl (any_of HT_.out (by kernel_rfl)) (fun _ _ _ h => h) (Or.inl ⟨by rfl, ?_⟩) ?_ ?_
  rotate_left
  ·
   intro w'
   go_simp
   with_reducible rfl
  rotate_left
  ·
   simp only [Act.put, List.setIfInBounds_toArray, List.set_cons_zero, List.set_cons_succ, i64_w, i32_w]
   rfl
  refine pure_ (i := 1) (N := some 17) (v := ?_) (a' := ?_) #[true, true, false, false, false, false, false, false, false, false] rfl rfl (any_of HT_.out (by kernel_rfl)) (fun _ _ _ h => h) (Or.inl ⟨by rfl, ?_⟩) ?_ ?_
  rotate_left
  ·
   intro w'
   go_simp
   with_reducible rfl
  rotate_left
  ·
   simp only [Act.put, List.setIfInBounds_toArray, List.set_cons_zero, List.set_cons_succ, i64_w, i32_w]
   rfl
  refine pure_ (i := 2) (N := some 18) (v := ?_) (a' := ?_) #[true, true, true, false, false, false, false, false, false, false] rfl rfl (any_of HT_.out (by kernel_rfl)) (fun _ _ _ h => h) (Or.inl ⟨by rfl, ?_⟩) ?_ ?_
  rotate_left
  ·
   intro w'
   go_simp
   with_reducible rfl
  rotate_left
  ·
   simp only [Act.put, List.setIfInBounds_toArray, List.set_cons_zero, List.set_cons_succ, i64_w, i32_w]
   rfl
  refine pure_ (i := 4) (N := some 20) (v := ?_) (a' := ?_) #[true, true, true, false, true, false, false, false, false, false] rfl rfl (any_of HT_.out (by kernel_rfl)) (fun _ _ _ h => h) (Or.inl ⟨by rfl, ?_⟩) ?_ ?_
  rotate_left
  ·
   intro w'
   go_simp
   with_reducible rfl
  rotate_left
  ·
   simp only [Act.put, List.setIfInBounds_toArray, List.set_cons_zero, List.set_cons_succ, i64_w, i32_w]
   rfl
  refine pure_ (i := 5) (N := some 21) (v := ?_) (a' := ?_) #[true, true, true, false, true, true, false, false, false, false] rfl rfl (any_of HT_.out (by kernel_rfl)) (fun _ _ _ h => h) (Or.inl ⟨by rfl, ?_⟩) ?_ ?_
  rotate_left
  ·
   intro w'
   go_simp
   with_reducible rfl
  rotate_left
  ·
   simp only [Act.put, List.setIfInBounds_toArray, List.set_cons_zero, List.set_cons_succ, i64_w, i32_w]
   rfl
  refine pure_ (i := 6) (N := some 22) (v := ?_) (a' := ?_) #[true, true, true, false, true, true, true, false, false, false] rfl rfl (any_of HT_.out (by kernel_rfl)) (fun _ _ _ h => h) (Or.inl ⟨by rfl, ?_⟩) ?_ ?_
  rotate_left
  ·
   intro w'
   go_simp
   with_reducible rfl
  rotate_left
  ·
   simp only [Act.put, List.setIfInBounds_toArray, List.set_cons_zero, List.set_cons_succ, i64_w, i32_w]
   rfl
  refine take_ (i := 3) (N := some 19) (v := .agg #[.int .i64 (rd_T65 l0 i).f0, .int .i64 (rd_T65 l0 i).f1, .string (rd_T65 l0 i).f2, .string (rd_T65 l0 i).f3, .int .u8 (rd_T65 l0 i).f4.f0, .int .u64 (rd_T65 l0 i).f4.f1, .string (rd_T65 l0 i).f4.f2, .slice aA7 (rd_T65 l0 i).f5.length ac7, .slice aA8 (rd_T65 l0 i).f6.length ac8, .int .u8 (rd_T65 l0 i).f7, .int .i64 (rd_T65 l0 i).f8, .int .i64 (rd_T65 l0 i).f9, .int .i64 (rd_T65 l0 i).f10, .int .i64 (rd_T65 l0 i).f11]) (a' := ?_) #[true, true, true, true, true, true, true, false, false, false] rfl rfl (take_ofW HT_.out HW_.out (by kernel_rfl)) (fun _ _ _ h => h) (Or.inl ⟨by rfl, fun w' hS => load_run rfl rfl (spread_below hS ahr) Try.underlying65 rfl rfl (by kernel_rfl)⟩) HB.out ?_ ?_
  rotate_left
  ·
   simp only [Act.put, List.setIfInBounds_toArray, List.set_cons_zero, List.set_cons_succ, i64_w, i32_w]
   rfl
  refine take_ (i := 7) (N := some 23) (v := .agg #[.int .i64 (rd_T65 l1 i).f0, .int .i64 (rd_T65 l1 i).f1, .string (rd_T65 l1 i).f2, .string (rd_T65 l1 i).f3, .int .u8 (rd_T65 l1 i).f4.f0, .int .u64 (rd_T65 l1 i).f4.f1, .string (rd_T65 l1 i).f4.f2, .slice bA7 (rd_T65 l1 i).f5.length bc7, .slice bA8 (rd_T65 l1 i).f6.length bc8, .int .u8 (rd_T65 l1 i).f7, .int .i64 (rd_T65 l1 i).f8, .int .i64 (rd_T65 l1 i).f9, .int .i64 (rd_T65 l1 i).f10, .int .i64 (rd_T65 l1 i).f11]) (a' := ?_) #[true, true, true, true, true, true, true, true, false, false] rfl rfl (take_ofW HT_.out HW_.out (by kernel_rfl)) (fun _ _ _ h => h) (Or.inl ⟨by rfl, fun w' hS => load_run rfl rfl (spread_below hS bhr) Try.underlying65 rfl rfl (by kernel_rfl)⟩) HB.out ?_ ?_
  rotate_left
  ·
   simp only [Act.put, List.setIfInBounds_toArray, List.set_cons_zero, List.set_cons_succ, i64_w, i32_w]
   rfl
  refine one_ (i := 8) (N := some 24) #[true, true, true, true, true, true, true, true, true, false] rfl rfl (one_of HT_.out (by kernel_rfl)) (by decide) (fun K hK => ?_)
  refine goes_ Try.func43 (by kernel_rfl) rfl #[.agg #[.int .i64 (rd_T65 l0 i).f0, .int .i64 (rd_T65 l0 i).f1, .string (rd_T65 l0 i).f2, .string (rd_T65 l0 i).f3, .int .u8 (rd_T65 l0 i).f4.f0, .int .u64 (rd_T65 l0 i).f4.f1, .string (rd_T65 l0 i).f4.f2, .slice aA7 (rd_T65 l0 i).f5.length ac7, .slice aA8 (rd_T65 l0 i).f6.length ac8, .int .u8 (rd_T65 l0 i).f7, .int .i64 (rd_T65 l0 i).f8, .int .i64 (rd_T65 l0 i).f9, .int .i64 (rd_T65 l0 i).f10, .int .i64 (rd_T65 l0 i).f11], .agg #[.int .i64 (rd_T65 l1 i).f0, .int .i64 (rd_T65 l1 i).f1, .string (rd_T65 l1 i).f2, .string (rd_T65 l1 i).f3, .int .u8 (rd_T65 l1 i).f4.f0, .int .u64 (rd_T65 l1 i).f4.f1, .string (rd_T65 l1 i).f4.f2, .slice bA7 (rd_T65 l1 i).f5.length bc7, .slice bA8 (rd_T65 l1 i).f6.length bc8, .int .u8 (rd_T65 l1 i).f7, .int .i64 (rd_T65 l1 i).f8, .int .i64 (rd_T65 l1 i).f9, .int .i64 (rd_T65 l1 i).f10, .int .i64 (rd_T65 l1 i).f11]] (by rfl) rfl rfl (by (try simp only [List.map_toArray, List.map_cons, List.map_nil]); first | done | rfl) ?_
  refine (relayplain_SameExpr.callsOf F HF.out k (rd_T65 l0 i) (rd_T65 l1 i) _ _ _ _ _ _ _ _ _ _ (Kd.C_below ahc0 HB.out) ahl0 (Kd.C_below ahc1 HB.out) ahl1 (Kd.C_below bhc0 HB.out) bhl0 (Kd.C_below bhc1 HB.out) bhl1 AU.out).mono ?_
  rintro e w' ⟨rfl, hb⟩
  refine ⟨_, rfl, ?_⟩
  have n0_ := Aside0.mk (below_step HB.out hb)
  clear HB hb
  have HB := n0_
  clear n0_
  refine hK.out _ _ HB.out (fun _ => ?_)
  clear hK K
  refine norm_ (a' := ?_) ?_ ?_
  rotate_left
  ·
   show Act.put _ (some 24) _ = _
   simp only [Act.put, List.setIfInBounds_toArray, List.set_cons_zero, List.set_cons_succ, i64_w, i32_w]
   rfl
  refine pure_ (i := 9) (N := some 25) (v := ?_) (a' := ?_) #[true, true, true, true, true, true, true, true, true, true] rfl rfl (any_of HT_.out (by kernel_rfl)) (fun _ _ _ h => h) (Or.inl ⟨by rfl, ?_⟩) ?_ ?_
  rotate_left
  ·
   intro w'
   go_simp
   with_reducible rfl
  rotate_left
  ·
   simp only [Act.put, List.setIfInBounds_toArray, List.set_cons_zero, List.set_cons_succ, i64_w, i32_w]
   rfl
  refine done_ (done_of HT_.out (by kernel_rfl)) ?_
  clear ahr bhr AU
  cases u
  case false =>
   have hr := HH1.out
   rw [if_neg Bool.false_ne_true] at hr
   obtain rfl := Option.some.inj hr
   clear hr HH1
   go_wp2
   go_ret
   exact ⟨rfl, HB.out⟩
  have hr := HH1.out
  rw [if_pos rfl] at hr
  have HH := Aside0.mk hr
  clear hr HH1
  go_wp2
  have hw : wrap64 (i + 1) = i + 1 := by
   have := HM0.out
   have := hi.out
   have := C2.out
   unfold wrap64
   omega
  have h1 := hi.out
  have h2 := C2.out
  go_roundg (gk - 1)
  case measure => omega
  case rel => exact ⟨i + 1, by rw [hw], ⟨by omega⟩, ⟨HH.out⟩, ⟨(by repeat (first | (with_reducible first | exact HB.out | apply below_alloc | apply pw_below_drewN | apply below_drew1) | exact HB.out))⟩⟩
def relayplain_SameExprs.f : Nat → List S65 → List S65 → Option Bool
 | 0, _, _ => none
 | k + 1, l0, l1 => if l0.length = l1.length then eqGo (relayplain_SameExpr.el (relayplain_SameExprs.f k) k) l0 l1 else some false
theorem relayplain_SameExprs.mono : ∀ a b k, LeO (relayplain_SameExprs.f k a b) (relayplain_SameExprs.f (k + 1) a b) := by
 intro a b k
 induction k generalizing a b with
 | zero => exact LeO.none _
 | succ k ih =>
  refine LeO.ite (eqGo_le (fun x y => ?_) a b) (LeO.refl _)
  unfold relayplain_SameExpr.el
  repeat' first
   | exact ih _ _
   | exact slices_Equal_string_string.mono _ _ _
   | exact LeO.refl _
   | refine LeO.ite ?_ ?_
   | refine LeO.bind ?_ (fun _ => ?_)
theorem relayplain_SameExprs.calls (k : Nat) : ∀ (A0 : Option Addr) (c0 : Nat) (l0 : List (S65)) (A1 : Option Addr) (c1 : Nat) (l1 : List (S65)) (r : Bool) (w : World) (hr0 : Kd.C k65 w A0 l0.length l0) (hc0 : l0.length ≤ c0) (hr1 : Kd.C k65 w A1 l1.length l1) (hc1 : l1.length ≤ c1) (h : relayplain_SameExprs.f k l0 l1 = some r), Calls Try.prog 49 #[.slice A0 l0.length c0, .slice A1 l1.length c1] w fun e w' => e = .returned (.bool r) ∧ Below w.heap.size w w' := by
 induction k with
 | zero => intro A0 c0 l0 A1 c1 l1 r w hr0 hc0 hr1 hc1 h; cases h
 | succ k ih => exact relayplain_SameExprs.callsOf _ ih k
def relayplain_SameExpr.f (k : Nat) (x y : S65) : Option Bool := relayplain_SameExpr.el (relayplain_SameExprs.f k) k x y
theorem relayplain_SameExpr.mono : ∀ x y k, LeO (relayplain_SameExpr.f k x y) (relayplain_SameExpr.f (k + 1) x y) := by
 intro x y k
 unfold relayplain_SameExpr.f relayplain_SameExpr.el
 repeat' first
  | exact relayplain_SameExprs.mono _ _ _
  | exact slices_Equal_string_string.mono _ _ _
  | exact LeO.refl _
  | refine LeO.ite ?_ ?_
  | refine LeO.bind ?_ (fun _ => ?_)
theorem relayplain_SameExpr.calls (k : Nat) (x y : S65) (aA7 : Option Addr) (ac7 : Nat) (aA8 : Option Addr) (ac8 : Nat) (bA7 : Option Addr) (bc7 : Nat) (bA8 : Option Addr) (bc8 : Nat) (r : Bool) (w : World) (ahc0 : Kd.C k65 w aA7 x.f5.length x.f5) (ahl0 : x.f5.length ≤ ac7) (ahc1 : Kd.C Kd.string w aA8 x.f6.length x.f6) (ahl1 : x.f6.length ≤ ac8) (bhc0 : Kd.C k65 w bA7 y.f5.length y.f5) (bhl0 : y.f5.length ≤ bc7) (bhc1 : Kd.C Kd.string w bA8 y.f6.length y.f6) (bhl1 : y.f6.length ≤ bc8) (h : relayplain_SameExpr.f k x y = some r) : Calls Try.prog 43 #[.agg #[.int .i64 x.f0, .int .i64 x.f1, .string x.f2, .string x.f3, .int .u8 x.f4.f0, .int .u64 x.f4.f1, .string x.f4.f2, .slice aA7 x.f5.length ac7, .slice aA8 x.f6.length ac8, .int .u8 x.f7, .int .i64 x.f8, .int .i64 x.f9, .int .i64 x.f10, .int .i64 x.f11], .agg #[.int .i64 y.f0, .int .i64 y.f1, .string y.f2, .string y.f3, .int .u8 y.f4.f0, .int .u64 y.f4.f1, .string y.f4.f2, .slice bA7 y.f5.length bc7, .slice bA8 y.f6.length bc8, .int .u8 y.f7, .int .i64 y.f8, .int .i64 y.f9, .int .i64 y.f10, .int .i64 y.f11]] w fun e w' => e = .returned (.bool r) ∧ Below w.heap.size w w' := relayplain_SameExpr.callsOf _ (relayplain_SameExprs.calls k) k x y aA7 ac7 aA8 ac8 bA7 bc7 bA8 bc8 r w ahc0 ahl0 ahc1 ahl1 bhc0 bhl0 bhc1 bhl1 h
end Go.Proofs.Ytmdkbhbconnmmaa.XSfc
