-- WRITTEN BY wip/tools/sfc/all.py
import Derived.Test.YtmdkbhbconnmmaaXSfcB
import Derived.Test.YtmdkbhbconnmmaaXSfcx4
import Derived.Test.YtmdkbhbconnmmaaXSfcx6
import Derived.Test.YtmdkbhbconnmmaaXSfcx5
namespace Go.Proofs.Ytmdkbhbconnmmaa.XSfc
open Go.RowKit Go.Proofs.YtmdkbhbconnmmaaW.PrintWords Go.Proofs.YtmdkbhbconnmmaaW.PrintLast Go.Proofs.YtmdkbhbconnmmaaW.PrintMore
attribute [local go_sem] max2_int min2_int max_two min_two max_three min_three max_four min_four
set_option linter.unusedVariables false
set_option linter.unusedSimpArgs false
def st_Same_1.one (x y : S46) : Bool := decide (x.f0 = y.f0) && decide (x.f2.toList = y.f2.toList) && (decide (x.f3 = y.f3) || x.f0 == 5)
def st_Same_1.two (k : Nat) (x y : S46) : Option Bool := (slices_Equal_string_string.f k x.f5 y.f5).bind fun u0 => if u0 = true then ((slices_Equal_string_string.f k x.f7 y.f7).bind fun u1 => if u1 = true then ((api_Range.f k x.f8 y.f8).bind fun u2 => if u2 = true then (some true) else some false) else some false) else some false
def st_Same_1.el (F : List S46 → List S46 → Option Bool) (k : Nat) (x y : S46) : Option Bool := (st_Same_1.two k x y).bind fun b => if (st_Same_1.one x y && b) = true then ((st_sameExprs.f k x.f4 y.f4).bind fun u0 => if u0 = true then ((st_sameExprs.f k x.f6 y.f6).bind fun u1 => if u1 = true then ((F x.f9 y.f9).bind fun u2 => if u2 = true then ((F x.f10 y.f10).bind fun u3 => if u3 = true then (some true) else some false) else some false) else some false) else some false) else some false
set_option maxHeartbeats 16000000 in
set_option maxRecDepth 100000 in
theorem st_Same_1.callsOf (F : List S46 → List S46 → Option Bool) (hF : ∀ (A0 : Option Addr) (c0 : Nat) (l0 : List (S46)) (A1 : Option Addr) (c1 : Nat) (l1 : List (S46)) (r : Bool) (w : World) (hr0 : Kd.C k46 w A0 l0.length l0) (hc0 : l0.length ≤ c0) (hr1 : Kd.C k46 w A1 l1.length l1) (hc1 : l1.length ≤ c1) (h : F l0 l1 = some r), Calls Try.prog 9 #[.slice A0 l0.length c0, .slice A1 l1.length c1] w fun e w' => e = .returned (.bool r) ∧ Below w.heap.size w w') (k : Nat) (x y : S46) (aA4 : Option Addr) (ac4 : Nat) (aA5 : Option Addr) (ac5 : Nat) (aA6 : Option Addr) (ac6 : Nat) (aA7 : Option Addr) (ac7 : Nat) (aA8 : Option Addr) (ac8 : Nat) (aA9 : Option Addr) (ac9 : Nat) (aA10 : Option Addr) (ac10 : Nat) (bA4 : Option Addr) (bc4 : Nat) (bA5 : Option Addr) (bc5 : Nat) (bA6 : Option Addr) (bc6 : Nat) (bA7 : Option Addr) (bc7 : Nat) (bA8 : Option Addr) (bc8 : Nat) (bA9 : Option Addr) (bc9 : Nat) (bA10 : Option Addr) (bc10 : Nat) (r : Bool) (w : World) (ahc0 : Kd.C k65 w aA4 x.f4.length x.f4) (ahl0 : x.f4.length ≤ ac4) (ahc1 : Kd.C Kd.string w aA5 x.f5.length x.f5) (ahl1 : x.f5.length ≤ ac5) (ahc2 : Kd.C k65 w aA6 x.f6.length x.f6) (ahl2 : x.f6.length ≤ ac6) (ahc3 : Kd.C Kd.string w aA7 x.f7.length x.f7) (ahl3 : x.f7.length ≤ ac7) (ahc4 : Kd.C k50 w aA8 x.f8.length x.f8) (ahl4 : x.f8.length ≤ ac8) (ahc5 : Kd.C k46 w aA9 x.f9.length x.f9) (ahl5 : x.f9.length ≤ ac9) (ahc6 : Kd.C k46 w aA10 x.f10.length x.f10) (ahl6 : x.f10.length ≤ ac10) (bhc0 : Kd.C k65 w bA4 y.f4.length y.f4) (bhl0 : y.f4.length ≤ bc4) (bhc1 : Kd.C Kd.string w bA5 y.f5.length y.f5) (bhl1 : y.f5.length ≤ bc5) (bhc2 : Kd.C k65 w bA6 y.f6.length y.f6) (bhl2 : y.f6.length ≤ bc6) (bhc3 : Kd.C Kd.string w bA7 y.f7.length y.f7) (bhl3 : y.f7.length ≤ bc7) (bhc4 : Kd.C k50 w bA8 y.f8.length y.f8) (bhl4 : y.f8.length ≤ bc8) (bhc5 : Kd.C k46 w bA9 y.f9.length y.f9) (bhl5 : y.f9.length ≤ bc9) (bhc6 : Kd.C k46 w bA10 y.f10.length y.f10) (bhl6 : y.f10.length ≤ bc10) (h : st_Same_1.el F k x y = some r) :
  Calls Try.prog 21 #[.agg #[.int .i64 x.f0, .int .i64 x.f1, .string x.f2, .int .i64 x.f3, .slice aA4 x.f4.length ac4, .slice aA5 x.f5.length ac5, .slice aA6 x.f6.length ac6, .slice aA7 x.f7.length ac7, .slice aA8 x.f8.length ac8, .slice aA9 x.f9.length ac9, .slice aA10 x.f10.length ac10, .int .u8 x.f11, .int .i64 x.f12, .int .i64 x.f13], .agg #[.int .i64 y.f0, .int .i64 y.f1, .string y.f2, .int .i64 y.f3, .slice bA4 y.f4.length bc4, .slice bA5 y.f5.length bc5, .slice bA6 y.f6.length bc6, .slice bA7 y.f7.length bc7, .slice bA8 y.f8.length bc8, .slice bA9 y.f9.length bc9, .slice bA10 y.f10.length bc10, .int .u8 y.f11, .int .i64 y.f12, .int .i64 y.f13]] w fun e w' => e = .returned (.bool r) ∧ Below w.heap.size w w' := by
 have hu := Try.underlying46
 have HF := Aside0.mk hF
 clear hF
 have HB := Aside0.mk (Below.refl w.heap.size w)
 unfold st_Same_1.el at h
 obtain ⟨b2, hl, hr⟩ := Option.bind_eq_some_iff.mp h
 have HL := Aside0.mk hl
 have HR := Aside0.mk hr
 clear h hl hr
 go_enter Try.func21, Try.ntmps21
 go_upto_region 1 with (first | ((with_reducible refine gate_dst (N := 2) rfl ?_); refine box_event ?hg (N := 2) ?hd (cs := #[.int .i64 x.f0, .int .i64 x.f1, .string x.f2, .int .i64 x.f3, .slice aA4 x.f4.length ac4, .slice aA5 x.f5.length ac5, .slice aA6 x.f6.length ac6, .slice aA7 x.f7.length ac7, .slice aA8 x.f8.length ac8, .slice aA9 x.f9.length ac9, .slice aA10 x.f10.length ac10, .int .u8 x.f11, .int .i64 x.f12, .int .i64 x.f13]) (t := 46) ?hr ?_; (case hd => rfl); (case hg => rfl); (case hr => first | (go_simp; done) | (go_simp; rfl)); intro g1 hg w1 hbox hb; have n0_ := Aside0.mk (below_step (by repeat (first | (with_reducible first | exact HB.out | apply below_alloc | apply pw_below_drewN | apply below_drew1) | exact HB.out)) hb); have G1 := Aside0.mk ((by rw [hg]; exact below_size (by repeat (first | (with_reducible first | exact HB.out | apply below_alloc | apply pw_below_drewN | apply below_drew1) | exact HB.out))) : w.heap.size ≤ g1); have B1 := Aside0.mk hbox; clear HB; have HB := n0_; clear n0_ hb hbox hg) | ((with_reducible refine gate_dst (N := 3) rfl ?_); refine box_event ?hg (N := 3) ?hd (cs := #[.int .i64 y.f0, .int .i64 y.f1, .string y.f2, .int .i64 y.f3, .slice bA4 y.f4.length bc4, .slice bA5 y.f5.length bc5, .slice bA6 y.f6.length bc6, .slice bA7 y.f7.length bc7, .slice bA8 y.f8.length bc8, .slice bA9 y.f9.length bc9, .slice bA10 y.f10.length bc10, .int .u8 y.f11, .int .i64 y.f12, .int .i64 y.f13]) (t := 46) ?hr ?_; (case hd => rfl); (case hg => rfl); (case hr => first | (go_simp; done) | (go_simp; rfl)); intro g2 hg w2 hbox hb; have n0_ := Aside0.mk (below_step (by repeat (first | (with_reducible first | exact HB.out | apply below_alloc | apply pw_below_drewN | apply below_drew1) | exact HB.out)) hb); have n1_ := Aside0.mk (blk_below B1.out hb); have NE1_2 := Aside0.mk ((by rw [hg]; exact Nat.ne_of_lt (blk_lt B1.out)) : g1 ≠ g2); clear B1; have B1 := n1_; clear n1_; have G2 := Aside0.mk ((by rw [hg]; exact below_size (by repeat (first | (with_reducible first | exact HB.out | apply below_alloc | apply pw_below_drewN | apply below_drew1) | exact HB.out))) : w.heap.size ≤ g2); have B2 := Aside0.mk hbox; clear HB; have HB := n0_; clear n0_ hb hbox hg))
 have BB := Aside0.mk (And.intro B1.out B2.out)
 clear B1 B2 G1 G2 NE1_2
 go_cut [5] (fun v_ wc => ∃ b : Bool, v_ = .bool b ∧ Aside0 (b = st_Same_1.one x y) ∧ Aside0 (wc.heap[g1]? = some (.cells #[.int .i64 x.f0, .int .i64 x.f1, .string x.f2, .int .i64 x.f3, .slice aA4 x.f4.length ac4, .slice aA5 x.f5.length ac5, .slice aA6 x.f6.length ac6, .slice aA7 x.f7.length ac7, .slice aA8 x.f8.length ac8, .slice aA9 x.f9.length ac9, .slice aA10 x.f10.length ac10, .int .u8 x.f11, .int .i64 x.f12, .int .i64 x.f13] 46 (0, 0)) ∧ wc.heap[g2]? = some (.cells #[.int .i64 y.f0, .int .i64 y.f1, .string y.f2, .int .i64 y.f3, .slice bA4 y.f4.length bc4, .slice bA5 y.f5.length bc5, .slice bA6 y.f6.length bc6, .slice bA7 y.f7.length bc7, .slice bA8 y.f8.length bc8, .slice bA9 y.f9.length bc9, .slice bA10 y.f10.length bc10, .int .u8 y.f11, .int .i64 y.f12, .int .i64 y.f13] 46 (0, 0))) ∧ Aside0 (Below w.heap.size w wc))
 case first =>
  obtain ⟨z0, -, z2, z3, -, -, -, -, -, -, -, -, -, -, -, -, -, -, -, -, -, -, -, -, -, -, -, -⟩ := cells14 BB.out.1
  obtain ⟨y0, -, y2, y3, -, -, -, -, -, -, -, -, -, -, -, -, -, -, -, -, -, -, -, -, -, -, -, -⟩ := cells14 BB.out.2
  by_cases c0 : x.f0 = y.f0
  case neg =>
   have d0_0 : (x.f0 == y.f0) = false := beq_eq_false_iff_ne.mpr c0
   have d0_1 : (x.f0 != y.f0) = true := bne_iff_ne.mpr c0
   go_wp2
   go_meet
   case rel => exact ⟨false, by first | rfl | (simp; done) | (simp [*]; done), ⟨by simp [st_Same_1.one, c0]⟩, ⟨BB.out⟩, ⟨HB.out⟩⟩
  have d0_0 : (x.f0 == y.f0) = true := beq_iff_eq.mpr c0
  have d0_1 : (x.f0 != y.f0) = false := bne_eq_false_iff_eq.mpr c0
  by_cases c1 : x.f2.toList = y.f2.toList
  case neg =>
   have d1_0 : (x.f2.toList == y.f2.toList) = false := beq_eq_false_iff_ne.mpr c1
   have d1_1 : (x.f2.toList != y.f2.toList) = true := bne_iff_ne.mpr c1
   go_wp2
   go_meet
   case rel => exact ⟨false, by first | rfl | (simp; done) | (simp [*]; done), ⟨by simp [st_Same_1.one, c1]⟩, ⟨BB.out⟩, ⟨HB.out⟩⟩
  have d1_0 : (x.f2.toList == y.f2.toList) = true := beq_iff_eq.mpr c1
  have d1_1 : (x.f2.toList != y.f2.toList) = false := bne_eq_false_iff_eq.mpr c1
  by_cases c2 : x.f3 = y.f3
  case neg =>
   have d2_0 : (x.f3 == y.f3) = false := beq_eq_false_iff_ne.mpr c2
   have d2_1 : (x.f3 != y.f3) = true := bne_iff_ne.mpr c2
   go_wp2
   go_meet
   case rel => exact ⟨(x.f0 == 5), by first | rfl | (simp; done) | (simp [*]; done), ⟨by simp [st_Same_1.one, c0, c1, c2]⟩, ⟨BB.out⟩, ⟨HB.out⟩⟩
  have d2_0 : (x.f3 == y.f3) = true := beq_iff_eq.mpr c2
  have d2_1 : (x.f3 != y.f3) = false := bne_eq_false_iff_eq.mpr c2
  go_wp2
  go_meet
  case rel => exact ⟨true, by first | rfl | (simp; done) | (simp [*]; done), ⟨by simp [st_Same_1.one, c0, c1, c2]⟩, ⟨BB.out⟩, ⟨HB.out⟩⟩
 case rest =>
  clear BB HB
  obtain ⟨b1, rfl, hb1, BB, HB⟩ := hcut
  go_upto_region 2 with (fail)
  go_cut [6] (fun v_ wc => ∃ b : Bool, v_ = .bool b ∧ Aside0 (b = b2) ∧ Aside0 (wc.heap[g1]? = some (.cells #[.int .i64 x.f0, .int .i64 x.f1, .string x.f2, .int .i64 x.f3, .slice aA4 x.f4.length ac4, .slice aA5 x.f5.length ac5, .slice aA6 x.f6.length ac6, .slice aA7 x.f7.length ac7, .slice aA8 x.f8.length ac8, .slice aA9 x.f9.length ac9, .slice aA10 x.f10.length ac10, .int .u8 x.f11, .int .i64 x.f12, .int .i64 x.f13] 46 (0, 0)) ∧ wc.heap[g2]? = some (.cells #[.int .i64 y.f0, .int .i64 y.f1, .string y.f2, .int .i64 y.f3, .slice bA4 y.f4.length bc4, .slice bA5 y.f5.length bc5, .slice bA6 y.f6.length bc6, .slice bA7 y.f7.length bc7, .slice bA8 y.f8.length bc8, .slice bA9 y.f9.length bc9, .slice bA10 y.f10.length bc10, .int .u8 y.f11, .int .i64 y.f12, .int .i64 y.f13] 46 (0, 0))) ∧ Aside0 (Below w.heap.size w wc))
  case first =>
   clear HR hb1
   have hr := HL.out
   unfold st_Same_1.two at hr
   have HE := Aside0.mk hr
   clear hr HL
   have HH1 : Aside0 ((if b2 = true then some true else some false) = some b2) := ⟨by cases b2 <;> rfl⟩
   obtain ⟨-, -, -, -, -, z5, -, z7, z8, -, -, -, -, -, -, -, -, -, -, -, -, -, -, -, -, -, -, -⟩ := cells14 BB.out.1
   obtain ⟨-, -, -, -, -, y5, -, y7, y8, -, -, -, -, -, -, -, -, -, -, -, -, -, -, -, -, -, -, -⟩ := cells14 BB.out.2
   obtain ⟨u0, hu0, hr⟩ := Option.bind_eq_some_iff.mp HE.out
   have A0 := Aside0.mk hu0
   clear HE hu0
   have HE := Aside0.mk hr
   clear hr
   cases u0
   case false =>
    have hr := HE.out
    rw [if_neg Bool.false_ne_true] at hr
    clear HE
    have HE := Aside0.mk hr
    clear hr
    obtain rfl := Option.some.inj HE.out
    have hr := HH1.out
    rw [if_neg Bool.false_ne_true] at hr
    clear hr HE HH1
    go_wp2_with (first | (go_at_call 22; (with_reducible refine (slices_Equal_string_string.calls k _ _ x.f5 _ _ y.f5 _ _ ?side0 ?side1 ?side2 ?side3 A0.out).mono ?_); (case side0 => exact Kd.C_below ahc1 (by repeat (first | (with_reducible first | exact HB.out | apply below_alloc | apply pw_below_drewN | apply below_drew1) | exact HB.out))); (case side1 => exact ahl1); (case side2 => exact Kd.C_below bhc1 (by repeat (first | (with_reducible first | exact HB.out | apply below_alloc | apply pw_below_drewN | apply below_drew1) | exact HB.out))); (case side3 => exact bhl1); rintro e w' ⟨rfl, hb⟩; replace hb := Drawn0.below hb; have n0_ := Aside0.mk (below_step (by repeat (first | (with_reducible first | exact HB.out | apply below_alloc | apply pw_below_drewN | apply below_drew1) | exact HB.out)) hb); have n1_ := Aside0.mk (And.intro (blk_below BB.out.1 hb) (blk_below BB.out.2 hb)); clear HB BB hb z5 z7 z8 y5 y7 y8; have HB := n0_; have BB := n1_; clear n0_ n1_; obtain ⟨-, -, -, -, -, z5, -, z7, z8, -, -, -, -, -, -, -, -, -, -, -, -, -, -, -, -, -, -, -⟩ := cells14 BB.out.1; obtain ⟨-, -, -, -, -, y5, -, y7, y8, -, -, -, -, -, -, -, -, -, -, -, -, -, -, -, -, -, -, -⟩ := cells14 BB.out.2))
    go_meet
    case rel => exact ⟨false, rfl, ⟨rfl⟩, ⟨BB.out⟩, ⟨(by repeat (first | (with_reducible first | exact HB.out | apply below_alloc | apply pw_below_drewN | apply below_drew1) | exact HB.out))⟩⟩
   have hr := HE.out
   rw [if_pos rfl] at hr
   clear HE
   have HE := Aside0.mk hr
   clear hr
   obtain ⟨u1, hu1, hr⟩ := Option.bind_eq_some_iff.mp HE.out
   have A1 := Aside0.mk hu1
   clear HE hu1
   have HE := Aside0.mk hr
   clear hr
   cases u1
   case false =>
    have hr := HE.out
    rw [if_neg Bool.false_ne_true] at hr
    clear HE
    have HE := Aside0.mk hr
    clear hr
    obtain rfl := Option.some.inj HE.out
    have hr := HH1.out
    rw [if_neg Bool.false_ne_true] at hr
    clear hr HE HH1
    go_wp2_with (first | (go_at_call 22; (with_reducible refine (slices_Equal_string_string.calls k _ _ x.f5 _ _ y.f5 _ _ ?side0 ?side1 ?side2 ?side3 A0.out).mono ?_); (case side0 => exact Kd.C_below ahc1 (by repeat (first | (with_reducible first | exact HB.out | apply below_alloc | apply pw_below_drewN | apply below_drew1) | exact HB.out))); (case side1 => exact ahl1); (case side2 => exact Kd.C_below bhc1 (by repeat (first | (with_reducible first | exact HB.out | apply below_alloc | apply pw_below_drewN | apply below_drew1) | exact HB.out))); (case side3 => exact bhl1); rintro e w' ⟨rfl, hb⟩; replace hb := Drawn0.below hb; have n0_ := Aside0.mk (below_step (by repeat (first | (with_reducible first | exact HB.out | apply below_alloc | apply pw_below_drewN | apply below_drew1) | exact HB.out)) hb); have n1_ := Aside0.mk (And.intro (blk_below BB.out.1 hb) (blk_below BB.out.2 hb)); clear HB BB hb z5 z7 z8 y5 y7 y8; have HB := n0_; have BB := n1_; clear n0_ n1_; obtain ⟨-, -, -, -, -, z5, -, z7, z8, -, -, -, -, -, -, -, -, -, -, -, -, -, -, -, -, -, -, -⟩ := cells14 BB.out.1; obtain ⟨-, -, -, -, -, y5, -, y7, y8, -, -, -, -, -, -, -, -, -, -, -, -, -, -, -, -, -, -, -⟩ := cells14 BB.out.2) | (go_at_call 22; (with_reducible refine (slices_Equal_string_string.calls k _ _ x.f7 _ _ y.f7 _ _ ?side0 ?side1 ?side2 ?side3 A1.out).mono ?_); (case side0 => exact Kd.C_below ahc3 (by repeat (first | (with_reducible first | exact HB.out | apply below_alloc | apply pw_below_drewN | apply below_drew1) | exact HB.out))); (case side1 => exact ahl3); (case side2 => exact Kd.C_below bhc3 (by repeat (first | (with_reducible first | exact HB.out | apply below_alloc | apply pw_below_drewN | apply below_drew1) | exact HB.out))); (case side3 => exact bhl3); rintro e w' ⟨rfl, hb⟩; replace hb := Drawn0.below hb; have n0_ := Aside0.mk (below_step (by repeat (first | (with_reducible first | exact HB.out | apply below_alloc | apply pw_below_drewN | apply below_drew1) | exact HB.out)) hb); have n1_ := Aside0.mk (And.intro (blk_below BB.out.1 hb) (blk_below BB.out.2 hb)); clear HB BB hb z5 z7 z8 y5 y7 y8; have HB := n0_; have BB := n1_; clear n0_ n1_; obtain ⟨-, -, -, -, -, z5, -, z7, z8, -, -, -, -, -, -, -, -, -, -, -, -, -, -, -, -, -, -, -⟩ := cells14 BB.out.1; obtain ⟨-, -, -, -, -, y5, -, y7, y8, -, -, -, -, -, -, -, -, -, -, -, -, -, -, -, -, -, -, -⟩ := cells14 BB.out.2))
    go_meet
    case rel => exact ⟨false, rfl, ⟨rfl⟩, ⟨BB.out⟩, ⟨(by repeat (first | (with_reducible first | exact HB.out | apply below_alloc | apply pw_below_drewN | apply below_drew1) | exact HB.out))⟩⟩
   have hr := HE.out
   rw [if_pos rfl] at hr
   clear HE
   have HE := Aside0.mk hr
   clear hr
   obtain ⟨u2, hu2, hr⟩ := Option.bind_eq_some_iff.mp HE.out
   have A2 := Aside0.mk hu2
   clear HE hu2
   have HE := Aside0.mk hr
   clear hr
   cases u2
   case false =>
    have hr := HE.out
    rw [if_neg Bool.false_ne_true] at hr
    clear HE
    have HE := Aside0.mk hr
    clear hr
    obtain rfl := Option.some.inj HE.out
    have hr := HH1.out
    rw [if_neg Bool.false_ne_true] at hr
    clear hr HE HH1
    go_wp2_with (first | (go_at_call 22; (with_reducible refine (slices_Equal_string_string.calls k _ _ x.f5 _ _ y.f5 _ _ ?side0 ?side1 ?side2 ?side3 A0.out).mono ?_); (case side0 => exact Kd.C_below ahc1 (by repeat (first | (with_reducible first | exact HB.out | apply below_alloc | apply pw_below_drewN | apply below_drew1) | exact HB.out))); (case side1 => exact ahl1); (case side2 => exact Kd.C_below bhc1 (by repeat (first | (with_reducible first | exact HB.out | apply below_alloc | apply pw_below_drewN | apply below_drew1) | exact HB.out))); (case side3 => exact bhl1); rintro e w' ⟨rfl, hb⟩; replace hb := Drawn0.below hb; have n0_ := Aside0.mk (below_step (by repeat (first | (with_reducible first | exact HB.out | apply below_alloc | apply pw_below_drewN | apply below_drew1) | exact HB.out)) hb); have n1_ := Aside0.mk (And.intro (blk_below BB.out.1 hb) (blk_below BB.out.2 hb)); clear HB BB hb z5 z7 z8 y5 y7 y8; have HB := n0_; have BB := n1_; clear n0_ n1_; obtain ⟨-, -, -, -, -, z5, -, z7, z8, -, -, -, -, -, -, -, -, -, -, -, -, -, -, -, -, -, -, -⟩ := cells14 BB.out.1; obtain ⟨-, -, -, -, -, y5, -, y7, y8, -, -, -, -, -, -, -, -, -, -, -, -, -, -, -, -, -, -, -⟩ := cells14 BB.out.2) | (go_at_call 22; (with_reducible refine (slices_Equal_string_string.calls k _ _ x.f7 _ _ y.f7 _ _ ?side0 ?side1 ?side2 ?side3 A1.out).mono ?_); (case side0 => exact Kd.C_below ahc3 (by repeat (first | (with_reducible first | exact HB.out | apply below_alloc | apply pw_below_drewN | apply below_drew1) | exact HB.out))); (case side1 => exact ahl3); (case side2 => exact Kd.C_below bhc3 (by repeat (first | (with_reducible first | exact HB.out | apply below_alloc | apply pw_below_drewN | apply below_drew1) | exact HB.out))); (case side3 => exact bhl3); rintro e w' ⟨rfl, hb⟩; replace hb := Drawn0.below hb; have n0_ := Aside0.mk (below_step (by repeat (first | (with_reducible first | exact HB.out | apply below_alloc | apply pw_below_drewN | apply below_drew1) | exact HB.out)) hb); have n1_ := Aside0.mk (And.intro (blk_below BB.out.1 hb) (blk_below BB.out.2 hb)); clear HB BB hb z5 z7 z8 y5 y7 y8; have HB := n0_; have BB := n1_; clear n0_ n1_; obtain ⟨-, -, -, -, -, z5, -, z7, z8, -, -, -, -, -, -, -, -, -, -, -, -, -, -, -, -, -, -, -⟩ := cells14 BB.out.1; obtain ⟨-, -, -, -, -, y5, -, y7, y8, -, -, -, -, -, -, -, -, -, -, -, -, -, -, -, -, -, -, -⟩ := cells14 BB.out.2) | (go_at_call 23; (with_reducible refine (api_Range.calls k _ _ x.f8 _ _ y.f8 _ _ ?side0 ?side1 ?side2 ?side3 A2.out).mono ?_); (case side0 => exact Kd.C_below ahc4 (by repeat (first | (with_reducible first | exact HB.out | apply below_alloc | apply pw_below_drewN | apply below_drew1) | exact HB.out))); (case side1 => exact ahl4); (case side2 => exact Kd.C_below bhc4 (by repeat (first | (with_reducible first | exact HB.out | apply below_alloc | apply pw_below_drewN | apply below_drew1) | exact HB.out))); (case side3 => exact bhl4); rintro e w' ⟨rfl, hb⟩; replace hb := Drawn0.below hb; have n0_ := Aside0.mk (below_step (by repeat (first | (with_reducible first | exact HB.out | apply below_alloc | apply pw_below_drewN | apply below_drew1) | exact HB.out)) hb); have n1_ := Aside0.mk (And.intro (blk_below BB.out.1 hb) (blk_below BB.out.2 hb)); clear HB BB hb z5 z7 z8 y5 y7 y8; have HB := n0_; have BB := n1_; clear n0_ n1_; obtain ⟨-, -, -, -, -, z5, -, z7, z8, -, -, -, -, -, -, -, -, -, -, -, -, -, -, -, -, -, -, -⟩ := cells14 BB.out.1; obtain ⟨-, -, -, -, -, y5, -, y7, y8, -, -, -, -, -, -, -, -, -, -, -, -, -, -, -, -, -, -, -⟩ := cells14 BB.out.2))
    go_meet
    case rel => exact ⟨false, rfl, ⟨rfl⟩, ⟨BB.out⟩, ⟨(by repeat (first | (with_reducible first | exact HB.out | apply below_alloc | apply pw_below_drewN | apply below_drew1) | exact HB.out))⟩⟩
   have hr := HE.out
   rw [if_pos rfl] at hr
   clear HE
   have HE := Aside0.mk hr
   clear hr
   obtain rfl := Option.some.inj HE.out
   have hr := HH1.out
   rw [if_pos rfl] at hr
   have HH := Aside0.mk hr
   clear hr HE HH1
   go_wp2_with (first | (go_at_call 22; (with_reducible refine (slices_Equal_string_string.calls k _ _ x.f5 _ _ y.f5 _ _ ?side0 ?side1 ?side2 ?side3 A0.out).mono ?_); (case side0 => exact Kd.C_below ahc1 (by repeat (first | (with_reducible first | exact HB.out | apply below_alloc | apply pw_below_drewN | apply below_drew1) | exact HB.out))); (case side1 => exact ahl1); (case side2 => exact Kd.C_below bhc1 (by repeat (first | (with_reducible first | exact HB.out | apply below_alloc | apply pw_below_drewN | apply below_drew1) | exact HB.out))); (case side3 => exact bhl1); rintro e w' ⟨rfl, hb⟩; replace hb := Drawn0.below hb; have n0_ := Aside0.mk (below_step (by repeat (first | (with_reducible first | exact HB.out | apply below_alloc | apply pw_below_drewN | apply below_drew1) | exact HB.out)) hb); have n1_ := Aside0.mk (And.intro (blk_below BB.out.1 hb) (blk_below BB.out.2 hb)); clear HB BB hb z5 z7 z8 y5 y7 y8; have HB := n0_; have BB := n1_; clear n0_ n1_; obtain ⟨-, -, -, -, -, z5, -, z7, z8, -, -, -, -, -, -, -, -, -, -, -, -, -, -, -, -, -, -, -⟩ := cells14 BB.out.1; obtain ⟨-, -, -, -, -, y5, -, y7, y8, -, -, -, -, -, -, -, -, -, -, -, -, -, -, -, -, -, -, -⟩ := cells14 BB.out.2) | (go_at_call 22; (with_reducible refine (slices_Equal_string_string.calls k _ _ x.f7 _ _ y.f7 _ _ ?side0 ?side1 ?side2 ?side3 A1.out).mono ?_); (case side0 => exact Kd.C_below ahc3 (by repeat (first | (with_reducible first | exact HB.out | apply below_alloc | apply pw_below_drewN | apply below_drew1) | exact HB.out))); (case side1 => exact ahl3); (case side2 => exact Kd.C_below bhc3 (by repeat (first | (with_reducible first | exact HB.out | apply below_alloc | apply pw_below_drewN | apply below_drew1) | exact HB.out))); (case side3 => exact bhl3); rintro e w' ⟨rfl, hb⟩; replace hb := Drawn0.below hb; have n0_ := Aside0.mk (below_step (by repeat (first | (with_reducible first | exact HB.out | apply below_alloc | apply pw_below_drewN | apply below_drew1) | exact HB.out)) hb); have n1_ := Aside0.mk (And.intro (blk_below BB.out.1 hb) (blk_below BB.out.2 hb)); clear HB BB hb z5 z7 z8 y5 y7 y8; have HB := n0_; have BB := n1_; clear n0_ n1_; obtain ⟨-, -, -, -, -, z5, -, z7, z8, -, -, -, -, -, -, -, -, -, -, -, -, -, -, -, -, -, -, -⟩ := cells14 BB.out.1; obtain ⟨-, -, -, -, -, y5, -, y7, y8, -, -, -, -, -, -, -, -, -, -, -, -, -, -, -, -, -, -, -⟩ := cells14 BB.out.2) | (go_at_call 23; (with_reducible refine (api_Range.calls k _ _ x.f8 _ _ y.f8 _ _ ?side0 ?side1 ?side2 ?side3 A2.out).mono ?_); (case side0 => exact Kd.C_below ahc4 (by repeat (first | (with_reducible first | exact HB.out | apply below_alloc | apply pw_below_drewN | apply below_drew1) | exact HB.out))); (case side1 => exact ahl4); (case side2 => exact Kd.C_below bhc4 (by repeat (first | (with_reducible first | exact HB.out | apply below_alloc | apply pw_below_drewN | apply below_drew1) | exact HB.out))); (case side3 => exact bhl4); rintro e w' ⟨rfl, hb⟩; replace hb := Drawn0.below hb; have n0_ := Aside0.mk (below_step (by repeat (first | (with_reducible first | exact HB.out | apply below_alloc | apply pw_below_drewN | apply below_drew1) | exact HB.out)) hb); have n1_ := Aside0.mk (And.intro (blk_below BB.out.1 hb) (blk_below BB.out.2 hb)); clear HB BB hb z5 z7 z8 y5 y7 y8; have HB := n0_; have BB := n1_; clear n0_ n1_; obtain ⟨-, -, -, -, -, z5, -, z7, z8, -, -, -, -, -, -, -, -, -, -, -, -, -, -, -, -, -, -, -⟩ := cells14 BB.out.1; obtain ⟨-, -, -, -, -, y5, -, y7, y8, -, -, -, -, -, -, -, -, -, -, -, -, -, -, -, -, -, -, -⟩ := cells14 BB.out.2))
   go_meet
   case rel => exact ⟨true, rfl, ⟨rfl⟩, ⟨BB.out⟩, ⟨(by repeat (first | (with_reducible first | exact HB.out | apply below_alloc | apply pw_below_drewN | apply below_drew1) | exact HB.out))⟩⟩
  case rest =>
   clear BB HB HL
   obtain ⟨b3, rfl, hb3, BB, HB⟩ := hcut
   obtain rfl := hb3.out
   clear hb3
   go_upto_region 3 with (fail)
   have hr := HR.out
   rw [← hb1.out] at hr
   clear HR hb1
   have HE := Aside0.mk hr
   clear hr
   cases b1
   case false =>
    have hr := HE.out
    rw [Bool.false_and, if_neg Bool.false_ne_true] at hr
    clear HE
    have HE := Aside0.mk hr
    clear hr
    cases b3
    all_goals (obtain rfl := Option.some.inj HE.out; clear HE; go_wp2; go_ret; exact ⟨rfl, HB.out⟩)
   cases b3
   case false =>
    have hr := HE.out
    rw [Bool.and_false, if_neg Bool.false_ne_true] at hr
    clear HE
    have HE := Aside0.mk hr
    clear hr
    obtain rfl := Option.some.inj HE.out
    clear HE
    go_wp2
    go_ret
    exact ⟨rfl, HB.out⟩
   have hr := HE.out
   rw [Bool.and_self, if_pos rfl] at hr
   clear HE
   have HE := Aside0.mk hr
   clear hr
   have HH1 : Aside0 ((if r = true then some true else some false) = some r) := ⟨by cases r <;> rfl⟩
   obtain ⟨-, -, -, -, z4, -, z6, -, -, z9, z10, -, -, -, -, -, -, -, -, -, -, -, -, -, -, -, -, -⟩ := cells14 BB.out.1
   obtain ⟨-, -, -, -, y4, -, y6, -, -, y9, y10, -, -, -, -, -, -, -, -, -, -, -, -, -, -, -, -, -⟩ := cells14 BB.out.2
   obtain ⟨u0, hu0, hr⟩ := Option.bind_eq_some_iff.mp HE.out
   have A0 := Aside0.mk hu0
   clear HE hu0
   have HE := Aside0.mk hr
   clear hr
   cases u0
   case false =>
    have hr := HE.out
    rw [if_neg Bool.false_ne_true] at hr
    clear HE
    have HE := Aside0.mk hr
    clear hr
    obtain rfl := Option.some.inj HE.out
    have hr := HH1.out
    rw [if_neg Bool.false_ne_true] at hr
    clear hr HE HH1
    go_wp2_with (first | (go_at_call 24; (with_reducible refine (st_sameExprs.calls k _ _ x.f4 _ _ y.f4 _ _ ?side0 ?side1 ?side2 ?side3 A0.out).mono ?_); (case side0 => exact Kd.C_below ahc0 (by repeat (first | (with_reducible first | exact HB.out | apply below_alloc | apply pw_below_drewN | apply below_drew1) | exact HB.out))); (case side1 => exact ahl0); (case side2 => exact Kd.C_below bhc0 (by repeat (first | (with_reducible first | exact HB.out | apply below_alloc | apply pw_below_drewN | apply below_drew1) | exact HB.out))); (case side3 => exact bhl0); rintro e w' ⟨rfl, hb⟩; have n0_ := Aside0.mk (below_step (by repeat (first | (with_reducible first | exact HB.out | apply below_alloc | apply pw_below_drewN | apply below_drew1) | exact HB.out)) hb); have n1_ := Aside0.mk (And.intro (blk_below BB.out.1 hb) (blk_below BB.out.2 hb)); clear HB BB hb z4 z6 z9 z10 y4 y6 y9 y10; have HB := n0_; have BB := n1_; clear n0_ n1_; obtain ⟨-, -, -, -, z4, -, z6, -, -, z9, z10, -, -, -, -, -, -, -, -, -, -, -, -, -, -, -, -, -⟩ := cells14 BB.out.1; obtain ⟨-, -, -, -, y4, -, y6, -, -, y9, y10, -, -, -, -, -, -, -, -, -, -, -, -, -, -, -, -, -⟩ := cells14 BB.out.2))
    go_ret
    exact ⟨rfl, (by repeat (first | (with_reducible first | exact HB.out | apply below_alloc | apply pw_below_drewN | apply below_drew1) | exact HB.out))⟩
   have hr := HE.out
   rw [if_pos rfl] at hr
   clear HE
   have HE := Aside0.mk hr
   clear hr
   obtain ⟨u1, hu1, hr⟩ := Option.bind_eq_some_iff.mp HE.out
   have A1 := Aside0.mk hu1
   clear HE hu1
   have HE := Aside0.mk hr
   clear hr
   cases u1
   case false =>
    have hr := HE.out
    rw [if_neg Bool.false_ne_true] at hr
    clear HE
    have HE := Aside0.mk hr
    clear hr
    obtain rfl := Option.some.inj HE.out
    have hr := HH1.out
    rw [if_neg Bool.false_ne_true] at hr
    clear hr HE HH1
    go_wp2_with (first | (go_at_call 24; (with_reducible refine (st_sameExprs.calls k _ _ x.f4 _ _ y.f4 _ _ ?side0 ?side1 ?side2 ?side3 A0.out).mono ?_); (case side0 => exact Kd.C_below ahc0 (by repeat (first | (with_reducible first | exact HB.out | apply below_alloc | apply pw_below_drewN | apply below_drew1) | exact HB.out))); (case side1 => exact ahl0); (case side2 => exact Kd.C_below bhc0 (by repeat (first | (with_reducible first | exact HB.out | apply below_alloc | apply pw_below_drewN | apply below_drew1) | exact HB.out))); (case side3 => exact bhl0); rintro e w' ⟨rfl, hb⟩; have n0_ := Aside0.mk (below_step (by repeat (first | (with_reducible first | exact HB.out | apply below_alloc | apply pw_below_drewN | apply below_drew1) | exact HB.out)) hb); have n1_ := Aside0.mk (And.intro (blk_below BB.out.1 hb) (blk_below BB.out.2 hb)); clear HB BB hb z4 z6 z9 z10 y4 y6 y9 y10; have HB := n0_; have BB := n1_; clear n0_ n1_; obtain ⟨-, -, -, -, z4, -, z6, -, -, z9, z10, -, -, -, -, -, -, -, -, -, -, -, -, -, -, -, -, -⟩ := cells14 BB.out.1; obtain ⟨-, -, -, -, y4, -, y6, -, -, y9, y10, -, -, -, -, -, -, -, -, -, -, -, -, -, -, -, -, -⟩ := cells14 BB.out.2) | (go_at_call 24; (with_reducible refine (st_sameExprs.calls k _ _ x.f6 _ _ y.f6 _ _ ?side0 ?side1 ?side2 ?side3 A1.out).mono ?_); (case side0 => exact Kd.C_below ahc2 (by repeat (first | (with_reducible first | exact HB.out | apply below_alloc | apply pw_below_drewN | apply below_drew1) | exact HB.out))); (case side1 => exact ahl2); (case side2 => exact Kd.C_below bhc2 (by repeat (first | (with_reducible first | exact HB.out | apply below_alloc | apply pw_below_drewN | apply below_drew1) | exact HB.out))); (case side3 => exact bhl2); rintro e w' ⟨rfl, hb⟩; have n0_ := Aside0.mk (below_step (by repeat (first | (with_reducible first | exact HB.out | apply below_alloc | apply pw_below_drewN | apply below_drew1) | exact HB.out)) hb); have n1_ := Aside0.mk (And.intro (blk_below BB.out.1 hb) (blk_below BB.out.2 hb)); clear HB BB hb z4 z6 z9 z10 y4 y6 y9 y10; have HB := n0_; have BB := n1_; clear n0_ n1_; obtain ⟨-, -, -, -, z4, -, z6, -, -, z9, z10, -, -, -, -, -, -, -, -, -, -, -, -, -, -, -, -, -⟩ := cells14 BB.out.1; obtain ⟨-, -, -, -, y4, -, y6, -, -, y9, y10, -, -, -, -, -, -, -, -, -, -, -, -, -, -, -, -, -⟩ := cells14 BB.out.2))
    go_ret
    exact ⟨rfl, (by repeat (first | (with_reducible first | exact HB.out | apply below_alloc | apply pw_below_drewN | apply below_drew1) | exact HB.out))⟩
   have hr := HE.out
   rw [if_pos rfl] at hr
   clear HE
   have HE := Aside0.mk hr
   clear hr
   obtain ⟨u2, hu2, hr⟩ := Option.bind_eq_some_iff.mp HE.out
   have A2 := Aside0.mk hu2
   clear HE hu2
   have HE := Aside0.mk hr
   clear hr
   cases u2
   case false =>
    have hr := HE.out
    rw [if_neg Bool.false_ne_true] at hr
    clear HE
    have HE := Aside0.mk hr
    clear hr
    obtain rfl := Option.some.inj HE.out
    have hr := HH1.out
    rw [if_neg Bool.false_ne_true] at hr
    clear hr HE HH1
    go_wp2_with (first | (go_at_call 24; (with_reducible refine (st_sameExprs.calls k _ _ x.f4 _ _ y.f4 _ _ ?side0 ?side1 ?side2 ?side3 A0.out).mono ?_); (case side0 => exact Kd.C_below ahc0 (by repeat (first | (with_reducible first | exact HB.out | apply below_alloc | apply pw_below_drewN | apply below_drew1) | exact HB.out))); (case side1 => exact ahl0); (case side2 => exact Kd.C_below bhc0 (by repeat (first | (with_reducible first | exact HB.out | apply below_alloc | apply pw_below_drewN | apply below_drew1) | exact HB.out))); (case side3 => exact bhl0); rintro e w' ⟨rfl, hb⟩; have n0_ := Aside0.mk (below_step (by repeat (first | (with_reducible first | exact HB.out | apply below_alloc | apply pw_below_drewN | apply below_drew1) | exact HB.out)) hb); have n1_ := Aside0.mk (And.intro (blk_below BB.out.1 hb) (blk_below BB.out.2 hb)); clear HB BB hb z4 z6 z9 z10 y4 y6 y9 y10; have HB := n0_; have BB := n1_; clear n0_ n1_; obtain ⟨-, -, -, -, z4, -, z6, -, -, z9, z10, -, -, -, -, -, -, -, -, -, -, -, -, -, -, -, -, -⟩ := cells14 BB.out.1; obtain ⟨-, -, -, -, y4, -, y6, -, -, y9, y10, -, -, -, -, -, -, -, -, -, -, -, -, -, -, -, -, -⟩ := cells14 BB.out.2) | (go_at_call 24; (with_reducible refine (st_sameExprs.calls k _ _ x.f6 _ _ y.f6 _ _ ?side0 ?side1 ?side2 ?side3 A1.out).mono ?_); (case side0 => exact Kd.C_below ahc2 (by repeat (first | (with_reducible first | exact HB.out | apply below_alloc | apply pw_below_drewN | apply below_drew1) | exact HB.out))); (case side1 => exact ahl2); (case side2 => exact Kd.C_below bhc2 (by repeat (first | (with_reducible first | exact HB.out | apply below_alloc | apply pw_below_drewN | apply below_drew1) | exact HB.out))); (case side3 => exact bhl2); rintro e w' ⟨rfl, hb⟩; have n0_ := Aside0.mk (below_step (by repeat (first | (with_reducible first | exact HB.out | apply below_alloc | apply pw_below_drewN | apply below_drew1) | exact HB.out)) hb); have n1_ := Aside0.mk (And.intro (blk_below BB.out.1 hb) (blk_below BB.out.2 hb)); clear HB BB hb z4 z6 z9 z10 y4 y6 y9 y10; have HB := n0_; have BB := n1_; clear n0_ n1_; obtain ⟨-, -, -, -, z4, -, z6, -, -, z9, z10, -, -, -, -, -, -, -, -, -, -, -, -, -, -, -, -, -⟩ := cells14 BB.out.1; obtain ⟨-, -, -, -, y4, -, y6, -, -, y9, y10, -, -, -, -, -, -, -, -, -, -, -, -, -, -, -, -, -⟩ := cells14 BB.out.2) | (go_at_call 9; (with_reducible refine (HF.out _ _ x.f9 _ _ y.f9 _ _ ?side0 ?side1 ?side2 ?side3 A2.out).mono ?_); (case side0 => exact Kd.C_below ahc5 (by repeat (first | (with_reducible first | exact HB.out | apply below_alloc | apply pw_below_drewN | apply below_drew1) | exact HB.out))); (case side1 => exact ahl5); (case side2 => exact Kd.C_below bhc5 (by repeat (first | (with_reducible first | exact HB.out | apply below_alloc | apply pw_below_drewN | apply below_drew1) | exact HB.out))); (case side3 => exact bhl5); rintro e w' ⟨rfl, hb⟩; have n0_ := Aside0.mk (below_step (by repeat (first | (with_reducible first | exact HB.out | apply below_alloc | apply pw_below_drewN | apply below_drew1) | exact HB.out)) hb); have n1_ := Aside0.mk (And.intro (blk_below BB.out.1 hb) (blk_below BB.out.2 hb)); clear HB BB hb z4 z6 z9 z10 y4 y6 y9 y10; have HB := n0_; have BB := n1_; clear n0_ n1_; obtain ⟨-, -, -, -, z4, -, z6, -, -, z9, z10, -, -, -, -, -, -, -, -, -, -, -, -, -, -, -, -, -⟩ := cells14 BB.out.1; obtain ⟨-, -, -, -, y4, -, y6, -, -, y9, y10, -, -, -, -, -, -, -, -, -, -, -, -, -, -, -, -, -⟩ := cells14 BB.out.2))
    go_ret
    exact ⟨rfl, (by repeat (first | (with_reducible first | exact HB.out | apply below_alloc | apply pw_below_drewN | apply below_drew1) | exact HB.out))⟩
   have hr := HE.out
   rw [if_pos rfl] at hr
   clear HE
   have HE := Aside0.mk hr
   clear hr
   obtain ⟨u3, hu3, hr⟩ := Option.bind_eq_some_iff.mp HE.out
   have A3 := Aside0.mk hu3
   clear HE hu3
   have HE := Aside0.mk hr
   clear hr
   cases u3
   case false =>
    have hr := HE.out
    rw [if_neg Bool.false_ne_true] at hr
    clear HE
    have HE := Aside0.mk hr
    clear hr
    obtain rfl := Option.some.inj HE.out
    have hr := HH1.out
    rw [if_neg Bool.false_ne_true] at hr
    clear hr HE HH1
    go_wp2_with (first | (go_at_call 24; (with_reducible refine (st_sameExprs.calls k _ _ x.f4 _ _ y.f4 _ _ ?side0 ?side1 ?side2 ?side3 A0.out).mono ?_); (case side0 => exact Kd.C_below ahc0 (by repeat (first | (with_reducible first | exact HB.out | apply below_alloc | apply pw_below_drewN | apply below_drew1) | exact HB.out))); (case side1 => exact ahl0); (case side2 => exact Kd.C_below bhc0 (by repeat (first | (with_reducible first | exact HB.out | apply below_alloc | apply pw_below_drewN | apply below_drew1) | exact HB.out))); (case side3 => exact bhl0); rintro e w' ⟨rfl, hb⟩; have n0_ := Aside0.mk (below_step (by repeat (first | (with_reducible first | exact HB.out | apply below_alloc | apply pw_below_drewN | apply below_drew1) | exact HB.out)) hb); have n1_ := Aside0.mk (And.intro (blk_below BB.out.1 hb) (blk_below BB.out.2 hb)); clear HB BB hb z4 z6 z9 z10 y4 y6 y9 y10; have HB := n0_; have BB := n1_; clear n0_ n1_; obtain ⟨-, -, -, -, z4, -, z6, -, -, z9, z10, -, -, -, -, -, -, -, -, -, -, -, -, -, -, -, -, -⟩ := cells14 BB.out.1; obtain ⟨-, -, -, -, y4, -, y6, -, -, y9, y10, -, -, -, -, -, -, -, -, -, -, -, -, -, -, -, -, -⟩ := cells14 BB.out.2) | (go_at_call 24; (with_reducible refine (st_sameExprs.calls k _ _ x.f6 _ _ y.f6 _ _ ?side0 ?side1 ?side2 ?side3 A1.out).mono ?_); (case side0 => exact Kd.C_below ahc2 (by repeat (first | (with_reducible first | exact HB.out | apply below_alloc | apply pw_below_drewN | apply below_drew1) | exact HB.out))); (case side1 => exact ahl2); (case side2 => exact Kd.C_below bhc2 (by repeat (first | (with_reducible first | exact HB.out | apply below_alloc | apply pw_below_drewN | apply below_drew1) | exact HB.out))); (case side3 => exact bhl2); rintro e w' ⟨rfl, hb⟩; have n0_ := Aside0.mk (below_step (by repeat (first | (with_reducible first | exact HB.out | apply below_alloc | apply pw_below_drewN | apply below_drew1) | exact HB.out)) hb); have n1_ := Aside0.mk (And.intro (blk_below BB.out.1 hb) (blk_below BB.out.2 hb)); clear HB BB hb z4 z6 z9 z10 y4 y6 y9 y10; have HB := n0_; have BB := n1_; clear n0_ n1_; obtain ⟨-, -, -, -, z4, -, z6, -, -, z9, z10, -, -, -, -, -, -, -, -, -, -, -, -, -, -, -, -, -⟩ := cells14 BB.out.1; obtain ⟨-, -, -, -, y4, -, y6, -, -, y9, y10, -, -, -, -, -, -, -, -, -, -, -, -, -, -, -, -, -⟩ := cells14 BB.out.2) | (go_at_call 9; (with_reducible refine (HF.out _ _ x.f9 _ _ y.f9 _ _ ?side0 ?side1 ?side2 ?side3 A2.out).mono ?_); (case side0 => exact Kd.C_below ahc5 (by repeat (first | (with_reducible first | exact HB.out | apply below_alloc | apply pw_below_drewN | apply below_drew1) | exact HB.out))); (case side1 => exact ahl5); (case side2 => exact Kd.C_below bhc5 (by repeat (first | (with_reducible first | exact HB.out | apply below_alloc | apply pw_below_drewN | apply below_drew1) | exact HB.out))); (case side3 => exact bhl5); rintro e w' ⟨rfl, hb⟩; have n0_ := Aside0.mk (below_step (by repeat (first | (with_reducible first | exact HB.out | apply below_alloc | apply pw_below_drewN | apply below_drew1) | exact HB.out)) hb); have n1_ := Aside0.mk (And.intro (blk_below BB.out.1 hb) (blk_below BB.out.2 hb)); clear HB BB hb z4 z6 z9 z10 y4 y6 y9 y10; have HB := n0_; have BB := n1_; clear n0_ n1_; obtain ⟨-, -, -, -, z4, -, z6, -, -, z9, z10, -, -, -, -, -, -, -, -, -, -, -, -, -, -, -, -, -⟩ := cells14 BB.out.1; obtain ⟨-, -, -, -, y4, -, y6, -, -, y9, y10, -, -, -, -, -, -, -, -, -, -, -, -, -, -, -, -, -⟩ := cells14 BB.out.2) | (go_at_call 9; (with_reducible refine (HF.out _ _ x.f10 _ _ y.f10 _ _ ?side0 ?side1 ?side2 ?side3 A3.out).mono ?_); (case side0 => exact Kd.C_below ahc6 (by repeat (first | (with_reducible first | exact HB.out | apply below_alloc | apply pw_below_drewN | apply below_drew1) | exact HB.out))); (case side1 => exact ahl6); (case side2 => exact Kd.C_below bhc6 (by repeat (first | (with_reducible first | exact HB.out | apply below_alloc | apply pw_below_drewN | apply below_drew1) | exact HB.out))); (case side3 => exact bhl6); rintro e w' ⟨rfl, hb⟩; have n0_ := Aside0.mk (below_step (by repeat (first | (with_reducible first | exact HB.out | apply below_alloc | apply pw_below_drewN | apply below_drew1) | exact HB.out)) hb); have n1_ := Aside0.mk (And.intro (blk_below BB.out.1 hb) (blk_below BB.out.2 hb)); clear HB BB hb z4 z6 z9 z10 y4 y6 y9 y10; have HB := n0_; have BB := n1_; clear n0_ n1_; obtain ⟨-, -, -, -, z4, -, z6, -, -, z9, z10, -, -, -, -, -, -, -, -, -, -, -, -, -, -, -, -, -⟩ := cells14 BB.out.1; obtain ⟨-, -, -, -, y4, -, y6, -, -, y9, y10, -, -, -, -, -, -, -, -, -, -, -, -, -, -, -, -, -⟩ := cells14 BB.out.2))
    go_ret
    exact ⟨rfl, (by repeat (first | (with_reducible first | exact HB.out | apply below_alloc | apply pw_below_drewN | apply below_drew1) | exact HB.out))⟩
   have hr := HE.out
   rw [if_pos rfl] at hr
   clear HE
   have HE := Aside0.mk hr
   clear hr
   obtain rfl := Option.some.inj HE.out
   have hr := HH1.out
   rw [if_pos rfl] at hr
   have HH := Aside0.mk hr
   clear hr HE HH1
   go_wp2_with (first | (go_at_call 24; (with_reducible refine (st_sameExprs.calls k _ _ x.f4 _ _ y.f4 _ _ ?side0 ?side1 ?side2 ?side3 A0.out).mono ?_); (case side0 => exact Kd.C_below ahc0 (by repeat (first | (with_reducible first | exact HB.out | apply below_alloc | apply pw_below_drewN | apply below_drew1) | exact HB.out))); (case side1 => exact ahl0); (case side2 => exact Kd.C_below bhc0 (by repeat (first | (with_reducible first | exact HB.out | apply below_alloc | apply pw_below_drewN | apply below_drew1) | exact HB.out))); (case side3 => exact bhl0); rintro e w' ⟨rfl, hb⟩; have n0_ := Aside0.mk (below_step (by repeat (first | (with_reducible first | exact HB.out | apply below_alloc | apply pw_below_drewN | apply below_drew1) | exact HB.out)) hb); have n1_ := Aside0.mk (And.intro (blk_below BB.out.1 hb) (blk_below BB.out.2 hb)); clear HB BB hb z4 z6 z9 z10 y4 y6 y9 y10; have HB := n0_; have BB := n1_; clear n0_ n1_; obtain ⟨-, -, -, -, z4, -, z6, -, -, z9, z10, -, -, -, -, -, -, -, -, -, -, -, -, -, -, -, -, -⟩ := cells14 BB.out.1; obtain ⟨-, -, -, -, y4, -, y6, -, -, y9, y10, -, -, -, -, -, -, -, -, -, -, -, -, -, -, -, -, -⟩ := cells14 BB.out.2) | (go_at_call 24; (with_reducible refine (st_sameExprs.calls k _ _ x.f6 _ _ y.f6 _ _ ?side0 ?side1 ?side2 ?side3 A1.out).mono ?_); (case side0 => exact Kd.C_below ahc2 (by repeat (first | (with_reducible first | exact HB.out | apply below_alloc | apply pw_below_drewN | apply below_drew1) | exact HB.out))); (case side1 => exact ahl2); (case side2 => exact Kd.C_below bhc2 (by repeat (first | (with_reducible first | exact HB.out | apply below_alloc | apply pw_below_drewN | apply below_drew1) | exact HB.out))); (case side3 => exact bhl2); rintro e w' ⟨rfl, hb⟩; have n0_ := Aside0.mk (below_step (by repeat (first | (with_reducible first | exact HB.out | apply below_alloc | apply pw_below_drewN | apply below_drew1) | exact HB.out)) hb); have n1_ := Aside0.mk (And.intro (blk_below BB.out.1 hb) (blk_below BB.out.2 hb)); clear HB BB hb z4 z6 z9 z10 y4 y6 y9 y10; have HB := n0_; have BB := n1_; clear n0_ n1_; obtain ⟨-, -, -, -, z4, -, z6, -, -, z9, z10, -, -, -, -, -, -, -, -, -, -, -, -, -, -, -, -, -⟩ := cells14 BB.out.1; obtain ⟨-, -, -, -, y4, -, y6, -, -, y9, y10, -, -, -, -, -, -, -, -, -, -, -, -, -, -, -, -, -⟩ := cells14 BB.out.2) | (go_at_call 9; (with_reducible refine (HF.out _ _ x.f9 _ _ y.f9 _ _ ?side0 ?side1 ?side2 ?side3 A2.out).mono ?_); (case side0 => exact Kd.C_below ahc5 (by repeat (first | (with_reducible first | exact HB.out | apply below_alloc | apply pw_below_drewN | apply below_drew1) | exact HB.out))); (case side1 => exact ahl5); (case side2 => exact Kd.C_below bhc5 (by repeat (first | (with_reducible first | exact HB.out | apply below_alloc | apply pw_below_drewN | apply below_drew1) | exact HB.out))); (case side3 => exact bhl5); rintro e w' ⟨rfl, hb⟩; have n0_ := Aside0.mk (below_step (by repeat (first | (with_reducible first | exact HB.out | apply below_alloc | apply pw_below_drewN | apply below_drew1) | exact HB.out)) hb); have n1_ := Aside0.mk (And.intro (blk_below BB.out.1 hb) (blk_below BB.out.2 hb)); clear HB BB hb z4 z6 z9 z10 y4 y6 y9 y10; have HB := n0_; have BB := n1_; clear n0_ n1_; obtain ⟨-, -, -, -, z4, -, z6, -, -, z9, z10, -, -, -, -, -, -, -, -, -, -, -, -, -, -, -, -, -⟩ := cells14 BB.out.1; obtain ⟨-, -, -, -, y4, -, y6, -, -, y9, y10, -, -, -, -, -, -, -, -, -, -, -, -, -, -, -, -, -⟩ := cells14 BB.out.2) | (go_at_call 9; (with_reducible refine (HF.out _ _ x.f10 _ _ y.f10 _ _ ?side0 ?side1 ?side2 ?side3 A3.out).mono ?_); (case side0 => exact Kd.C_below ahc6 (by repeat (first | (with_reducible first | exact HB.out | apply below_alloc | apply pw_below_drewN | apply below_drew1) | exact HB.out))); (case side1 => exact ahl6); (case side2 => exact Kd.C_below bhc6 (by repeat (first | (with_reducible first | exact HB.out | apply below_alloc | apply pw_below_drewN | apply below_drew1) | exact HB.out))); (case side3 => exact bhl6); rintro e w' ⟨rfl, hb⟩; have n0_ := Aside0.mk (below_step (by repeat (first | (with_reducible first | exact HB.out | apply below_alloc | apply pw_below_drewN | apply below_drew1) | exact HB.out)) hb); have n1_ := Aside0.mk (And.intro (blk_below BB.out.1 hb) (blk_below BB.out.2 hb)); clear HB BB hb z4 z6 z9 z10 y4 y6 y9 y10; have HB := n0_; have BB := n1_; clear n0_ n1_; obtain ⟨-, -, -, -, z4, -, z6, -, -, z9, z10, -, -, -, -, -, -, -, -, -, -, -, -, -, -, -, -, -⟩ := cells14 BB.out.1; obtain ⟨-, -, -, -, y4, -, y6, -, -, y9, y10, -, -, -, -, -, -, -, -, -, -, -, -, -, -, -, -, -⟩ := cells14 BB.out.2))
   go_ret
   exact ⟨rfl, (by repeat (first | (with_reducible first | exact HB.out | apply below_alloc | apply pw_below_drewN | apply below_drew1) | exact HB.out))⟩
set_option maxHeartbeats 4000000 in
set_option maxRecDepth 100000 in
theorem api_Stmt.callsOf (F : List S46 → List S46 → Option Bool) (hF : ∀ (A0 : Option Addr) (c0 : Nat) (l0 : List (S46)) (A1 : Option Addr) (c1 : Nat) (l1 : List (S46)) (r : Bool) (w : World) (hr0 : Kd.C k46 w A0 l0.length l0) (hc0 : l0.length ≤ c0) (hr1 : Kd.C k46 w A1 l1.length l1) (hc1 : l1.length ≤ c1) (h : F l0 l1 = some r), Calls Try.prog 9 #[.slice A0 l0.length c0, .slice A1 l1.length c1] w fun e w' => e = .returned (.bool r) ∧ Below w.heap.size w w') (k : Nat) (A0 : Option Addr) (c0 : Nat) (l0 : List (S46)) (A1 : Option Addr) (c1 : Nat) (l1 : List (S46)) (r : Bool) (w : World) (hr0 : Kd.C k46 w A0 l0.length l0) (hc0 : l0.length ≤ c0) (hr1 : Kd.C k46 w A1 l1.length l1) (hc1 : l1.length ≤ c1) (h : (if l0.length = l1.length then eqGo (st_Same_1.el F k) l0 l1 else some false) = some r) :
  Calls Try.prog 20 #[.slice A0 l0.length c0, .slice A1 l1.length c1, .func (.func 21) #[] #[]] w fun e w' => e = .returned (.bool r) ∧ Below w.heap.size w w' := by
 have hu := Try.underlying46
 have HR0 := Aside0.mk hr0
 have HR1 := Aside0.mk hr1
 have HM := Aside0.mk (Kd.C_max hr0)
 clear hr0 hr1 hc0 hc1
 have HB := Aside0.mk (Below.refl w.heap.size w)
 have HF := Aside0.mk hF
 by_cases hl : l0.length = l1.length
 case neg =>
  rw [if_neg hl] at h
  obtain rfl := Option.some.inj h
  have hn : ¬ ((l0.length : Int) = (l1.length : Int)) := fun e => hl (by omega)
  have b0 : ((l0.length : Int) == (l1.length : Int)) = false := beq_eq_false_iff_ne.mpr hn
  have b1 : ((l0.length : Int) != (l1.length : Int)) = true := bne_iff_ne.mpr hn
  clear hn
  go_enter Try.func20, Try.ntmps20
  go_wp2
  go_ret
  exact ⟨rfl, HB.out⟩
 rw [if_pos hl] at h
 have HH := Aside0.mk h
 have HL := Aside0.mk hl
 have b0 : ((l0.length : Int) == (l1.length : Int)) = true := by rw [hl]; exact beq_self_eq_true _
 have b1 : ((l0.length : Int) != (l1.length : Int)) = false := by rw [hl]; exact bne_self_eq_false _
 clear h hl
 go_enter Try.func20, Try.ntmps20
 go_wp2
 clear b0 b1
 go_loopg [17] (l0.length + 1) (fun kq v17 w' => ∃ i : Int, v17 = .int .i64 i ∧ Aside0 (0 ≤ i ∧ i ≤ l0.length ∧ (kq : Int) = l0.length + 1 - i) ∧ Aside0 (eqGo (st_Same_1.el F k) (l0.drop i.toNat) (l1.drop i.toNat) = some r) ∧ Aside0 (Below w.heap.size w w'))
 case atStart => exact ⟨0, rfl, ⟨by omega⟩, ⟨by simpa using HH.out⟩, ⟨HB.out⟩⟩
 case round =>
  clear HH HB
  obtain ⟨i, rfl, hi, HH, HB⟩ := hrel
  by_cases c2 : i < (l0.length : Int)
  case neg =>
   have c2b0 : decide (i < (l0.length : Int)) = false := decide_eq_false c2
   have hd : l0.drop i.toNat = [] := List.drop_eq_nil_of_le (by have := hi.out; omega)
   have hr := HH.out
   rw [hd, eqGo] at hr
   obtain rfl := Option.some.inj hr
   go_wp2
   go_ret
   exact ⟨rfl, HB.out⟩
  have c2b0 : decide (i < (l0.length : Int)) = true := decide_eq_true c2
  have h0 := hi.out.1
  have c3 : i < (l1.length : Int) := by have := HL.out; omega
  obtain ⟨aad, aA4, ac4, aA5, ac5, aA6, ac6, aA7, ac7, aA8, ac8, aA9, ac9, aA10, ac10, ae, ahr, ahl0, ahc0, ahl1, ahc1, ahl2, ahc2, ahl3, ahc3, ahl4, ahc4, ahl5, ahc5, ahl6, ahc6⟩ := el_T46 HR0.out i h0 c2
  cases ae
  obtain ⟨bad, bA4, bc4, bA5, bc5, bA6, bc6, bA7, bc7, bA8, bc8, bA9, bc9, bA10, bc10, be, bhr, bhl0, bhc0, bhl1, bhc1, bhl2, bhc2, bhl3, bhc3, bhl4, bhc4, bhl5, bhc5, bhl6, bhc6⟩ := el_T46 HR1.out i h0 c3
  cases be
  have p0 := eq_true h0
  have p1 := eq_true c2
  have q1 := eq_true c3
  have C2 := Aside0.mk c2
  have C3 := Aside0.mk c3
  clear h0 c2 c3
  go_upto_region 6 with (first | ((with_reducible refine gate_dst (N := 21) rfl ?_); refine load_in (N := 21) (t := 46) rfl rfl rfl rfl (spread_below HB.out ahr) Try.underlying46 rfl rfl (by kernel_rfl) ?_) | ((with_reducible refine gate_dst (N := 8) rfl ?_); refine box_event ?hg (N := 8) ?hd (cs := #[.int .i64 0, .int .i64 0, .string (⟨#[]⟩ : ByteArray), .int .i64 0, .slice none 0 0, .slice none 0 0, .slice none 0 0, .slice none 0 0, .slice none 0 0, .slice none 0 0, .slice none 0 0, .int .u8 0, .int .i64 0, .int .i64 0]) (t := 46) ?hr ?_; (case hd => rfl); (case hg => rfl); (case hr => first | (go_simp; done) | (go_simp; rfl)); intro g8 hg w8 hbox hb; have n0_ := Aside0.mk (below_step (by repeat (first | (with_reducible first | exact HB.out | apply below_alloc | apply pw_below_drewN | apply below_drew1) | exact HB.out)) hb); have G8 := Aside0.mk ((by rw [hg]; exact below_size (by repeat (first | (with_reducible first | exact HB.out | apply below_alloc | apply pw_below_drewN | apply below_drew1) | exact HB.out))) : w.heap.size ≤ g8); have B8 := Aside0.mk hbox; clear HB; have HB := n0_; clear n0_ hb hbox hg) | ((with_reducible refine gate_store (t := 46) (p := 8) rfl ?_); refine store_in (w0 := w) (u := .agg #[.int .i64 (rd_T46 l0 i).f0, .int .i64 (rd_T46 l0 i).f1, .string (rd_T46 l0 i).f2, .int .i64 (rd_T46 l0 i).f3, .slice aA4 (rd_T46 l0 i).f4.length ac4, .slice aA5 (rd_T46 l0 i).f5.length ac5, .slice aA6 (rd_T46 l0 i).f6.length ac6, .slice aA7 (rd_T46 l0 i).f7.length ac7, .slice aA8 (rd_T46 l0 i).f8.length ac8, .slice aA9 (rd_T46 l0 i).f9.length ac9, .slice aA10 (rd_T46 l0 i).f10.length ac10, .int .u8 (rd_T46 l0 i).f11, .int .i64 (rd_T46 l0 i).f12, .int .i64 (rd_T46 l0 i).f13]) rfl rfl rfl rfl rfl rfl rfl (by kernel_rfl) rfl B8.out rfl HB.out G8.out ?_; intro W8 b1 hb1 hk1; clear B8 HB hk1; have B8 := Aside0.mk b1; have HB := Aside0.mk hb1; clear b1 hb1))
  go_upto_region 7 with (first | ((with_reducible refine gate_dst (N := 25) rfl ?_); refine load_in (N := 25) (t := 46) rfl rfl rfl rfl (spread_below HB.out bhr) Try.underlying46 rfl rfl (by kernel_rfl) ?_) | ((with_reducible refine gate_dst (N := 9) rfl ?_); refine box_event ?hg (N := 9) ?hd (cs := #[.int .i64 0, .int .i64 0, .string (⟨#[]⟩ : ByteArray), .int .i64 0, .slice none 0 0, .slice none 0 0, .slice none 0 0, .slice none 0 0, .slice none 0 0, .slice none 0 0, .slice none 0 0, .int .u8 0, .int .i64 0, .int .i64 0]) (t := 46) ?hr ?_; (case hd => rfl); (case hg => rfl); (case hr => first | (go_simp; done) | (go_simp; rfl)); intro g9 hg w9 hbox hb; have n0_ := Aside0.mk (below_step (by repeat (first | (with_reducible first | exact HB.out | apply below_alloc | apply pw_below_drewN | apply below_drew1) | exact HB.out)) hb); have n1_ := Aside0.mk (blk_below B8.out hb); have NE8_9 := Aside0.mk ((by rw [hg]; exact Nat.ne_of_lt (blk_lt B8.out)) : g8 ≠ g9); clear B8; have B8 := n1_; clear n1_; have G9 := Aside0.mk ((by rw [hg]; exact below_size (by repeat (first | (with_reducible first | exact HB.out | apply below_alloc | apply pw_below_drewN | apply below_drew1) | exact HB.out))) : w.heap.size ≤ g9); have B9 := Aside0.mk hbox; clear HB; have HB := n0_; clear n0_ hb hbox hg) | ((with_reducible refine gate_store (t := 46) (p := 9) rfl ?_); refine store_in (w0 := w) (u := .agg #[.int .i64 (rd_T46 l1 i).f0, .int .i64 (rd_T46 l1 i).f1, .string (rd_T46 l1 i).f2, .int .i64 (rd_T46 l1 i).f3, .slice bA4 (rd_T46 l1 i).f4.length bc4, .slice bA5 (rd_T46 l1 i).f5.length bc5, .slice bA6 (rd_T46 l1 i).f6.length bc6, .slice bA7 (rd_T46 l1 i).f7.length bc7, .slice bA8 (rd_T46 l1 i).f8.length bc8, .slice bA9 (rd_T46 l1 i).f9.length bc9, .slice bA10 (rd_T46 l1 i).f10.length bc10, .int .u8 (rd_T46 l1 i).f11, .int .i64 (rd_T46 l1 i).f12, .int .i64 (rd_T46 l1 i).f13]) rfl rfl rfl rfl rfl rfl rfl (by kernel_rfl) rfl B9.out rfl HB.out G9.out ?_; intro W9 b1 hb1 hk1; have n1_ := Aside0.mk (hk1 _ _ _ B8.out NE8_9.out); clear B8; have B8 := n1_; clear n1_; clear B9 HB hk1; have B9 := Aside0.mk b1; have HB := Aside0.mk hb1; clear b1 hb1))
  clear ahr bhr p0 p1 q1
  have hr := HH.out
  rw [drop_rd z46 hi.out.1 C2.out, drop_rd z46 hi.out.1 C3.out, eqGo] at hr
  obtain ⟨u, hu_, hr⟩ := Option.bind_eq_some_iff.mp hr
  have AU := Aside0.mk (show st_Same_1.el F k (rd_T46 l0 i) (rd_T46 l1 i) = some u from hu_)
  clear HH hu_
  have HH := Aside0.mk hr
  clear hr
  have hr := HH.out
  cases u with
  | false =>
   rw [if_neg Bool.false_ne_true] at hr
   obtain rfl := Option.some.inj hr
   clear hr HH
   go_wp2_with (first | ((with_reducible refine gate_dst (N := 27) rfl ?_); refine load_in (N := 27) (t := 46) (cs := [.int .i64 (rd_T46 l0 i).f0, .int .i64 (rd_T46 l0 i).f1, .string (rd_T46 l0 i).f2, .int .i64 (rd_T46 l0 i).f3, .slice aA4 (rd_T46 l0 i).f4.length ac4, .slice aA5 (rd_T46 l0 i).f5.length ac5, .slice aA6 (rd_T46 l0 i).f6.length ac6, .slice aA7 (rd_T46 l0 i).f7.length ac7, .slice aA8 (rd_T46 l0 i).f8.length ac8, .slice aA9 (rd_T46 l0 i).f9.length ac9, .slice aA10 (rd_T46 l0 i).f10.length ac10, .int .u8 (rd_T46 l0 i).f11, .int .i64 (rd_T46 l0 i).f12, .int .i64 (rd_T46 l0 i).f13]) rfl rfl rfl rfl (spread_blk B8.out) Try.underlying46 rfl rfl (by kernel_rfl) ?_) | ((with_reducible refine gate_dst (N := 28) rfl ?_); refine load_in (N := 28) (t := 46) (cs := [.int .i64 (rd_T46 l1 i).f0, .int .i64 (rd_T46 l1 i).f1, .string (rd_T46 l1 i).f2, .int .i64 (rd_T46 l1 i).f3, .slice bA4 (rd_T46 l1 i).f4.length bc4, .slice bA5 (rd_T46 l1 i).f5.length bc5, .slice bA6 (rd_T46 l1 i).f6.length bc6, .slice bA7 (rd_T46 l1 i).f7.length bc7, .slice bA8 (rd_T46 l1 i).f8.length bc8, .slice bA9 (rd_T46 l1 i).f9.length bc9, .slice bA10 (rd_T46 l1 i).f10.length bc10, .int .u8 (rd_T46 l1 i).f11, .int .i64 (rd_T46 l1 i).f12, .int .i64 (rd_T46 l1 i).f13]) rfl rfl rfl rfl (spread_blk B9.out) Try.underlying46 rfl rfl (by kernel_rfl) ?_) | ((with_reducible refine gate_valued (N := 26) rfl ?_); refine goesV_ (x := .tmp 26) (by first | rfl | (simp [Act.eval]; done)) (some 29) rfl rfl Try.func21 (by kernel_rfl) rfl #[.agg #[.int .i64 (rd_T46 l0 i).f0, .int .i64 (rd_T46 l0 i).f1, .string (rd_T46 l0 i).f2, .int .i64 (rd_T46 l0 i).f3, .slice aA4 (rd_T46 l0 i).f4.length ac4, .slice aA5 (rd_T46 l0 i).f5.length ac5, .slice aA6 (rd_T46 l0 i).f6.length ac6, .slice aA7 (rd_T46 l0 i).f7.length ac7, .slice aA8 (rd_T46 l0 i).f8.length ac8, .slice aA9 (rd_T46 l0 i).f9.length ac9, .slice aA10 (rd_T46 l0 i).f10.length ac10, .int .u8 (rd_T46 l0 i).f11, .int .i64 (rd_T46 l0 i).f12, .int .i64 (rd_T46 l0 i).f13], .agg #[.int .i64 (rd_T46 l1 i).f0, .int .i64 (rd_T46 l1 i).f1, .string (rd_T46 l1 i).f2, .int .i64 (rd_T46 l1 i).f3, .slice bA4 (rd_T46 l1 i).f4.length bc4, .slice bA5 (rd_T46 l1 i).f5.length bc5, .slice bA6 (rd_T46 l1 i).f6.length bc6, .slice bA7 (rd_T46 l1 i).f7.length bc7, .slice bA8 (rd_T46 l1 i).f8.length bc8, .slice bA9 (rd_T46 l1 i).f9.length bc9, .slice bA10 (rd_T46 l1 i).f10.length bc10, .int .u8 (rd_T46 l1 i).f11, .int .i64 (rd_T46 l1 i).f12, .int .i64 (rd_T46 l1 i).f13]] rfl (by (try simp only [List.map_toArray, List.map_cons, List.map_nil]); first | done | rfl) ?_; refine (st_Same_1.callsOf F HF.out k (rd_T46 l0 i) (rd_T46 l1 i) _ _ _ _ _ _ _ _ _ _ _ _ _ _ _ _ _ _ _ _ _ _ _ _ _ _ _ _ _ _ (Kd.C_below ahc0 HB.out) ahl0 (Kd.C_below ahc1 HB.out) ahl1 (Kd.C_below ahc2 HB.out) ahl2 (Kd.C_below ahc3 HB.out) ahl3 (Kd.C_below ahc4 HB.out) ahl4 (Kd.C_below ahc5 HB.out) ahl5 (Kd.C_below ahc6 HB.out) ahl6 (Kd.C_below bhc0 HB.out) bhl0 (Kd.C_below bhc1 HB.out) bhl1 (Kd.C_below bhc2 HB.out) bhl2 (Kd.C_below bhc3 HB.out) bhl3 (Kd.C_below bhc4 HB.out) bhl4 (Kd.C_below bhc5 HB.out) bhl5 (Kd.C_below bhc6 HB.out) bhl6 AU.out).mono ?_; rintro e w' ⟨rfl, hb⟩; refine ⟨_, rfl, ?_⟩; have n0_ := Aside0.mk (below_step HB.out hb); clear HB hb; have HB := n0_; clear n0_))
   go_ret
   exact ⟨rfl, HB.out⟩
  | true =>
   rw [if_pos rfl] at hr
   clear HH
   have HH := Aside0.mk hr
   clear hr
   go_wp2_with (first | ((with_reducible refine gate_dst (N := 27) rfl ?_); refine load_in (N := 27) (t := 46) (cs := [.int .i64 (rd_T46 l0 i).f0, .int .i64 (rd_T46 l0 i).f1, .string (rd_T46 l0 i).f2, .int .i64 (rd_T46 l0 i).f3, .slice aA4 (rd_T46 l0 i).f4.length ac4, .slice aA5 (rd_T46 l0 i).f5.length ac5, .slice aA6 (rd_T46 l0 i).f6.length ac6, .slice aA7 (rd_T46 l0 i).f7.length ac7, .slice aA8 (rd_T46 l0 i).f8.length ac8, .slice aA9 (rd_T46 l0 i).f9.length ac9, .slice aA10 (rd_T46 l0 i).f10.length ac10, .int .u8 (rd_T46 l0 i).f11, .int .i64 (rd_T46 l0 i).f12, .int .i64 (rd_T46 l0 i).f13]) rfl rfl rfl rfl (spread_blk B8.out) Try.underlying46 rfl rfl (by kernel_rfl) ?_) | ((with_reducible refine gate_dst (N := 28) rfl ?_); refine load_in (N := 28) (t := 46) (cs := [.int .i64 (rd_T46 l1 i).f0, .int .i64 (rd_T46 l1 i).f1, .string (rd_T46 l1 i).f2, .int .i64 (rd_T46 l1 i).f3, .slice bA4 (rd_T46 l1 i).f4.length bc4, .slice bA5 (rd_T46 l1 i).f5.length bc5, .slice bA6 (rd_T46 l1 i).f6.length bc6, .slice bA7 (rd_T46 l1 i).f7.length bc7, .slice bA8 (rd_T46 l1 i).f8.length bc8, .slice bA9 (rd_T46 l1 i).f9.length bc9, .slice bA10 (rd_T46 l1 i).f10.length bc10, .int .u8 (rd_T46 l1 i).f11, .int .i64 (rd_T46 l1 i).f12, .int .i64 (rd_T46 l1 i).f13]) rfl rfl rfl rfl (spread_blk B9.out) Try.underlying46 rfl rfl (by kernel_rfl) ?_) | ((with_reducible refine gate_valued (N := 26) rfl ?_); refine goesV_ (x := .tmp 26) (by first | rfl | (simp [Act.eval]; done)) (some 29) rfl rfl Try.func21 (by kernel_rfl) rfl #[.agg #[.int .i64 (rd_T46 l0 i).f0, .int .i64 (rd_T46 l0 i).f1, .string (rd_T46 l0 i).f2, .int .i64 (rd_T46 l0 i).f3, .slice aA4 (rd_T46 l0 i).f4.length ac4, .slice aA5 (rd_T46 l0 i).f5.length ac5, .slice aA6 (rd_T46 l0 i).f6.length ac6, .slice aA7 (rd_T46 l0 i).f7.length ac7, .slice aA8 (rd_T46 l0 i).f8.length ac8, .slice aA9 (rd_T46 l0 i).f9.length ac9, .slice aA10 (rd_T46 l0 i).f10.length ac10, .int .u8 (rd_T46 l0 i).f11, .int .i64 (rd_T46 l0 i).f12, .int .i64 (rd_T46 l0 i).f13], .agg #[.int .i64 (rd_T46 l1 i).f0, .int .i64 (rd_T46 l1 i).f1, .string (rd_T46 l1 i).f2, .int .i64 (rd_T46 l1 i).f3, .slice bA4 (rd_T46 l1 i).f4.length bc4, .slice bA5 (rd_T46 l1 i).f5.length bc5, .slice bA6 (rd_T46 l1 i).f6.length bc6, .slice bA7 (rd_T46 l1 i).f7.length bc7, .slice bA8 (rd_T46 l1 i).f8.length bc8, .slice bA9 (rd_T46 l1 i).f9.length bc9, .slice bA10 (rd_T46 l1 i).f10.length bc10, .int .u8 (rd_T46 l1 i).f11, .int .i64 (rd_T46 l1 i).f12, .int .i64 (rd_T46 l1 i).f13]] rfl (by (try simp only [List.map_toArray, List.map_cons, List.map_nil]); first | done | rfl) ?_; refine (st_Same_1.callsOf F HF.out k (rd_T46 l0 i) (rd_T46 l1 i) _ _ _ _ _ _ _ _ _ _ _ _ _ _ _ _ _ _ _ _ _ _ _ _ _ _ _ _ _ _ (Kd.C_below ahc0 HB.out) ahl0 (Kd.C_below ahc1 HB.out) ahl1 (Kd.C_below ahc2 HB.out) ahl2 (Kd.C_below ahc3 HB.out) ahl3 (Kd.C_below ahc4 HB.out) ahl4 (Kd.C_below ahc5 HB.out) ahl5 (Kd.C_below ahc6 HB.out) ahl6 (Kd.C_below bhc0 HB.out) bhl0 (Kd.C_below bhc1 HB.out) bhl1 (Kd.C_below bhc2 HB.out) bhl2 (Kd.C_below bhc3 HB.out) bhl3 (Kd.C_below bhc4 HB.out) bhl4 (Kd.C_below bhc5 HB.out) bhl5 (Kd.C_below bhc6 HB.out) bhl6 AU.out).mono ?_; rintro e w' ⟨rfl, hb⟩; refine ⟨_, rfl, ?_⟩; have n0_ := Aside0.mk (below_step HB.out hb); clear HB hb; have HB := n0_; clear n0_))
   have hw : wrap64 (i + 1) = i + 1 := by
    have := HM.out
    have := hi.out
    have := C2.out
    unfold wrap64
    omega
   have h1 := hi.out
   have h2 := C2.out
   go_roundg (gk - 1)
   case measure => omega
   case rel => exact ⟨i + 1, by rw [hw], ⟨by omega⟩, ⟨HH.out⟩, ⟨HB.out⟩⟩
set_option maxHeartbeats 2000000 in
theorem st_Same.callsOf (F : List S46 → List S46 → Option Bool) (hF : ∀ (A0 : Option Addr) (c0 : Nat) (l0 : List (S46)) (A1 : Option Addr) (c1 : Nat) (l1 : List (S46)) (r : Bool) (w : World) (hr0 : Kd.C k46 w A0 l0.length l0) (hc0 : l0.length ≤ c0) (hr1 : Kd.C k46 w A1 l1.length l1) (hc1 : l1.length ≤ c1) (h : F l0 l1 = some r), Calls Try.prog 9 #[.slice A0 l0.length c0, .slice A1 l1.length c1] w fun e w' => e = .returned (.bool r) ∧ Below w.heap.size w w') (k : Nat) (A0 : Option Addr) (c0 : Nat) (l0 : List (S46)) (A1 : Option Addr) (c1 : Nat) (l1 : List (S46)) (r : Bool) (w : World) (hr0 : Kd.C k46 w A0 l0.length l0) (hc0 : l0.length ≤ c0) (hr1 : Kd.C k46 w A1 l1.length l1) (hc1 : l1.length ≤ c1) (h : (if l0.length = l1.length then eqGo (st_Same_1.el F k) l0 l1 else some false) = some r) : Calls Try.prog 9 #[.slice A0 l0.length c0, .slice A1 l1.length c1] w fun e w' => e = .returned (.bool r) ∧ Below w.heap.size w w' := by
 have HR0 := Aside0.mk hr0
 have HR1 := Aside0.mk hr1
 have HC0 := Aside0.mk hc0
 have HC1 := Aside0.mk hc1
 have HF := Aside0.mk hF
 have HE := Aside0.mk h
 clear hr0 hr1 hc0 hc1 hF h
 go_enter Try.func9, Try.ntmps9
 go_wp2_with (first | (go_at_call 20; refine (api_Stmt.callsOf F HF.out k _ _ _ _ _ _ r _ HR0.out HC0.out HR1.out HC1.out HE.out).mono ?_; rintro e w' ⟨rfl, hb⟩))
 go_ret
 exact ⟨rfl, hb⟩
def st_Same.f : Nat → List S46 → List S46 → Option Bool
 | 0, _, _ => none
 | k + 1, l0, l1 => if l0.length = l1.length then eqGo (st_Same_1.el (st_Same.f k) k) l0 l1 else some false
theorem st_Same.mono : ∀ a b k, LeO (st_Same.f k a b) (st_Same.f (k + 1) a b) := by
 intro a b k
 induction k generalizing a b with
 | zero => exact LeO.none _
 | succ k ih =>
  refine LeO.ite (eqGo_le (fun x y => ?_) a b) (LeO.refl _)
  unfold st_Same_1.el st_Same_1.two
  repeat' first
   | exact ih _ _
   | exact slices_Equal_string_string.mono _ _ _
   | exact api_Range.mono _ _ _
   | exact st_sameExprs.mono _ _ _
   | exact LeO.refl _
   | refine LeO.ite ?_ ?_
   | refine LeO.bind ?_ (fun _ => ?_)
theorem st_Same.calls (k : Nat) : ∀ (A0 : Option Addr) (c0 : Nat) (l0 : List (S46)) (A1 : Option Addr) (c1 : Nat) (l1 : List (S46)) (r : Bool) (w : World) (hr0 : Kd.C k46 w A0 l0.length l0) (hc0 : l0.length ≤ c0) (hr1 : Kd.C k46 w A1 l1.length l1) (hc1 : l1.length ≤ c1) (h : st_Same.f k l0 l1 = some r), Calls Try.prog 9 #[.slice A0 l0.length c0, .slice A1 l1.length c1] w fun e w' => e = .returned (.bool r) ∧ Below w.heap.size w w' := by
 induction k with
 | zero => intro A0 c0 l0 A1 c1 l1 r w hr0 hc0 hr1 hc1 h; cases h
 | succ k ih => exact st_Same.callsOf _ ih k
end Go.Proofs.Ytmdkbhbconnmmaa.XSfc
