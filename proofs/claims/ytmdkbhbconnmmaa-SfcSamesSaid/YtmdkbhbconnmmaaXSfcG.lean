-- WRITTEN BY wip/tools/sfc/all.py
import Derived.Test.YtmdkbhbconnmmaaXSfcB
import Derived.Test.YtmdkbhbconnmmaaXSfcD
import Derived.Test.YtmdkbhbconnmmaaXSfcN
import Derived.Test.YtmdkbhbconnmmaaXSfcM
namespace Go.Proofs.Ytmdkbhbconnmmaa.XSfc
open Go.RowKit Go.Proofs.YtmdkbhbconnmmaaW.PrintWords Go.Proofs.YtmdkbhbconnmmaaW.PrintLast Go.Proofs.YtmdkbhbconnmmaaW.PrintMore
attribute [local go_sem] max2_int min2_int max_two min_two max_three min_three max_four min_four
set_option linter.unusedVariables false
set_option linter.unusedSimpArgs false
def relayref08_Same.T6 : Bool × List (List Nat × List Nat) := (true, [([], []), ([0], [0]), ([], []), ([1, 2], [1, 2]), ([3], [3]), ([], []), ([5], [5]), ([], []), ([6, 7], [6, 7]), ([8], [8]), ([4, 9], [4, 9]), ([10], [10])])
def relayref08_Same.B6 : List Nat := [0, 1, 0, 7, 15, 0, 32, 0, 224, 480, 1023, 2047]
theorem relayref08_Same.tab6 : rtab .any (opsOf Try.f14 6) = relayref08_Same.T6 := by kernel_rfl
theorem relayref08_Same.bits6 : waitsOk relayref08_Same.T6.2 relayref08_Same.B6 = true := by kernel_rfl
def relayref08_Same.T13 : Bool × List (List Nat × List Nat) := (true, [([], []), ([0], [0]), ([], []), ([2], [2]), ([1, 3], [1, 3]), ([4], [4]), ([5], [5]), ([6, 5], [5, 6]), ([5], [5]), ([8, 5], [5, 8]), ([7, 9, 5, 5], [5, 7, 9]), ([10, 5], [5, 10]), ([5, 11], [5, 11]), ([12, 10], [12]), ([13], [13]), ([14, 13], [13, 14]), ([13], [13]), ([16, 13], [13, 16]), ([15, 17, 13, 13], [13, 15, 17]), ([18, 13], [13, 18]), ([13, 19], [13, 19]), ([20, 18], [20]), ([21], [21]), ([22, 21], [21, 22]), ([23, 21, 21], [21, 23]), ([21], [21]), ([25, 21], [21, 25]), ([26, 24, 21], [21, 26]), ([24, 27, 27, 21], [21, 24, 27]), ([28, 21], [21, 28]), ([21, 29], [21, 29])])
def relayref08_Same.B13 : List Nat := [0, 1, 0, 4, 15, 31, 63, 127, 63, 319, 1023, 2047, 4095, 8191, 16383, 32767, 16383, 81919, 262143, 524287, 1048575, 2097151, 4194303, 8388607, 16777215, 4194303, 37748735, 134217727, 268435455, 536870911, 1073741823]
theorem relayref08_Same.tab13 : rtab .any (opsOf Try.f14 13) = relayref08_Same.T13 := by kernel_rfl
theorem relayref08_Same.bits13 : waitsOk relayref08_Same.T13.2 relayref08_Same.B13 = true := by kernel_rfl
def relayref08_Same.T18 : Bool × List (List Nat × List Nat) := (true, [([], []), ([0], [0]), ([], []), ([1, 2], [1, 2]), ([3], [3]), ([4], [4]), ([], []), ([6], [6]), ([], []), ([7, 8], [7, 8]), ([9], [9]), ([10], [10]), ([5, 11], [5, 11]), ([12], [12]), ([13], [13]), ([14, 13], [13, 14]), ([13], [13]), ([15, 16, 13], [13, 15, 16]), ([17, 13], [13, 17]), ([18, 13], [13, 18]), ([13], [13]), ([20, 13], [13, 20]), ([13], [13]), ([21, 22, 13], [13, 21, 22]), ([23, 13], [13, 23]), ([24, 13], [13, 24]), ([19, 25, 13, 13], [13, 19, 25]), ([26, 13], [13, 26]), ([13, 27], [13, 27])])
def relayref08_Same.B18 : List Nat := [0, 1, 0, 7, 15, 31, 0, 64, 0, 448, 960, 1984, 4095, 8191, 16383, 32767, 16383, 131071, 262143, 524287, 16383, 1064959, 16383, 7356415, 15745023, 32522239, 67108863, 134217727, 268435455]
theorem relayref08_Same.tab18 : rtab .any (opsOf Try.f14 18) = relayref08_Same.T18 := by kernel_rfl
theorem relayref08_Same.bits18 : waitsOk relayref08_Same.T18.2 relayref08_Same.B18 = true := by kernel_rfl
def relayref08_Same.el58 (k : Nat) (x y : S58) : Option Bool := relayref08_sameStep.f k x.f0 x.f1 x.f2 x.f3 y.f0 y.f1 y.f2 y.f3
def relayref08_Same.el67 (k : Nat) (x y : S67) : Option Bool := if x.f1.toList = y.f1.toList then ((relayref08_sameNames.f k x.f2 y.f2).bind fun u1 => if u1 = true then ((relayref08_sameNames.f k x.f3 y.f3).bind fun u2 => if u2 = true then ((relayref05_Same.f k [stmtOf 12 x.f4] [stmtOf 12 y.f4]).bind fun u3 => if u3 = true then (some true) else some false) else some false) else some false) else some false
def relayref08_Same.el70 (k : Nat) (x y : S70) : Option Bool := if x.f1.toList = y.f1.toList then ((relayref05_Same.f k x.f2 y.f2).bind fun u1 => if u1 = true then (some true) else some false) else some false
def relayref08_Same.f (k : Nat) (l0 : List S58) (l1 : List S67) (l2 : List S70) (m0 : List S58) (m1 : List S67) (m2 : List S70) : Option Bool := if l0.length = m0.length then (if l1.length = m1.length then (if l2.length = m2.length then ((eqGo (relayref08_Same.el58 k) l0 m0).bind fun u0 => if u0 = true then ((eqGo (relayref08_Same.el67 k) l1 m1).bind fun u1 => if u1 = true then ((eqGo (relayref08_Same.el70 k) l2 m2).bind fun u2 => if u2 = true then some true else some false) else some false) else some false) else some false) else some false) else some false
set_option maxHeartbeats 16000000 in
set_option maxRecDepth 100000 in
theorem relayref08_Same.calls (k : Nat) (A0 : Option Addr) (c0 : Nat) (l0 : List S58) (A1 : Option Addr) (c1 : Nat) (l1 : List S67) (A2 : Option Addr) (c2 : Nat) (l2 : List S70) (D0 : Option Addr) (e0 : Nat) (m0 : List S58) (D1 : Option Addr) (e1 : Nat) (m1 : List S67) (D2 : Option Addr) (e2 : Nat) (m2 : List S70) (r : Bool) (w : World) (hr0 : Kd.C k58 w A0 l0.length l0) (hc0 : l0.length ≤ c0) (hs0 : Kd.C k58 w D0 m0.length m0) (hd0 : m0.length ≤ e0) (hr1 : Kd.C k67 w A1 l1.length l1) (hc1 : l1.length ≤ c1) (hs1 : Kd.C k67 w D1 m1.length m1) (hd1 : m1.length ≤ e1) (hr2 : Kd.C k70 w A2 l2.length l2) (hc2 : l2.length ≤ c2) (hs2 : Kd.C k70 w D2 m2.length m2) (hd2 : m2.length ≤ e2) (h : relayref08_Same.f k l0 l1 l2 m0 m1 m2 = some r) :
  Calls Try.prog 14 #[.agg #[.slice A0 l0.length c0, .slice A1 l1.length c1, .slice A2 l2.length c2], .agg #[.slice D0 m0.length e0, .slice D1 m1.length e1, .slice D2 m2.length e2]] w fun e w' => e = .returned (.bool r) ∧ Below w.heap.size w w' := by
 have hu34 := Try.underlying34
 have hu58 := Try.underlying58
 have hu67 := Try.underlying67
 have hu70 := Try.underlying70
 have hu65 := Try.underlying65
 have hu63 := Try.underlying63
 have HB := Aside0.mk (Below.refl w.heap.size w)
 unfold relayref08_Same.f at h
 have H := Aside0.mk h
 clear h
 have HM0 := Aside0.mk (Kd.C_max hr0)
 have HM1 := Aside0.mk (Kd.C_max hr1)
 have HM2 := Aside0.mk (Kd.C_max hr2)
 go_enter Try.func14, Try.ntmps14
 go_upto_region 1 with (first | ((with_reducible refine gate_dst (N := 2) rfl ?_); refine box_event ?hg (N := 2) ?hd (cs := #[.slice A0 l0.length c0, .slice A1 l1.length c1, .slice A2 l2.length c2]) (t := 34) ?hr ?_; (case hd => rfl); (case hg => rfl); (case hr => first | (go_simp; done) | (go_simp; rfl)); intro g1 hg w1 hbox hb; have n0_ := Aside0.mk (below_step (by repeat (first | (with_reducible first | exact HB.out | apply below_alloc | apply pw_below_drewN | apply below_drew1) | exact HB.out)) hb); have G1 := Aside0.mk ((by rw [hg]; exact below_size (by repeat (first | (with_reducible first | exact HB.out | apply below_alloc | apply pw_below_drewN | apply below_drew1) | exact HB.out))) : w.heap.size ≤ g1); have B1 := Aside0.mk hbox; clear HB; have HB := n0_; clear n0_ hb hbox hg) | ((with_reducible refine gate_dst (N := 3) rfl ?_); refine box_event ?hg (N := 3) ?hd (cs := #[.slice D0 m0.length e0, .slice D1 m1.length e1, .slice D2 m2.length e2]) (t := 34) ?hr ?_; (case hd => rfl); (case hg => rfl); (case hr => first | (go_simp; done) | (go_simp; rfl)); intro g2 hg w2 hbox hb; have n0_ := Aside0.mk (below_step (by repeat (first | (with_reducible first | exact HB.out | apply below_alloc | apply pw_below_drewN | apply below_drew1) | exact HB.out)) hb); have n1_ := Aside0.mk (blk_below B1.out hb); have NE1_2 := Aside0.mk ((by rw [hg]; exact Nat.ne_of_lt (blk_lt B1.out)) : g1 ≠ g2); clear B1; have B1 := n1_; clear n1_; have G2 := Aside0.mk ((by rw [hg]; exact below_size (by repeat (first | (with_reducible first | exact HB.out | apply below_alloc | apply pw_below_drewN | apply below_drew1) | exact HB.out))) : w.heap.size ≤ g2); have B2 := Aside0.mk hbox; clear HB; have HB := n0_; clear n0_ hb hbox hg))
 have HR0 := Aside0.mk (Kd.C_below hr0 HB.out)
 have HS0 := Aside0.mk (Kd.C_below hs0 HB.out)
 have HR1 := Aside0.mk (Kd.C_below hr1 HB.out)
 have HS1 := Aside0.mk (Kd.C_below hs1 HB.out)
 have HR2 := Aside0.mk (Kd.C_below hr2 HB.out)
 have HS2 := Aside0.mk (Kd.C_below hs2 HB.out)
 clear hr0 hr1 hr2 hs0 hs1 hs2 hc0 hc1 hc2 hd0 hd1 hd2
 obtain ⟨q0, q1, q2, _, _, _⟩ := cells3 B1.out
 obtain ⟨q3, q4, q5, _, _, _⟩ := cells3 B2.out
 clear B1 B2 G1 G2 NE1_2
 have Z0 := Aside0.mk q0
 have Z1 := Aside0.mk q1
 have Z2 := Aside0.mk q2
 have Z3 := Aside0.mk q3
 have Z4 := Aside0.mk q4
 have Z5 := Aside0.mk q5
 by_cases b0 : l0.length = m0.length
 case neg =>
  have hn : ¬ ((l0.length : Int) = (m0.length : Int)) := fun e => b0 (by omega)
  have d0_0 : ((l0.length : Int) == (m0.length : Int)) = false := beq_eq_false_iff_ne.mpr hn
  have d0_1 : ((l0.length : Int) != (m0.length : Int)) = true := bne_iff_ne.mpr hn
  clear hn
  have hr := H.out
  rw [if_neg b0] at hr
  obtain rfl := Option.some.inj hr
  clear hr H
  go_wp2
  go_ret
  exact ⟨rfl, HB.out⟩
 have hr := H.out
 rw [if_pos b0] at hr
 clear H
 have H := Aside0.mk hr
 clear hr
 have HL0 := Aside0.mk b0
 have d0_0 : ((l0.length : Int) == (m0.length : Int)) = true := by rw [b0]; exact beq_self_eq_true _
 have d0_1 : ((l0.length : Int) != (m0.length : Int)) = false := by rw [b0]; exact bne_self_eq_false _
 clear b0
 by_cases b1 : l1.length = m1.length
 case neg =>
  have hn : ¬ ((l1.length : Int) = (m1.length : Int)) := fun e => b1 (by omega)
  have d1_0 : ((l1.length : Int) == (m1.length : Int)) = false := beq_eq_false_iff_ne.mpr hn
  have d1_1 : ((l1.length : Int) != (m1.length : Int)) = true := bne_iff_ne.mpr hn
  clear hn
  have hr := H.out
  rw [if_neg b1] at hr
  obtain rfl := Option.some.inj hr
  clear hr H
  go_wp2
  go_ret
  exact ⟨rfl, HB.out⟩
 have hr := H.out
 rw [if_pos b1] at hr
 clear H
 have H := Aside0.mk hr
 clear hr
 have HL1 := Aside0.mk b1
 have d1_0 : ((l1.length : Int) == (m1.length : Int)) = true := by rw [b1]; exact beq_self_eq_true _
 have d1_1 : ((l1.length : Int) != (m1.length : Int)) = false := by rw [b1]; exact bne_self_eq_false _
 clear b1
 by_cases b2 : l2.length = m2.length
 case neg =>
  have hn : ¬ ((l2.length : Int) = (m2.length : Int)) := fun e => b2 (by omega)
  have d2_0 : ((l2.length : Int) == (m2.length : Int)) = false := beq_eq_false_iff_ne.mpr hn
  have d2_1 : ((l2.length : Int) != (m2.length : Int)) = true := bne_iff_ne.mpr hn
  clear hn
  have hr := H.out
  rw [if_neg b2] at hr
  obtain rfl := Option.some.inj hr
  clear hr H
  go_wp2
  go_ret
  exact ⟨rfl, HB.out⟩
 have hr := H.out
 rw [if_pos b2] at hr
 clear H
 have H := Aside0.mk hr
 clear hr
 have HL2 := Aside0.mk b2
 have d2_0 : ((l2.length : Int) == (m2.length : Int)) = true := by rw [b2]; exact beq_self_eq_true _
 have d2_1 : ((l2.length : Int) != (m2.length : Int)) = false := by rw [b2]; exact bne_self_eq_false _
 clear b2
 go_upto_region 3 with (fail)
 clear d0_0 d0_1 d1_0 d1_1 d2_0 d2_1
 have HW := HB
 clear HB
 have HB := Aside0.mk (Below.refl w2.heap.size w2)
 obtain ⟨u0, hu_, hr⟩ := Option.bind_eq_some_iff.mp H.out
 clear H
 have H := Aside0.mk hr
 have HH := Aside0.mk hu_
 clear hr hu_
 go_wp2
 go_loopg [5] (l0.length + 1) (fun kq v_ w' => ∃ i : Int, v_ = .int .i64 i ∧ Aside0 (0 ≤ i ∧ i ≤ l0.length ∧ (kq : Int) = l0.length + 1 - i) ∧ Aside0 (eqGo (relayref08_Same.el58 k) (l0.drop i.toNat) (m0.drop i.toNat) = some u0) ∧ Aside0 (Below w2.heap.size w2 w'))
 case atStart => exact ⟨0, rfl, ⟨by omega⟩, ⟨by simpa using HH.out⟩, ⟨HB.out⟩⟩
 case round =>
  clear HH HB
  obtain ⟨i, rfl, hi, HH, HB⟩ := hrel
  have q0 := lift_ HB.out Z0.out
  by_cases c2 : i < (l0.length : Int)
  case neg =>
   have c2b0 : decide (i < (l0.length : Int)) = false := decide_eq_false c2
   have hd : l0.drop i.toNat = [] := List.drop_eq_nil_of_le (by have := hi.out; omega)
   have hr := HH.out
   rw [hd, eqGo] at hr
   obtain rfl := Option.some.inj hr
   clear hr hd HH hi c2
   have hr := H.out
   rw [if_pos rfl] at hr
   clear H
   have H := Aside0.mk hr
   clear hr
   go_upto_region 8 with (fail)
   clear c2b0 q0
   obtain ⟨u1, hu_, hr⟩ := Option.bind_eq_some_iff.mp H.out
   clear H
   have H := Aside0.mk hr
   have HH := Aside0.mk hu_
   clear hr hu_
   go_wp2
   go_loopg [6] (l1.length + 1) (fun kq v_ w' => ∃ i : Int, v_ = .int .i64 i ∧ Aside0 (0 ≤ i ∧ i ≤ l1.length ∧ (kq : Int) = l1.length + 1 - i) ∧ Aside0 (eqGo (relayref08_Same.el67 k) (l1.drop i.toNat) (m1.drop i.toNat) = some u1) ∧ Aside0 (Below w2.heap.size w2 w'))
   case atStart => exact ⟨0, rfl, ⟨by omega⟩, ⟨by simpa using HH.out⟩, ⟨HB.out⟩⟩
   case round =>
    clear HH HB
    obtain ⟨i, rfl, hi, HH, HB⟩ := hrel
    have q1 := lift_ HB.out Z1.out
    by_cases c2 : i < (l1.length : Int)
    case neg =>
     have c2b0 : decide (i < (l1.length : Int)) = false := decide_eq_false c2
     have hd : l1.drop i.toNat = [] := List.drop_eq_nil_of_le (by have := hi.out; omega)
     have hr := HH.out
     rw [hd, eqGo] at hr
     obtain rfl := Option.some.inj hr
     clear hr hd HH hi c2
     have hr := H.out
     rw [if_pos rfl] at hr
     clear H
     have H := Aside0.mk hr
     clear hr
     go_upto_region 15 with (fail)
     clear c2b0 q1
     obtain ⟨u2, hu_, hr⟩ := Option.bind_eq_some_iff.mp H.out
     clear H
     have H := Aside0.mk hr
     have HH := Aside0.mk hu_
     clear hr hu_
     go_wp2
     go_loopg [9] (l2.length + 1) (fun kq v_ w' => ∃ i : Int, v_ = .int .i64 i ∧ Aside0 (0 ≤ i ∧ i ≤ l2.length ∧ (kq : Int) = l2.length + 1 - i) ∧ Aside0 (eqGo (relayref08_Same.el70 k) (l2.drop i.toNat) (m2.drop i.toNat) = some u2) ∧ Aside0 (Below w2.heap.size w2 w'))
     case atStart => exact ⟨0, rfl, ⟨by omega⟩, ⟨by simpa using HH.out⟩, ⟨HB.out⟩⟩
     case round =>
      clear HH HB
      obtain ⟨i, rfl, hi, HH, HB⟩ := hrel
      have q2 := lift_ HB.out Z2.out
      by_cases c2 : i < (l2.length : Int)
      case neg =>
       have c2b0 : decide (i < (l2.length : Int)) = false := decide_eq_false c2
       have hd : l2.drop i.toNat = [] := List.drop_eq_nil_of_le (by have := hi.out; omega)
       have hr := HH.out
       rw [hd, eqGo] at hr
       obtain rfl := Option.some.inj hr
       clear hr hd HH hi c2
       have hr := H.out
       rw [if_pos rfl] at hr
       clear H
       have H := Aside0.mk hr
       clear hr
       obtain rfl := Option.some.inj H.out
       go_wp2
       go_ret
       exact ⟨rfl, below_step HW.out HB.out⟩
      have c2b0 : decide (i < (l2.length : Int)) = true := decide_eq_true c2
      have h0 := hi.out.1
      have c3 : i < (m2.length : Int) := by have := HL2.out; omega
      obtain ⟨aad, aA2, ac2, ae, ahr, ahl0, ahc0⟩ := el_T70 HR2.out i h0 c2
      cases ae
      obtain ⟨bad, bA2, bc2, be, bhr, bhl0, bhc0⟩ := el_T70 HS2.out i h0 c3
      cases be
      have p0 := eq_true h0
      have p1 := eq_true c2
      have q1_ := eq_true c3
      have C2 := Aside0.mk c2
      have C3 := Aside0.mk c3
      clear h0 c2 c3
      have hr := HH.out
      rw [drop_rd z70 hi.out.1 C2.out, drop_rd z70 hi.out.1 C3.out, eqGo] at hr
      obtain ⟨u, hu_, hr1⟩ := Option.bind_eq_some_iff.mp hr
      have HH1 := Aside0.mk hr1
      have HE := Aside0.mk (show relayref08_Same.el70 k (rd_T70 l2 i) (rd_T70 m2 i) = some u from hu_)
      clear hr hr1 hu_ HH
      have hr := HE.out
      unfold relayref08_Same.el70 at hr
      clear HE
      have HE := Aside0.mk hr
      clear hr
      have ahx1 := spread_at ahr 1 (by decide) rfl
      have ahx2 := spread_at ahr 2 (by decide) rfl
      have bhx1 := spread_at bhr 1 (by decide) rfl
      have bhx2 := spread_at bhr 2 (by decide) rfl
      go_upto_region 18 with (fail)
      clear q2
      have n0_ := Aside0.mk (below_drew1 HB.out)
      clear HB
      have HB := n0_
      clear n0_
      refine start_ (n := 29) (S := fun w' => Below w2.heap.size w2 w') (ds := []) b29_0 (by kernel_rfl) rfl (by kernel_rfl) HB.out (fun _ => ?_)
      refine with_tabW relayref08_Same.tab18 relayref08_Same.bits18 (fun HT_ HW_ => ?_)
      generalize World.drew _ = W5 at HB ⊢
      refine pure_ (i := 0) (N := some 109) (v := ?_) (a' := ?_) b29_1 rfl rfl (any_of HT_.out (by kernel_rfl)) (fun _ _ _ h => h) (Or.inl ⟨by rfl, ?_⟩) ?_ ?_
      rotate_left
      ·
       intro w'
       go_simp
       with_reducible rfl
      rotate_left
      ·
       simp only [Act.put, List.setIfInBounds_toArray, List.set_cons_zero, List.set_cons_succ, i64_w, i32_w]
       rfl
      refine pure_ (i := 2) (N := some 111) (v := ?_) (a' := ?_) b29_5 rfl rfl (any_of HT_.out (by kernel_rfl)) (fun _ _ _ h => h) (Or.inl ⟨by rfl, ?_⟩) ?_ ?_
      rotate_left
      ·
       intro w'
       go_simp
       with_reducible rfl
      rotate_left
      ·
       simp only [Act.put, List.setIfInBounds_toArray, List.set_cons_zero, List.set_cons_succ, i64_w, i32_w]
       rfl
      refine pure_ (i := 6) (N := some 115) (v := ?_) (a' := ?_) b29_45 rfl rfl (any_of HT_.out (by kernel_rfl)) (fun _ _ _ h => h) (Or.inl ⟨by rfl, ?_⟩) ?_ ?_
      rotate_left
      ·
       intro w'
       go_simp
       with_reducible rfl
      rotate_left
      ·
       simp only [Act.put, List.setIfInBounds_toArray, List.set_cons_zero, List.set_cons_succ, i64_w, i32_w]
       rfl
      refine pure_ (i := 8) (N := some 117) (v := ?_) (a' := ?_) b29_145 rfl rfl (any_of HT_.out (by kernel_rfl)) (fun _ _ _ h => h) (Or.inl ⟨by rfl, ?_⟩) ?_ ?_
      rotate_left
      ·
       intro w'
       go_simp
       with_reducible rfl
      rotate_left
      ·
       simp only [Act.put, List.setIfInBounds_toArray, List.set_cons_zero, List.set_cons_succ, i64_w, i32_w]
       rfl
      refine take_ (i := 1) (N := some 110) (v := ?_) (a' := ?_) b29_147 rfl rfl (take_ofW HT_.out HW_.out (by kernel_rfl)) (fun _ _ _ h => h) (Or.inl ⟨by rfl, ?_⟩) HB.out ?_ ?_
      rotate_left
      ·
       intro w' hS
       have s0 := lift_ hS Z2.out
       go_simp
       with_reducible rfl
      rotate_left
      ·
       simp only [Act.put, List.setIfInBounds_toArray, List.set_cons_zero, List.set_cons_succ, i64_w, i32_w]
       rfl
      refine pure_ (i := 3) (N := some 112) (v := ?_) (a' := ?_) b29_14f rfl rfl (any_of HT_.out (by kernel_rfl)) (fun _ _ _ h => h) (Or.inl ⟨by rfl, ?_⟩) ?_ ?_
      rotate_left
      ·
       intro w'
       go_simp
       with_reducible rfl
      rotate_left
      ·
       simp only [Act.put, List.setIfInBounds_toArray, List.set_cons_zero, List.set_cons_succ, i64_w, i32_w]
       rfl
      refine pure_ (i := 4) (N := some 113) (v := ?_) (a' := ?_) b29_15f rfl rfl (any_of HT_.out (by kernel_rfl)) (fun _ _ _ h => h) (Or.inl ⟨by rfl, ?_⟩) ?_ ?_
      rotate_left
      ·
       intro w'
       go_simp
       with_reducible rfl
      rotate_left
      ·
       simp only [Act.put, List.setIfInBounds_toArray, List.set_cons_zero, List.set_cons_succ, i64_w, i32_w]
       rfl
      refine take_ (i := 5) (N := some 114) (v := ?_) (a' := ?_) b29_17f rfl rfl (take_ofW HT_.out HW_.out (by kernel_rfl)) (fun _ _ _ h => h) (Or.inl ⟨by rfl, ?_⟩) HB.out ?_ ?_
      rotate_left
      ·
       intro w' hS
       have s0 := lift_ hS ahx1
       go_simp
       with_reducible rfl
      rotate_left
      ·
       simp only [Act.put, List.setIfInBounds_toArray, List.set_cons_zero, List.set_cons_succ, i64_w, i32_w]
       rfl
      refine take_ (i := 7) (N := some 116) (v := ?_) (a' := ?_) b29_1ff rfl rfl (take_ofW HT_.out HW_.out (by kernel_rfl)) (fun _ _ _ h => h) (Or.inl ⟨by rfl, ?_⟩) HB.out ?_ ?_
      rotate_left
      ·
       intro w' hS
       have s0 := lift_ hS Z5.out
       go_simp
       with_reducible rfl
      rotate_left
      ·
       simp only [Act.put, List.setIfInBounds_toArray, List.set_cons_zero, List.set_cons_succ, i64_w, i32_w]
       rfl
      refine pure_ (i := 9) (N := some 118) (v := ?_) (a' := ?_) b29_3ff rfl rfl (any_of HT_.out (by kernel_rfl)) (fun _ _ _ h => h) (Or.inl ⟨by rfl, ?_⟩) ?_ ?_
      rotate_left
      ·
       intro w'
       go_simp
       with_reducible rfl
      rotate_left
      ·
       simp only [Act.put, List.setIfInBounds_toArray, List.set_cons_zero, List.set_cons_succ, i64_w, i32_w]
       rfl
      refine pure_ (i := 10) (N := some 119) (v := ?_) (a' := ?_) b29_7ff rfl rfl (any_of HT_.out (by kernel_rfl)) (fun _ _ _ h => h) (Or.inl ⟨by rfl, ?_⟩) ?_ ?_
      rotate_left
      ·
       intro w'
       go_simp
       with_reducible rfl
      rotate_left
      ·
       simp only [Act.put, List.setIfInBounds_toArray, List.set_cons_zero, List.set_cons_succ, i64_w, i32_w]
       rfl
      refine take_ (i := 11) (N := some 120) (v := ?_) (a' := ?_) b29_fff rfl rfl (take_ofW HT_.out HW_.out (by kernel_rfl)) (fun _ _ _ h => h) (Or.inl ⟨by rfl, ?_⟩) HB.out ?_ ?_
      rotate_left
      ·
       intro w' hS
       have s0 := lift_ hS bhx1
       go_simp
       with_reducible rfl
      rotate_left
      ·
       simp only [Act.put, List.setIfInBounds_toArray, List.set_cons_zero, List.set_cons_succ, i64_w, i32_w]
       rfl
      by_cases c0 : (rd_T70 l2 i).f1.toList = (rd_T70 m2 i).f1.toList
      case neg =>
       have d0_0 : ((rd_T70 l2 i).f1.toList == (rd_T70 m2 i).f1.toList) = false := beq_eq_false_iff_ne.mpr c0
       have d0_1 : ((rd_T70 l2 i).f1.toList != (rd_T70 m2 i).f1.toList) = true := bne_iff_ne.mpr c0
       have hr := HE.out
       rw [if_neg c0] at hr
       clear HE c0
       have HE := Aside0.mk hr
       clear hr
       refine pure_ (i := 12) (N := some 121) (v := ?_) (a' := ?_) b29_1fff rfl rfl (any_of HT_.out (by kernel_rfl)) (fun _ _ _ h => h) (Or.inl ⟨by rfl, ?_⟩) ?_ ?_
       rotate_left
       ·
        intro w'
        go_simp
        with_reducible rfl
       rotate_left
       ·
        simp only [Act.put, List.setIfInBounds_toArray, List.set_cons_zero, List.set_cons_succ, i64_w, i32_w]
        rfl
       refine pure_ (i := 13) (N := some 122) (v := ?_) (a' := ?_) b29_3fff rfl rfl (any_of HT_.out (by kernel_rfl)) (fun _ _ _ h => h) (Or.inl ⟨by rfl, ?_⟩) ?_ ?_
       rotate_left
       ·
        intro w'
        go_simp
        with_reducible rfl
       rotate_left
       ·
        simp only [Act.put, List.setIfInBounds_toArray, List.set_cons_zero, List.set_cons_succ, i64_w, i32_w]
        rfl
       refine pure_ (i := 14) (N := some 123) (v := undef) (a' := ?_) b29_7fff rfl rfl (any_of HT_.out (by kernel_rfl)) (fun _ _ _ h => h) (Or.inr ⟨by rfl, rfl⟩) ?_ ?_
       rotate_left
       ·
        simp only [Act.put, List.setIfInBounds_toArray, List.set_cons_zero, List.set_cons_succ, i64_w, i32_w]
        rfl
       refine pure_ (i := 15) (N := some 124) (v := undef) (a' := ?_) b29_ffff rfl rfl (any_of HT_.out (by kernel_rfl)) (fun _ _ _ h => h) (Or.inr ⟨by rfl, rfl⟩) ?_ ?_
       rotate_left
       ·
        simp only [Act.put, List.setIfInBounds_toArray, List.set_cons_zero, List.set_cons_succ, i64_w, i32_w]
        rfl
       refine pure_ (i := 16) (N := some 125) (v := undef) (a' := ?_) b29_1ffff rfl rfl (any_of HT_.out (by kernel_rfl)) (fun _ _ _ h => h) (Or.inr ⟨by rfl, rfl⟩) ?_ ?_
       rotate_left
       ·
        simp only [Act.put, List.setIfInBounds_toArray, List.set_cons_zero, List.set_cons_succ, i64_w, i32_w]
        rfl
       refine pure_ (i := 17) (N := some 126) (v := undef) (a' := ?_) b29_3ffff rfl rfl (any_of HT_.out (by kernel_rfl)) (fun _ _ _ h => h) (Or.inr ⟨by rfl, rfl⟩) ?_ ?_
       rotate_left
       ·
        simp only [Act.put, List.setIfInBounds_toArray, List.set_cons_zero, List.set_cons_succ, i64_w, i32_w]
        rfl
       refine pure_ (i := 18) (N := some 127) (v := undef) (a' := ?_) b29_7ffff rfl rfl (any_of HT_.out (by kernel_rfl)) (fun _ _ _ h => h) (Or.inr ⟨by rfl, rfl⟩) ?_ ?_
       rotate_left
       ·
        simp only [Act.put, List.setIfInBounds_toArray, List.set_cons_zero, List.set_cons_succ, i64_w, i32_w]
        rfl
       refine pure_ (i := 19) (N := some 128) (v := undef) (a' := ?_) b29_fffff rfl rfl (any_of HT_.out (by kernel_rfl)) (fun _ _ _ h => h) (Or.inr ⟨by rfl, rfl⟩) ?_ ?_
       rotate_left
       ·
        simp only [Act.put, List.setIfInBounds_toArray, List.set_cons_zero, List.set_cons_succ, i64_w, i32_w]
        rfl
       refine pure_ (i := 20) (N := some 129) (v := undef) (a' := ?_) b29_1fffff rfl rfl (any_of HT_.out (by kernel_rfl)) (fun _ _ _ h => h) (Or.inr ⟨by rfl, rfl⟩) ?_ ?_
       rotate_left
       ·
        simp only [Act.put, List.setIfInBounds_toArray, List.set_cons_zero, List.set_cons_succ, i64_w, i32_w]
        rfl
       refine pure_ (i := 21) (N := some 130) (v := undef) (a' := ?_) b29_3fffff rfl rfl (any_of HT_.out (by kernel_rfl)) (fun _ _ _ h => h) (Or.inr ⟨by rfl, rfl⟩) ?_ ?_
       rotate_left
       ·
        simp only [Act.put, List.setIfInBounds_toArray, List.set_cons_zero, List.set_cons_succ, i64_w, i32_w]
        rfl
       refine pure_ (i := 22) (N := some 131) (v := undef) (a' := ?_) b29_7fffff rfl rfl (any_of HT_.out (by kernel_rfl)) (fun _ _ _ h => h) (Or.inr ⟨by rfl, rfl⟩) ?_ ?_
       rotate_left
       ·
        simp only [Act.put, List.setIfInBounds_toArray, List.set_cons_zero, List.set_cons_succ, i64_w, i32_w]
        rfl
       refine pure_ (i := 23) (N := some 132) (v := undef) (a' := ?_) b29_ffffff rfl rfl (any_of HT_.out (by kernel_rfl)) (fun _ _ _ h => h) (Or.inr ⟨by rfl, rfl⟩) ?_ ?_
       rotate_left
       ·
        simp only [Act.put, List.setIfInBounds_toArray, List.set_cons_zero, List.set_cons_succ, i64_w, i32_w]
        rfl
       refine pure_ (i := 24) (N := some 133) (v := undef) (a' := ?_) b29_1ffffff rfl rfl (any_of HT_.out (by kernel_rfl)) (fun _ _ _ h => h) (Or.inr ⟨by rfl, rfl⟩) ?_ ?_
       rotate_left
       ·
        simp only [Act.put, List.setIfInBounds_toArray, List.set_cons_zero, List.set_cons_succ, i64_w, i32_w]
        rfl
       refine pure_ (i := 25) (N := some 134) (v := undef) (a' := ?_) b29_3ffffff rfl rfl (any_of HT_.out (by kernel_rfl)) (fun _ _ _ h => h) (Or.inr ⟨by rfl, rfl⟩) ?_ ?_
       rotate_left
       ·
        simp only [Act.put, List.setIfInBounds_toArray, List.set_cons_zero, List.set_cons_succ, i64_w, i32_w]
        rfl
       refine pure_ (i := 26) (N := some 135) (v := undef) (a' := ?_) b29_7ffffff rfl rfl (any_of HT_.out (by kernel_rfl)) (fun _ _ _ h => h) (Or.inr ⟨by rfl, rfl⟩) ?_ ?_
       rotate_left
       ·
        simp only [Act.put, List.setIfInBounds_toArray, List.set_cons_zero, List.set_cons_succ, i64_w, i32_w]
        rfl
       refine pure_ (i := 27) (N := some 136) (v := undef) (a' := ?_) b29_fffffff rfl rfl (any_of HT_.out (by kernel_rfl)) (fun _ _ _ h => h) (Or.inr ⟨by rfl, rfl⟩) ?_ ?_
       rotate_left
       ·
        simp only [Act.put, List.setIfInBounds_toArray, List.set_cons_zero, List.set_cons_succ, i64_w, i32_w]
        rfl
       refine pure_ (i := 28) (N := some 137) (v := ?_) (a' := ?_) b29_1fffffff rfl rfl (any_of HT_.out (by kernel_rfl)) (fun _ _ _ h => h) (Or.inl ⟨by rfl, ?_⟩) ?_ ?_
       rotate_left
       ·
        intro w'
        go_simp
        with_reducible rfl
       rotate_left
       ·
        simp only [Act.put, List.setIfInBounds_toArray, List.set_cons_zero, List.set_cons_succ, i64_w, i32_w]
        rfl
       refine done_ (done_of HT_.out (by kernel_rfl)) ?_
       obtain rfl := Option.some.inj HE.out
       have hr := HH1.out
       rw [if_neg Bool.false_ne_true] at hr
       obtain rfl := Option.some.inj hr
       clear hr HE HH1
       have hr := H.out
       rw [if_neg Bool.false_ne_true] at hr
       obtain rfl := Option.some.inj hr
       clear hr H
       go_wp2
       go_ret
       exact ⟨rfl, below_step HW.out (by repeat (first | (with_reducible first | exact HB.out | apply below_alloc | apply pw_below_drewN | apply below_drew1) | exact HB.out))⟩
      have d0_0 : ((rd_T70 l2 i).f1.toList == (rd_T70 m2 i).f1.toList) = true := beq_iff_eq.mpr c0
      have d0_1 : ((rd_T70 l2 i).f1.toList != (rd_T70 m2 i).f1.toList) = false := bne_eq_false_iff_eq.mpr c0
      have hr := HE.out
      rw [if_pos c0] at hr
      clear HE c0
      have HE := Aside0.mk hr
      clear hr
      refine pure_ (i := 12) (N := some 121) (v := ?_) (a' := ?_) b29_1fff rfl rfl (any_of HT_.out (by kernel_rfl)) (fun _ _ _ h => h) (Or.inl ⟨by rfl, ?_⟩) ?_ ?_
      rotate_left
      ·
       intro w'
       go_simp
       with_reducible rfl
      rotate_left
      ·
       simp only [Act.put, List.setIfInBounds_toArray, List.set_cons_zero, List.set_cons_succ, i64_w, i32_w]
       rfl
      refine pure_ (i := 13) (N := some 122) (v := ?_) (a' := ?_) b29_3fff rfl rfl (any_of HT_.out (by kernel_rfl)) (fun _ _ _ h => h) (Or.inl ⟨by rfl, ?_⟩) ?_ ?_
      rotate_left
      ·
       intro w'
       go_simp
       with_reducible rfl
      rotate_left
      ·
       simp only [Act.put, List.setIfInBounds_toArray, List.set_cons_zero, List.set_cons_succ, i64_w, i32_w]
       rfl
      refine pure_ (i := 14) (N := some 123) (v := ?_) (a' := ?_) b29_7fff rfl rfl (any_of HT_.out (by kernel_rfl)) (fun _ _ _ h => h) (Or.inl ⟨by rfl, ?_⟩) ?_ ?_
      rotate_left
      ·
       intro w'
       go_simp
       with_reducible rfl
      rotate_left
      ·
       simp only [Act.put, List.setIfInBounds_toArray, List.set_cons_zero, List.set_cons_succ, i64_w, i32_w]
       rfl
      refine pure_ (i := 16) (N := some 125) (v := ?_) (a' := ?_) b29_17fff rfl rfl (any_of HT_.out (by kernel_rfl)) (fun _ _ _ h => h) (Or.inl ⟨by rfl, ?_⟩) ?_ ?_
      rotate_left
      ·
       intro w'
       go_simp
       with_reducible rfl
      rotate_left
      ·
       simp only [Act.put, List.setIfInBounds_toArray, List.set_cons_zero, List.set_cons_succ, i64_w, i32_w]
       rfl
      refine pure_ (i := 20) (N := some 129) (v := ?_) (a' := ?_) b29_117fff rfl rfl (any_of HT_.out (by kernel_rfl)) (fun _ _ _ h => h) (Or.inl ⟨by rfl, ?_⟩) ?_ ?_
      rotate_left
      ·
       intro w'
       go_simp
       with_reducible rfl
      rotate_left
      ·
       simp only [Act.put, List.setIfInBounds_toArray, List.set_cons_zero, List.set_cons_succ, i64_w, i32_w]
       rfl
      refine pure_ (i := 22) (N := some 131) (v := ?_) (a' := ?_) b29_517fff rfl rfl (any_of HT_.out (by kernel_rfl)) (fun _ _ _ h => h) (Or.inl ⟨by rfl, ?_⟩) ?_ ?_
      rotate_left
      ·
       intro w'
       go_simp
       with_reducible rfl
      rotate_left
      ·
       simp only [Act.put, List.setIfInBounds_toArray, List.set_cons_zero, List.set_cons_succ, i64_w, i32_w]
       rfl
      refine take_ (i := 15) (N := some 124) (v := ?_) (a' := ?_) b29_51ffff rfl rfl (take_ofW HT_.out HW_.out (by kernel_rfl)) (fun _ _ _ h => h) (Or.inl ⟨by rfl, ?_⟩) HB.out ?_ ?_
      rotate_left
      ·
       intro w' hS
       have s0 := lift_ hS Z2.out
       go_simp
       with_reducible rfl
      rotate_left
      ·
       simp only [Act.put, List.setIfInBounds_toArray, List.set_cons_zero, List.set_cons_succ, i64_w, i32_w]
       rfl
      refine pure_ (i := 17) (N := some 126) (v := ?_) (a' := ?_) b29_53ffff rfl rfl (any_of HT_.out (by kernel_rfl)) (fun _ _ _ h => h) (Or.inl ⟨by rfl, ?_⟩) ?_ ?_
      rotate_left
      ·
       intro w'
       go_simp
       with_reducible rfl
      rotate_left
      ·
       simp only [Act.put, List.setIfInBounds_toArray, List.set_cons_zero, List.set_cons_succ, i64_w, i32_w]
       rfl
      refine pure_ (i := 18) (N := some 127) (v := ?_) (a' := ?_) b29_57ffff rfl rfl (any_of HT_.out (by kernel_rfl)) (fun _ _ _ h => h) (Or.inl ⟨by rfl, ?_⟩) ?_ ?_
      rotate_left
      ·
       intro w'
       go_simp
       with_reducible rfl
      rotate_left
      ·
       simp only [Act.put, List.setIfInBounds_toArray, List.set_cons_zero, List.set_cons_succ, i64_w, i32_w]
       rfl
      refine take_ (i := 19) (N := some 128) (v := ?_) (a' := ?_) b29_5fffff rfl rfl (take_ofW HT_.out HW_.out (by kernel_rfl)) (fun _ _ _ h => h) (Or.inl ⟨by rfl, ?_⟩) HB.out ?_ ?_
      rotate_left
      ·
       intro w' hS
       have s0 := lift_ hS ahx2
       go_simp
       with_reducible rfl
      rotate_left
      ·
       simp only [Act.put, List.setIfInBounds_toArray, List.set_cons_zero, List.set_cons_succ, i64_w, i32_w]
       rfl
      refine take_ (i := 21) (N := some 130) (v := ?_) (a' := ?_) b29_7fffff rfl rfl (take_ofW HT_.out HW_.out (by kernel_rfl)) (fun _ _ _ h => h) (Or.inl ⟨by rfl, ?_⟩) HB.out ?_ ?_
      rotate_left
      ·
       intro w' hS
       have s0 := lift_ hS Z5.out
       go_simp
       with_reducible rfl
      rotate_left
      ·
       simp only [Act.put, List.setIfInBounds_toArray, List.set_cons_zero, List.set_cons_succ, i64_w, i32_w]
       rfl
      refine pure_ (i := 23) (N := some 132) (v := ?_) (a' := ?_) b29_ffffff rfl rfl (any_of HT_.out (by kernel_rfl)) (fun _ _ _ h => h) (Or.inl ⟨by rfl, ?_⟩) ?_ ?_
      rotate_left
      ·
       intro w'
       go_simp
       with_reducible rfl
      rotate_left
      ·
       simp only [Act.put, List.setIfInBounds_toArray, List.set_cons_zero, List.set_cons_succ, i64_w, i32_w]
       rfl
      refine pure_ (i := 24) (N := some 133) (v := ?_) (a' := ?_) b29_1ffffff rfl rfl (any_of HT_.out (by kernel_rfl)) (fun _ _ _ h => h) (Or.inl ⟨by rfl, ?_⟩) ?_ ?_
      rotate_left
      ·
       intro w'
       go_simp
       with_reducible rfl
      rotate_left
      ·
       simp only [Act.put, List.setIfInBounds_toArray, List.set_cons_zero, List.set_cons_succ, i64_w, i32_w]
       rfl
      refine take_ (i := 25) (N := some 134) (v := ?_) (a' := ?_) b29_3ffffff rfl rfl (take_ofW HT_.out HW_.out (by kernel_rfl)) (fun _ _ _ h => h) (Or.inl ⟨by rfl, ?_⟩) HB.out ?_ ?_
      rotate_left
      ·
       intro w' hS
       have s0 := lift_ hS bhx2
       go_simp
       with_reducible rfl
      rotate_left
      ·
       simp only [Act.put, List.setIfInBounds_toArray, List.set_cons_zero, List.set_cons_succ, i64_w, i32_w]
       rfl
      obtain ⟨v1, hv, hr⟩ := Option.bind_eq_some_iff.mp HE.out
      have A1_ := Aside0.mk hv
      clear HE hv
      have HE := Aside0.mk hr
      clear hr
      cases v1
      case false =>
       have hr := HE.out
       rw [if_neg Bool.false_ne_true] at hr
       clear HE
       have HE := Aside0.mk hr
       clear hr
       refine one_ (i := 26) (N := some 135) b29_7ffffff rfl rfl (one_of HT_.out (by kernel_rfl)) (by decide) (fun K hK => ?_)
       refine goes_ Try.func11 (by kernel_rfl) rfl #[.slice aA2 (rd_T70 l2 i).f2.length ac2, .slice bA2 (rd_T70 m2 i).f2.length bc2] (by rfl) rfl rfl (by (try simp only [List.map_toArray, List.map_cons, List.map_nil]); first | done | rfl) ?_
       refine (relayref05_Same.calls k _ _ _ _ _ _ _ _ (Kd.C_below ahc0 HB.out) ahl0 (Kd.C_below bhc0 HB.out) bhl0 A1_.out).mono ?_
       rintro e w' ⟨rfl, hb⟩
       refine ⟨_, rfl, ?_⟩
       have n0_ := Aside0.mk (below_step HB.out hb)
       clear HB hb
       have HB := n0_
       clear n0_
       refine hK.out _ _ HB.out (fun _ => ?_)
       clear hK K
       refine norm_ (a' := ?_) ?_ ?_
       rotate_left
       ·
        show Act.put _ (some 135) _ = _
        simp only [Act.put, List.setIfInBounds_toArray, List.set_cons_zero, List.set_cons_succ, i64_w, i32_w]
        rfl
       refine pure_ (i := 27) (N := some 136) (v := ?_) (a' := ?_) b29_fffffff rfl rfl (any_of HT_.out (by kernel_rfl)) (fun _ _ _ h => h) (Or.inl ⟨by rfl, ?_⟩) ?_ ?_
       rotate_left
       ·
        intro w'
        go_simp
        with_reducible rfl
       rotate_left
       ·
        simp only [Act.put, List.setIfInBounds_toArray, List.set_cons_zero, List.set_cons_succ, i64_w, i32_w]
        rfl
       refine pure_ (i := 28) (N := some 137) (v := ?_) (a' := ?_) b29_1fffffff rfl rfl (any_of HT_.out (by kernel_rfl)) (fun _ _ _ h => h) (Or.inl ⟨by rfl, ?_⟩) ?_ ?_
       rotate_left
       ·
        intro w'
        go_simp
        with_reducible rfl
       rotate_left
       ·
        simp only [Act.put, List.setIfInBounds_toArray, List.set_cons_zero, List.set_cons_succ, i64_w, i32_w]
        rfl
       refine done_ (done_of HT_.out (by kernel_rfl)) ?_
       obtain rfl := Option.some.inj HE.out
       have hr := HH1.out
       rw [if_neg Bool.false_ne_true] at hr
       obtain rfl := Option.some.inj hr
       clear hr HE HH1
       have hr := H.out
       rw [if_neg Bool.false_ne_true] at hr
       obtain rfl := Option.some.inj hr
       clear hr H
       go_wp2
       go_ret
       exact ⟨rfl, below_step HW.out (by repeat (first | (with_reducible first | exact HB.out | apply below_alloc | apply pw_below_drewN | apply below_drew1) | exact HB.out))⟩
      have hr := HE.out
      rw [if_pos rfl] at hr
      clear HE
      have HE := Aside0.mk hr
      clear hr
      refine one_ (i := 26) (N := some 135) b29_7ffffff rfl rfl (one_of HT_.out (by kernel_rfl)) (by decide) (fun K hK => ?_)
      refine goes_ Try.func11 (by kernel_rfl) rfl #[.slice aA2 (rd_T70 l2 i).f2.length ac2, .slice bA2 (rd_T70 m2 i).f2.length bc2] (by rfl) rfl rfl (by (try simp only [List.map_toArray, List.map_cons, List.map_nil]); first | done | rfl) ?_
      refine (relayref05_Same.calls k _ _ _ _ _ _ _ _ (Kd.C_below ahc0 HB.out) ahl0 (Kd.C_below bhc0 HB.out) bhl0 A1_.out).mono ?_
      rintro e w' ⟨rfl, hb⟩
      refine ⟨_, rfl, ?_⟩
      have n0_ := Aside0.mk (below_step HB.out hb)
      clear HB hb
      have HB := n0_
      clear n0_
      refine hK.out _ _ HB.out (fun _ => ?_)
      clear hK K
      refine norm_ (a' := ?_) ?_ ?_
      rotate_left
      ·
       show Act.put _ (some 135) _ = _
       simp only [Act.put, List.setIfInBounds_toArray, List.set_cons_zero, List.set_cons_succ, i64_w, i32_w]
       rfl
      refine pure_ (i := 27) (N := some 136) (v := ?_) (a' := ?_) b29_fffffff rfl rfl (any_of HT_.out (by kernel_rfl)) (fun _ _ _ h => h) (Or.inl ⟨by rfl, ?_⟩) ?_ ?_
      rotate_left
      ·
       intro w'
       go_simp
       with_reducible rfl
      rotate_left
      ·
       simp only [Act.put, List.setIfInBounds_toArray, List.set_cons_zero, List.set_cons_succ, i64_w, i32_w]
       rfl
      refine pure_ (i := 28) (N := some 137) (v := ?_) (a' := ?_) b29_1fffffff rfl rfl (any_of HT_.out (by kernel_rfl)) (fun _ _ _ h => h) (Or.inl ⟨by rfl, ?_⟩) ?_ ?_
      rotate_left
      ·
       intro w'
       go_simp
       with_reducible rfl
      rotate_left
      ·
       simp only [Act.put, List.setIfInBounds_toArray, List.set_cons_zero, List.set_cons_succ, i64_w, i32_w]
       rfl
      refine done_ (done_of HT_.out (by kernel_rfl)) ?_
      obtain rfl := Option.some.inj HE.out
      have hr := HH1.out
      rw [if_pos rfl] at hr
      have HH := Aside0.mk hr
      clear hr HE HH1
      go_wp2
      have hw : wrap64 (i + 1) = i + 1 := by
       have := HM2.out
       have := hi.out
       have := C2.out
       unfold wrap64
       omega
      have h1 := hi.out
      have h2 := C2.out
      go_roundg (gk - 1)
      case measure => omega
      case rel => exact ⟨i + 1, by rw [hw], ⟨by omega⟩, ⟨HH.out⟩, ⟨(by repeat (first | (with_reducible first | exact HB.out | apply below_alloc | apply pw_below_drewN | apply below_drew1) | exact HB.out))⟩⟩
    have c2b0 : decide (i < (l1.length : Int)) = true := decide_eq_true c2
    have h0 := hi.out.1
    have c3 : i < (m1.length : Int) := by have := HL1.out; omega
    obtain ⟨aad, aA2, ac2, aA3, ac3, aA11, ac11, aA12, ac12, ae, ahr, ahl0, ahc0, ahl1, ahc1, ahl2, ahc2, ahl3, ahc3⟩ := el_T67 HR1.out i h0 c2
    cases ae
    obtain ⟨bad, bA2, bc2, bA3, bc3, bA11, bc11, bA12, bc12, be, bhr, bhl0, bhc0, bhl1, bhc1, bhl2, bhc2, bhl3, bhc3⟩ := el_T67 HS1.out i h0 c3
    cases be
    have p0 := eq_true h0
    have p1 := eq_true c2
    have q1_ := eq_true c3
    have C2 := Aside0.mk c2
    have C3 := Aside0.mk c3
    clear h0 c2 c3
    have hr := HH.out
    rw [drop_rd z67 hi.out.1 C2.out, drop_rd z67 hi.out.1 C3.out, eqGo] at hr
    obtain ⟨u, hu_, hr1⟩ := Option.bind_eq_some_iff.mp hr
    have HH1 := Aside0.mk hr1
    have HE := Aside0.mk (show relayref08_Same.el67 k (rd_T67 l1 i) (rd_T67 m1 i) = some u from hu_)
    clear hr hr1 hu_ HH
    have hr := HE.out
    unfold relayref08_Same.el67 at hr
    clear HE
    have HE := Aside0.mk hr
    clear hr
    go_upto_region 12 with (first | ((with_reducible refine gate_dst (N := 65) rfl ?_); refine load_in (N := 65) (t := 67) rfl rfl rfl rfl (spread_below HB.out ahr) Try.underlying67 rfl rfl (by kernel_rfl) ?_) | ((with_reducible refine gate_dst (N := 7) rfl ?_); refine box_event ?hg (N := 7) ?hd (cs := #[.int .i64 0, .string (⟨#[]⟩ : ByteArray), .slice none 0 0, .slice none 0 0, .int .i64 0, .int .i64 0, .string (⟨#[]⟩ : ByteArray), .string (⟨#[]⟩ : ByteArray), .int .u8 0, .int .u64 0, .string (⟨#[]⟩ : ByteArray), .slice none 0 0, .slice none 0 0, .int .u8 0, .int .i64 0, .int .i64 0, .int .i64 0, .int .i64 0]) (t := 67) ?hr ?_; (case hd => rfl); (case hg => rfl); (case hr => first | (go_simp; done) | (go_simp; rfl)); intro g7 hg w7 hbox hb; have n0_ := Aside0.mk (below_step (by repeat (first | (with_reducible first | exact HB.out | apply below_alloc | apply pw_below_drewN | apply below_drew1) | exact HB.out)) hb); have G7 := Aside0.mk ((by rw [hg]; exact below_size (by repeat (first | (with_reducible first | exact HB.out | apply below_alloc | apply pw_below_drewN | apply below_drew1) | exact HB.out))) : w2.heap.size ≤ g7); have B7 := Aside0.mk hbox; clear HB; have HB := n0_; clear n0_ hb hbox hg) | ((with_reducible refine gate_store (t := 67) (p := 7) rfl ?_); refine store_in (w0 := w2) (u := .agg #[.int .i64 (rd_T67 l1 i).f0, .string (rd_T67 l1 i).f1, .slice aA2 (rd_T67 l1 i).f2.length ac2, .slice aA3 (rd_T67 l1 i).f3.length ac3, .int .i64 (rd_T67 l1 i).f4.f0, .int .i64 (rd_T67 l1 i).f4.f1, .string (rd_T67 l1 i).f4.f2, .string (rd_T67 l1 i).f4.f3, .int .u8 (rd_T67 l1 i).f4.f4.f0, .int .u64 (rd_T67 l1 i).f4.f4.f1, .string (rd_T67 l1 i).f4.f4.f2, .slice aA11 (rd_T67 l1 i).f4.f5.length ac11, .slice aA12 (rd_T67 l1 i).f4.f6.length ac12, .int .u8 (rd_T67 l1 i).f4.f7, .int .i64 (rd_T67 l1 i).f4.f8, .int .i64 (rd_T67 l1 i).f4.f9, .int .i64 (rd_T67 l1 i).f4.f10, .int .i64 (rd_T67 l1 i).f4.f11]) rfl rfl rfl rfl rfl rfl rfl (by kernel_rfl) rfl B7.out rfl HB.out G7.out ?_; intro W7 b1 hb1 hk1; clear B7 HB hk1; have B7 := Aside0.mk b1; have HB := Aside0.mk hb1; clear b1 hb1))
    clear q1
    have q4 := lift_ HB.out Z4.out
    go_upto_region 13 with (first | ((with_reducible refine gate_dst (N := 70) rfl ?_); refine load_in (N := 70) (t := 67) rfl rfl rfl rfl (spread_below HB.out bhr) Try.underlying67 rfl rfl (by kernel_rfl) ?_) | ((with_reducible refine gate_dst (N := 8) rfl ?_); refine box_event ?hg (N := 8) ?hd (cs := #[.int .i64 0, .string (⟨#[]⟩ : ByteArray), .slice none 0 0, .slice none 0 0, .int .i64 0, .int .i64 0, .string (⟨#[]⟩ : ByteArray), .string (⟨#[]⟩ : ByteArray), .int .u8 0, .int .u64 0, .string (⟨#[]⟩ : ByteArray), .slice none 0 0, .slice none 0 0, .int .u8 0, .int .i64 0, .int .i64 0, .int .i64 0, .int .i64 0]) (t := 67) ?hr ?_; (case hd => rfl); (case hg => rfl); (case hr => first | (go_simp; done) | (go_simp; rfl)); intro g8 hg w8 hbox hb; have n0_ := Aside0.mk (below_step (by repeat (first | (with_reducible first | exact HB.out | apply below_alloc | apply pw_below_drewN | apply below_drew1) | exact HB.out)) hb); have n1_ := Aside0.mk (blk_below B7.out hb); have NE7_8 := Aside0.mk ((by rw [hg]; exact Nat.ne_of_lt (blk_lt B7.out)) : g7 ≠ g8); clear B7; have B7 := n1_; clear n1_; have G8 := Aside0.mk ((by rw [hg]; exact below_size (by repeat (first | (with_reducible first | exact HB.out | apply below_alloc | apply pw_below_drewN | apply below_drew1) | exact HB.out))) : w2.heap.size ≤ g8); have B8 := Aside0.mk hbox; clear HB; have HB := n0_; clear n0_ hb hbox hg) | ((with_reducible refine gate_store (t := 67) (p := 8) rfl ?_); refine store_in (w0 := w2) (u := .agg #[.int .i64 (rd_T67 m1 i).f0, .string (rd_T67 m1 i).f1, .slice bA2 (rd_T67 m1 i).f2.length bc2, .slice bA3 (rd_T67 m1 i).f3.length bc3, .int .i64 (rd_T67 m1 i).f4.f0, .int .i64 (rd_T67 m1 i).f4.f1, .string (rd_T67 m1 i).f4.f2, .string (rd_T67 m1 i).f4.f3, .int .u8 (rd_T67 m1 i).f4.f4.f0, .int .u64 (rd_T67 m1 i).f4.f4.f1, .string (rd_T67 m1 i).f4.f4.f2, .slice bA11 (rd_T67 m1 i).f4.f5.length bc11, .slice bA12 (rd_T67 m1 i).f4.f6.length bc12, .int .u8 (rd_T67 m1 i).f4.f7, .int .i64 (rd_T67 m1 i).f4.f8, .int .i64 (rd_T67 m1 i).f4.f9, .int .i64 (rd_T67 m1 i).f4.f10, .int .i64 (rd_T67 m1 i).f4.f11]) rfl rfl rfl rfl rfl rfl rfl (by kernel_rfl) rfl B8.out rfl HB.out G8.out ?_; intro W8 b1 hb1 hk1; have n1_ := Aside0.mk (hk1 _ _ _ B7.out NE7_8.out); clear B7; have B7 := n1_; clear n1_; clear B8 HB hk1; have B8 := Aside0.mk b1; have HB := Aside0.mk hb1; clear b1 hb1))
    clear q4
    have b7 := B7.out
    have b8 := B8.out
    have hb8 := HB.out
    clear B7 B8 HB
    obtain ⟨-, z1, z2, z3, z4, z5, z6, z7, z8, z9, z10, z11, z12, z13, z14, z15, z16, z17, -, -, -, -, -, -, -, -, -, -, -, -, -, -, -, -, -, -⟩ := cells18 b7
    obtain ⟨-, y1, y2, y3, y4, y5, y6, y7, y8, y9, y10, y11, y12, y13, y14, y15, y16, y17, -, -, -, -, -, -, -, -, -, -, -, -, -, -, -, -, -, -⟩ := cells18 b8
    clear b7 b8
    have HB13 := Aside0.mk hb8
    clear hb8
    have HB := Aside0.mk (Below.refl W8.heap.size W8)
    clear ahr bhr
    have n0_ := Aside0.mk (below_drew1 HB.out)
    clear HB
    have HB := n0_
    clear n0_
    refine start_ (n := 31) (S := fun w' => Below W8.heap.size W8 w') (ds := []) b31_0 (by kernel_rfl) rfl (by kernel_rfl) HB.out (fun _ => ?_)
    refine with_tabW relayref08_Same.tab13 relayref08_Same.bits13 (fun HT_ HW_ => ?_)
    generalize World.drew _ = W5 at HB ⊢
    refine pure_ (i := 0) (N := some 71) (v := ?_) (a' := ?_) b31_1 rfl rfl (any_of HT_.out (by kernel_rfl)) (fun _ _ _ h => h) (Or.inl ⟨by rfl, ?_⟩) ?_ ?_
    rotate_left
    ·
     intro w'
     go_simp
     with_reducible rfl
    rotate_left
    ·
     simp only [Act.put, List.setIfInBounds_toArray, List.set_cons_zero, List.set_cons_succ, i64_w, i32_w]
     rfl
    refine pure_ (i := 2) (N := some 73) (v := ?_) (a' := ?_) b31_5 rfl rfl (any_of HT_.out (by kernel_rfl)) (fun _ _ _ h => h) (Or.inl ⟨by rfl, ?_⟩) ?_ ?_
    rotate_left
    ·
     intro w'
     go_simp
     with_reducible rfl
    rotate_left
    ·
     simp only [Act.put, List.setIfInBounds_toArray, List.set_cons_zero, List.set_cons_succ, i64_w, i32_w]
     rfl
    refine take_ (i := 1) (N := some 72) (v := ?_) (a' := ?_) b31_7 rfl rfl (take_ofW HT_.out HW_.out (by kernel_rfl)) (fun _ _ _ h => h) (Or.inl ⟨by rfl, ?_⟩) HB.out ?_ ?_
    rotate_left
    ·
     intro w' hS
     have s0 := lift_ hS z1
     go_simp
     with_reducible rfl
    rotate_left
    ·
     simp only [Act.put, List.setIfInBounds_toArray, List.set_cons_zero, List.set_cons_succ, i64_w, i32_w]
     rfl
    refine take_ (i := 3) (N := some 74) (v := ?_) (a' := ?_) b31_f rfl rfl (take_ofW HT_.out HW_.out (by kernel_rfl)) (fun _ _ _ h => h) (Or.inl ⟨by rfl, ?_⟩) HB.out ?_ ?_
    rotate_left
    ·
     intro w' hS
     have s0 := lift_ hS y1
     go_simp
     with_reducible rfl
    rotate_left
    ·
     simp only [Act.put, List.setIfInBounds_toArray, List.set_cons_zero, List.set_cons_succ, i64_w, i32_w]
     rfl
    by_cases c0 : (rd_T67 l1 i).f1.toList = (rd_T67 m1 i).f1.toList
    case neg =>
     have d0_0 : ((rd_T67 l1 i).f1.toList == (rd_T67 m1 i).f1.toList) = false := beq_eq_false_iff_ne.mpr c0
     have d0_1 : ((rd_T67 l1 i).f1.toList != (rd_T67 m1 i).f1.toList) = true := bne_iff_ne.mpr c0
     have hr := HE.out
     rw [if_neg c0] at hr
     clear HE c0
     have HE := Aside0.mk hr
     clear hr
     refine pure_ (i := 4) (N := some 75) (v := ?_) (a' := ?_) b31_1f rfl rfl (any_of HT_.out (by kernel_rfl)) (fun _ _ _ h => h) (Or.inl ⟨by rfl, ?_⟩) ?_ ?_
     rotate_left
     ·
      intro w'
      go_simp
      with_reducible rfl
     rotate_left
     ·
      simp only [Act.put, List.setIfInBounds_toArray, List.set_cons_zero, List.set_cons_succ, i64_w, i32_w]
      rfl
     refine pure_ (i := 5) (N := some 76) (v := ?_) (a' := ?_) b31_3f rfl rfl (any_of HT_.out (by kernel_rfl)) (fun _ _ _ h => h) (Or.inl ⟨by rfl, ?_⟩) ?_ ?_
     rotate_left
     ·
      intro w'
      go_simp
      with_reducible rfl
     rotate_left
     ·
      simp only [Act.put, List.setIfInBounds_toArray, List.set_cons_zero, List.set_cons_succ, i64_w, i32_w]
      rfl
     refine pure_ (i := 6) (N := some 77) (v := undef) (a' := ?_) b31_7f rfl rfl (any_of HT_.out (by kernel_rfl)) (fun _ _ _ h => h) (Or.inr ⟨by rfl, rfl⟩) ?_ ?_
     rotate_left
     ·
      simp only [Act.put, List.setIfInBounds_toArray, List.set_cons_zero, List.set_cons_succ, i64_w, i32_w]
      rfl
     refine pure_ (i := 7) (N := some 78) (v := undef) (a' := ?_) b31_ff rfl rfl (any_of HT_.out (by kernel_rfl)) (fun _ _ _ h => h) (Or.inr ⟨by rfl, rfl⟩) ?_ ?_
     rotate_left
     ·
      simp only [Act.put, List.setIfInBounds_toArray, List.set_cons_zero, List.set_cons_succ, i64_w, i32_w]
      rfl
     refine pure_ (i := 8) (N := some 79) (v := undef) (a' := ?_) b31_1ff rfl rfl (any_of HT_.out (by kernel_rfl)) (fun _ _ _ h => h) (Or.inr ⟨by rfl, rfl⟩) ?_ ?_
     rotate_left
     ·
      simp only [Act.put, List.setIfInBounds_toArray, List.set_cons_zero, List.set_cons_succ, i64_w, i32_w]
      rfl
     refine pure_ (i := 9) (N := some 80) (v := undef) (a' := ?_) b31_3ff rfl rfl (any_of HT_.out (by kernel_rfl)) (fun _ _ _ h => h) (Or.inr ⟨by rfl, rfl⟩) ?_ ?_
     rotate_left
     ·
      simp only [Act.put, List.setIfInBounds_toArray, List.set_cons_zero, List.set_cons_succ, i64_w, i32_w]
      rfl
     refine pure_ (i := 10) (N := some 81) (v := undef) (a' := ?_) b31_7ff rfl rfl (any_of HT_.out (by kernel_rfl)) (fun _ _ _ h => h) (Or.inr ⟨by rfl, rfl⟩) ?_ ?_
     rotate_left
     ·
      simp only [Act.put, List.setIfInBounds_toArray, List.set_cons_zero, List.set_cons_succ, i64_w, i32_w]
      rfl
     refine pure_ (i := 11) (N := some 82) (v := undef) (a' := ?_) b31_fff rfl rfl (any_of HT_.out (by kernel_rfl)) (fun _ _ _ h => h) (Or.inr ⟨by rfl, rfl⟩) ?_ ?_
     rotate_left
     ·
      simp only [Act.put, List.setIfInBounds_toArray, List.set_cons_zero, List.set_cons_succ, i64_w, i32_w]
      rfl
     refine pure_ (i := 12) (N := some 83) (v := ?_) (a' := ?_) b31_1fff rfl rfl (any_of HT_.out (by kernel_rfl)) (fun _ _ _ h => h) (Or.inl ⟨by rfl, ?_⟩) ?_ ?_
     rotate_left
     ·
      intro w'
      go_simp
      with_reducible rfl
     rotate_left
     ·
      simp only [Act.put, List.setIfInBounds_toArray, List.set_cons_zero, List.set_cons_succ, i64_w, i32_w]
      rfl
     refine pure_ (i := 13) (N := some 84) (v := ?_) (a' := ?_) b31_3fff rfl rfl (any_of HT_.out (by kernel_rfl)) (fun _ _ _ h => h) (Or.inl ⟨by rfl, ?_⟩) ?_ ?_
     rotate_left
     ·
      intro w'
      go_simp
      with_reducible rfl
     rotate_left
     ·
      simp only [Act.put, List.setIfInBounds_toArray, List.set_cons_zero, List.set_cons_succ, i64_w, i32_w]
      rfl
     refine pure_ (i := 14) (N := some 85) (v := undef) (a' := ?_) b31_7fff rfl rfl (any_of HT_.out (by kernel_rfl)) (fun _ _ _ h => h) (Or.inr ⟨by rfl, rfl⟩) ?_ ?_
     rotate_left
     ·
      simp only [Act.put, List.setIfInBounds_toArray, List.set_cons_zero, List.set_cons_succ, i64_w, i32_w]
      rfl
     refine pure_ (i := 15) (N := some 86) (v := undef) (a' := ?_) b31_ffff rfl rfl (any_of HT_.out (by kernel_rfl)) (fun _ _ _ h => h) (Or.inr ⟨by rfl, rfl⟩) ?_ ?_
     rotate_left
     ·
      simp only [Act.put, List.setIfInBounds_toArray, List.set_cons_zero, List.set_cons_succ, i64_w, i32_w]
      rfl
     refine pure_ (i := 16) (N := some 87) (v := undef) (a' := ?_) b31_1ffff rfl rfl (any_of HT_.out (by kernel_rfl)) (fun _ _ _ h => h) (Or.inr ⟨by rfl, rfl⟩) ?_ ?_
     rotate_left
     ·
      simp only [Act.put, List.setIfInBounds_toArray, List.set_cons_zero, List.set_cons_succ, i64_w, i32_w]
      rfl
     refine pure_ (i := 17) (N := some 88) (v := undef) (a' := ?_) b31_3ffff rfl rfl (any_of HT_.out (by kernel_rfl)) (fun _ _ _ h => h) (Or.inr ⟨by rfl, rfl⟩) ?_ ?_
     rotate_left
     ·
      simp only [Act.put, List.setIfInBounds_toArray, List.set_cons_zero, List.set_cons_succ, i64_w, i32_w]
      rfl
     refine pure_ (i := 18) (N := some 89) (v := undef) (a' := ?_) b31_7ffff rfl rfl (any_of HT_.out (by kernel_rfl)) (fun _ _ _ h => h) (Or.inr ⟨by rfl, rfl⟩) ?_ ?_
     rotate_left
     ·
      simp only [Act.put, List.setIfInBounds_toArray, List.set_cons_zero, List.set_cons_succ, i64_w, i32_w]
      rfl
     refine pure_ (i := 19) (N := some 90) (v := undef) (a' := ?_) b31_fffff rfl rfl (any_of HT_.out (by kernel_rfl)) (fun _ _ _ h => h) (Or.inr ⟨by rfl, rfl⟩) ?_ ?_
     rotate_left
     ·
      simp only [Act.put, List.setIfInBounds_toArray, List.set_cons_zero, List.set_cons_succ, i64_w, i32_w]
      rfl
     refine pure_ (i := 20) (N := some 91) (v := ?_) (a' := ?_) b31_1fffff rfl rfl (any_of HT_.out (by kernel_rfl)) (fun _ _ _ h => h) (Or.inl ⟨by rfl, ?_⟩) ?_ ?_
     rotate_left
     ·
      intro w'
      go_simp
      with_reducible rfl
     rotate_left
     ·
      simp only [Act.put, List.setIfInBounds_toArray, List.set_cons_zero, List.set_cons_succ, i64_w, i32_w]
      rfl
     refine pure_ (i := 21) (N := some 92) (v := ?_) (a' := ?_) b31_3fffff rfl rfl (any_of HT_.out (by kernel_rfl)) (fun _ _ _ h => h) (Or.inl ⟨by rfl, ?_⟩) ?_ ?_
     rotate_left
     ·
      intro w'
      go_simp
      with_reducible rfl
     rotate_left
     ·
      simp only [Act.put, List.setIfInBounds_toArray, List.set_cons_zero, List.set_cons_succ, i64_w, i32_w]
      rfl
     refine pure_ (i := 22) (N := some 93) (v := undef) (a' := ?_) b31_7fffff rfl rfl (any_of HT_.out (by kernel_rfl)) (fun _ _ _ h => h) (Or.inr ⟨by rfl, rfl⟩) ?_ ?_
     rotate_left
     ·
      simp only [Act.put, List.setIfInBounds_toArray, List.set_cons_zero, List.set_cons_succ, i64_w, i32_w]
      rfl
     refine pure_ (i := 23) (N := some 94) (v := undef) (a' := ?_) b31_ffffff rfl rfl (any_of HT_.out (by kernel_rfl)) (fun _ _ _ h => h) (Or.inr ⟨by rfl, rfl⟩) ?_ ?_
     rotate_left
     ·
      simp only [Act.put, List.setIfInBounds_toArray, List.set_cons_zero, List.set_cons_succ, i64_w, i32_w]
      rfl
     refine pure_ (i := 24) (N := some 95) (v := undef) (a' := ?_) b31_1ffffff rfl rfl (any_of HT_.out (by kernel_rfl)) (fun _ _ _ h => h) (Or.inr ⟨by rfl, rfl⟩) ?_ ?_
     rotate_left
     ·
      simp only [Act.put, List.setIfInBounds_toArray, List.set_cons_zero, List.set_cons_succ, i64_w, i32_w]
      rfl
     refine pure_ (i := 25) (N := some 96) (v := undef) (a' := ?_) b31_3ffffff rfl rfl (any_of HT_.out (by kernel_rfl)) (fun _ _ _ h => h) (Or.inr ⟨by rfl, rfl⟩) ?_ ?_
     rotate_left
     ·
      simp only [Act.put, List.setIfInBounds_toArray, List.set_cons_zero, List.set_cons_succ, i64_w, i32_w]
      rfl
     refine pure_ (i := 26) (N := some 97) (v := undef) (a' := ?_) b31_7ffffff rfl rfl (any_of HT_.out (by kernel_rfl)) (fun _ _ _ h => h) (Or.inr ⟨by rfl, rfl⟩) ?_ ?_
     rotate_left
     ·
      simp only [Act.put, List.setIfInBounds_toArray, List.set_cons_zero, List.set_cons_succ, i64_w, i32_w]
      rfl
     refine pure_ (i := 27) (N := some 98) (v := undef) (a' := ?_) b31_fffffff rfl rfl (any_of HT_.out (by kernel_rfl)) (fun _ _ _ h => h) (Or.inr ⟨by rfl, rfl⟩) ?_ ?_
     rotate_left
     ·
      simp only [Act.put, List.setIfInBounds_toArray, List.set_cons_zero, List.set_cons_succ, i64_w, i32_w]
      rfl
     refine pure_ (i := 28) (N := some 99) (v := undef) (a' := ?_) b31_1fffffff rfl rfl (any_of HT_.out (by kernel_rfl)) (fun _ _ _ h => h) (Or.inr ⟨by rfl, rfl⟩) ?_ ?_
     rotate_left
     ·
      simp only [Act.put, List.setIfInBounds_toArray, List.set_cons_zero, List.set_cons_succ, i64_w, i32_w]
      rfl
     refine pure_ (i := 29) (N := some 100) (v := undef) (a' := ?_) b31_3fffffff rfl rfl (any_of HT_.out (by kernel_rfl)) (fun _ _ _ h => h) (Or.inr ⟨by rfl, rfl⟩) ?_ ?_
     rotate_left
     ·
      simp only [Act.put, List.setIfInBounds_toArray, List.set_cons_zero, List.set_cons_succ, i64_w, i32_w]
      rfl
     refine pure_ (i := 30) (N := some 101) (v := ?_) (a' := ?_) b31_7fffffff rfl rfl (any_of HT_.out (by kernel_rfl)) (fun _ _ _ h => h) (Or.inl ⟨by rfl, ?_⟩) ?_ ?_
     rotate_left
     ·
      intro w'
      go_simp
      with_reducible rfl
     rotate_left
     ·
      simp only [Act.put, List.setIfInBounds_toArray, List.set_cons_zero, List.set_cons_succ, i64_w, i32_w]
      rfl
     refine done_ (done_of HT_.out (by kernel_rfl)) ?_
     have n0_ := Aside0.mk (below_step HB13.out HB.out)
     clear HB HB13
     have HB := n0_
     clear n0_
     obtain rfl := Option.some.inj HE.out
     have hr := HH1.out
     rw [if_neg Bool.false_ne_true] at hr
     obtain rfl := Option.some.inj hr
     clear hr HE HH1
     have hr := H.out
     rw [if_neg Bool.false_ne_true] at hr
     obtain rfl := Option.some.inj hr
     clear hr H
     go_wp2
     go_ret
     exact ⟨rfl, below_step HW.out (by repeat (first | (with_reducible first | exact HB.out | apply below_alloc | apply pw_below_drewN | apply below_drew1) | exact HB.out))⟩
    have d0_0 : ((rd_T67 l1 i).f1.toList == (rd_T67 m1 i).f1.toList) = true := beq_iff_eq.mpr c0
    have d0_1 : ((rd_T67 l1 i).f1.toList != (rd_T67 m1 i).f1.toList) = false := bne_eq_false_iff_eq.mpr c0
    have hr := HE.out
    rw [if_pos c0] at hr
    clear HE c0
    have HE := Aside0.mk hr
    clear hr
    refine pure_ (i := 4) (N := some 75) (v := ?_) (a' := ?_) b31_1f rfl rfl (any_of HT_.out (by kernel_rfl)) (fun _ _ _ h => h) (Or.inl ⟨by rfl, ?_⟩) ?_ ?_
    rotate_left
    ·
     intro w'
     go_simp
     with_reducible rfl
    rotate_left
    ·
     simp only [Act.put, List.setIfInBounds_toArray, List.set_cons_zero, List.set_cons_succ, i64_w, i32_w]
     rfl
    refine pure_ (i := 5) (N := some 76) (v := ?_) (a' := ?_) b31_3f rfl rfl (any_of HT_.out (by kernel_rfl)) (fun _ _ _ h => h) (Or.inl ⟨by rfl, ?_⟩) ?_ ?_
    rotate_left
    ·
     intro w'
     go_simp
     with_reducible rfl
    rotate_left
    ·
     simp only [Act.put, List.setIfInBounds_toArray, List.set_cons_zero, List.set_cons_succ, i64_w, i32_w]
     rfl
    refine pure_ (i := 6) (N := some 77) (v := ?_) (a' := ?_) b31_7f rfl rfl (any_of HT_.out (by kernel_rfl)) (fun _ _ _ h => h) (Or.inl ⟨by rfl, ?_⟩) ?_ ?_
    rotate_left
    ·
     intro w'
     go_simp
     with_reducible rfl
    rotate_left
    ·
     simp only [Act.put, List.setIfInBounds_toArray, List.set_cons_zero, List.set_cons_succ, i64_w, i32_w]
     rfl
    refine pure_ (i := 8) (N := some 79) (v := ?_) (a' := ?_) b31_17f rfl rfl (any_of HT_.out (by kernel_rfl)) (fun _ _ _ h => h) (Or.inl ⟨by rfl, ?_⟩) ?_ ?_
    rotate_left
    ·
     intro w'
     go_simp
     with_reducible rfl
    rotate_left
    ·
     simp only [Act.put, List.setIfInBounds_toArray, List.set_cons_zero, List.set_cons_succ, i64_w, i32_w]
     rfl
    refine take_ (i := 7) (N := some 78) (v := ?_) (a' := ?_) b31_1ff rfl rfl (take_ofW HT_.out HW_.out (by kernel_rfl)) (fun _ _ _ h => h) (Or.inl ⟨by rfl, ?_⟩) HB.out ?_ ?_
    rotate_left
    ·
     intro w' hS
     have s0 := lift_ hS z2
     go_simp
     with_reducible rfl
    rotate_left
    ·
     simp only [Act.put, List.setIfInBounds_toArray, List.set_cons_zero, List.set_cons_succ, i64_w, i32_w]
     rfl
    refine take_ (i := 9) (N := some 80) (v := ?_) (a' := ?_) b31_3ff rfl rfl (take_ofW HT_.out HW_.out (by kernel_rfl)) (fun _ _ _ h => h) (Or.inl ⟨by rfl, ?_⟩) HB.out ?_ ?_
    rotate_left
    ·
     intro w' hS
     have s0 := lift_ hS y2
     go_simp
     with_reducible rfl
    rotate_left
    ·
     simp only [Act.put, List.setIfInBounds_toArray, List.set_cons_zero, List.set_cons_succ, i64_w, i32_w]
     rfl
    obtain ⟨v1, hv, hr⟩ := Option.bind_eq_some_iff.mp HE.out
    have A1_ := Aside0.mk hv
    clear HE hv
    have HE := Aside0.mk hr
    clear hr
    cases v1
    case false =>
     have hr := HE.out
     rw [if_neg Bool.false_ne_true] at hr
     clear HE
     have HE := Aside0.mk hr
     clear hr
     refine one_ (i := 10) (N := some 81) b31_7ff rfl rfl (one_of HT_.out (by kernel_rfl)) (by decide) (fun K hK => ?_)
     refine goes_ Try.func40 (by kernel_rfl) rfl #[.slice aA2 (rd_T67 l1 i).f2.length ac2, .slice bA2 (rd_T67 m1 i).f2.length bc2] (by rfl) rfl rfl (by (try simp only [List.map_toArray, List.map_cons, List.map_nil]); first | done | rfl) ?_
     refine (relayref08_sameNames.calls k _ _ _ _ _ _ _ _ (Kd.C_below (Kd.C_below ahc0 HB13.out) HB.out) ahl0 (Kd.C_below (Kd.C_below bhc0 HB13.out) HB.out) bhl0 A1_.out).mono ?_
     rintro e w' ⟨rfl, hb⟩
     refine ⟨_, rfl, ?_⟩
     replace hb := Drawn0.below hb
     have n0_ := Aside0.mk (below_step HB.out hb)
     clear HB hb
     have HB := n0_
     clear n0_
     refine hK.out _ _ HB.out (fun _ => ?_)
     clear hK K
     refine norm_ (a' := ?_) ?_ ?_
     rotate_left
     ·
      show Act.put _ (some 81) _ = _
      simp only [Act.put, List.setIfInBounds_toArray, List.set_cons_zero, List.set_cons_succ, i64_w, i32_w]
      rfl
     refine pure_ (i := 11) (N := some 82) (v := ?_) (a' := ?_) b31_fff rfl rfl (any_of HT_.out (by kernel_rfl)) (fun _ _ _ h => h) (Or.inl ⟨by rfl, ?_⟩) ?_ ?_
     rotate_left
     ·
      intro w'
      go_simp
      with_reducible rfl
     rotate_left
     ·
      simp only [Act.put, List.setIfInBounds_toArray, List.set_cons_zero, List.set_cons_succ, i64_w, i32_w]
      rfl
     refine pure_ (i := 12) (N := some 83) (v := ?_) (a' := ?_) b31_1fff rfl rfl (any_of HT_.out (by kernel_rfl)) (fun _ _ _ h => h) (Or.inl ⟨by rfl, ?_⟩) ?_ ?_
     rotate_left
     ·
      intro w'
      go_simp
      with_reducible rfl
     rotate_left
     ·
      simp only [Act.put, List.setIfInBounds_toArray, List.set_cons_zero, List.set_cons_succ, i64_w, i32_w]
      rfl
     refine pure_ (i := 13) (N := some 84) (v := ?_) (a' := ?_) b31_3fff rfl rfl (any_of HT_.out (by kernel_rfl)) (fun _ _ _ h => h) (Or.inl ⟨by rfl, ?_⟩) ?_ ?_
     rotate_left
     ·
      intro w'
      go_simp
      with_reducible rfl
     rotate_left
     ·
      simp only [Act.put, List.setIfInBounds_toArray, List.set_cons_zero, List.set_cons_succ, i64_w, i32_w]
      rfl
     refine pure_ (i := 14) (N := some 85) (v := undef) (a' := ?_) b31_7fff rfl rfl (any_of HT_.out (by kernel_rfl)) (fun _ _ _ h => h) (Or.inr ⟨by rfl, rfl⟩) ?_ ?_
     rotate_left
     ·
      simp only [Act.put, List.setIfInBounds_toArray, List.set_cons_zero, List.set_cons_succ, i64_w, i32_w]
      rfl
     refine pure_ (i := 15) (N := some 86) (v := undef) (a' := ?_) b31_ffff rfl rfl (any_of HT_.out (by kernel_rfl)) (fun _ _ _ h => h) (Or.inr ⟨by rfl, rfl⟩) ?_ ?_
     rotate_left
     ·
      simp only [Act.put, List.setIfInBounds_toArray, List.set_cons_zero, List.set_cons_succ, i64_w, i32_w]
      rfl
     refine pure_ (i := 16) (N := some 87) (v := undef) (a' := ?_) b31_1ffff rfl rfl (any_of HT_.out (by kernel_rfl)) (fun _ _ _ h => h) (Or.inr ⟨by rfl, rfl⟩) ?_ ?_
     rotate_left
     ·
      simp only [Act.put, List.setIfInBounds_toArray, List.set_cons_zero, List.set_cons_succ, i64_w, i32_w]
      rfl
     refine pure_ (i := 17) (N := some 88) (v := undef) (a' := ?_) b31_3ffff rfl rfl (any_of HT_.out (by kernel_rfl)) (fun _ _ _ h => h) (Or.inr ⟨by rfl, rfl⟩) ?_ ?_
     rotate_left
     ·
      simp only [Act.put, List.setIfInBounds_toArray, List.set_cons_zero, List.set_cons_succ, i64_w, i32_w]
      rfl
     refine pure_ (i := 18) (N := some 89) (v := undef) (a' := ?_) b31_7ffff rfl rfl (any_of HT_.out (by kernel_rfl)) (fun _ _ _ h => h) (Or.inr ⟨by rfl, rfl⟩) ?_ ?_
     rotate_left
     ·
      simp only [Act.put, List.setIfInBounds_toArray, List.set_cons_zero, List.set_cons_succ, i64_w, i32_w]
      rfl
     refine pure_ (i := 19) (N := some 90) (v := undef) (a' := ?_) b31_fffff rfl rfl (any_of HT_.out (by kernel_rfl)) (fun _ _ _ h => h) (Or.inr ⟨by rfl, rfl⟩) ?_ ?_
     rotate_left
     ·
      simp only [Act.put, List.setIfInBounds_toArray, List.set_cons_zero, List.set_cons_succ, i64_w, i32_w]
      rfl
     refine pure_ (i := 20) (N := some 91) (v := ?_) (a' := ?_) b31_1fffff rfl rfl (any_of HT_.out (by kernel_rfl)) (fun _ _ _ h => h) (Or.inl ⟨by rfl, ?_⟩) ?_ ?_
     rotate_left
     ·
      intro w'
      go_simp
      with_reducible rfl
     rotate_left
     ·
      simp only [Act.put, List.setIfInBounds_toArray, List.set_cons_zero, List.set_cons_succ, i64_w, i32_w]
      rfl
     refine pure_ (i := 21) (N := some 92) (v := ?_) (a' := ?_) b31_3fffff rfl rfl (any_of HT_.out (by kernel_rfl)) (fun _ _ _ h => h) (Or.inl ⟨by rfl, ?_⟩) ?_ ?_
     rotate_left
     ·
      intro w'
      go_simp
      with_reducible rfl
     rotate_left
     ·
      simp only [Act.put, List.setIfInBounds_toArray, List.set_cons_zero, List.set_cons_succ, i64_w, i32_w]
      rfl
     refine pure_ (i := 22) (N := some 93) (v := undef) (a' := ?_) b31_7fffff rfl rfl (any_of HT_.out (by kernel_rfl)) (fun _ _ _ h => h) (Or.inr ⟨by rfl, rfl⟩) ?_ ?_
     rotate_left
     ·
      simp only [Act.put, List.setIfInBounds_toArray, List.set_cons_zero, List.set_cons_succ, i64_w, i32_w]
      rfl
     refine pure_ (i := 23) (N := some 94) (v := undef) (a' := ?_) b31_ffffff rfl rfl (any_of HT_.out (by kernel_rfl)) (fun _ _ _ h => h) (Or.inr ⟨by rfl, rfl⟩) ?_ ?_
     rotate_left
     ·
      simp only [Act.put, List.setIfInBounds_toArray, List.set_cons_zero, List.set_cons_succ, i64_w, i32_w]
      rfl
     refine pure_ (i := 24) (N := some 95) (v := undef) (a' := ?_) b31_1ffffff rfl rfl (any_of HT_.out (by kernel_rfl)) (fun _ _ _ h => h) (Or.inr ⟨by rfl, rfl⟩) ?_ ?_
     rotate_left
     ·
      simp only [Act.put, List.setIfInBounds_toArray, List.set_cons_zero, List.set_cons_succ, i64_w, i32_w]
      rfl
     refine pure_ (i := 25) (N := some 96) (v := undef) (a' := ?_) b31_3ffffff rfl rfl (any_of HT_.out (by kernel_rfl)) (fun _ _ _ h => h) (Or.inr ⟨by rfl, rfl⟩) ?_ ?_
     rotate_left
     ·
      simp only [Act.put, List.setIfInBounds_toArray, List.set_cons_zero, List.set_cons_succ, i64_w, i32_w]
      rfl
     refine pure_ (i := 26) (N := some 97) (v := undef) (a' := ?_) b31_7ffffff rfl rfl (any_of HT_.out (by kernel_rfl)) (fun _ _ _ h => h) (Or.inr ⟨by rfl, rfl⟩) ?_ ?_
     rotate_left
     ·
      simp only [Act.put, List.setIfInBounds_toArray, List.set_cons_zero, List.set_cons_succ, i64_w, i32_w]
      rfl
     refine pure_ (i := 27) (N := some 98) (v := undef) (a' := ?_) b31_fffffff rfl rfl (any_of HT_.out (by kernel_rfl)) (fun _ _ _ h => h) (Or.inr ⟨by rfl, rfl⟩) ?_ ?_
     rotate_left
     ·
      simp only [Act.put, List.setIfInBounds_toArray, List.set_cons_zero, List.set_cons_succ, i64_w, i32_w]
      rfl
     refine pure_ (i := 28) (N := some 99) (v := undef) (a' := ?_) b31_1fffffff rfl rfl (any_of HT_.out (by kernel_rfl)) (fun _ _ _ h => h) (Or.inr ⟨by rfl, rfl⟩) ?_ ?_
     rotate_left
     ·
      simp only [Act.put, List.setIfInBounds_toArray, List.set_cons_zero, List.set_cons_succ, i64_w, i32_w]
      rfl
     refine pure_ (i := 29) (N := some 100) (v := undef) (a' := ?_) b31_3fffffff rfl rfl (any_of HT_.out (by kernel_rfl)) (fun _ _ _ h => h) (Or.inr ⟨by rfl, rfl⟩) ?_ ?_
     rotate_left
     ·
      simp only [Act.put, List.setIfInBounds_toArray, List.set_cons_zero, List.set_cons_succ, i64_w, i32_w]
      rfl
     refine pure_ (i := 30) (N := some 101) (v := ?_) (a' := ?_) b31_7fffffff rfl rfl (any_of HT_.out (by kernel_rfl)) (fun _ _ _ h => h) (Or.inl ⟨by rfl, ?_⟩) ?_ ?_
     rotate_left
     ·
      intro w'
      go_simp
      with_reducible rfl
     rotate_left
     ·
      simp only [Act.put, List.setIfInBounds_toArray, List.set_cons_zero, List.set_cons_succ, i64_w, i32_w]
      rfl
     refine done_ (done_of HT_.out (by kernel_rfl)) ?_
     have n0_ := Aside0.mk (below_step HB13.out HB.out)
     clear HB HB13
     have HB := n0_
     clear n0_
     obtain rfl := Option.some.inj HE.out
     have hr := HH1.out
     rw [if_neg Bool.false_ne_true] at hr
     obtain rfl := Option.some.inj hr
     clear hr HE HH1
     have hr := H.out
     rw [if_neg Bool.false_ne_true] at hr
     obtain rfl := Option.some.inj hr
     clear hr H
     go_wp2
     go_ret
     exact ⟨rfl, below_step HW.out (by repeat (first | (with_reducible first | exact HB.out | apply below_alloc | apply pw_below_drewN | apply below_drew1) | exact HB.out))⟩
    have hr := HE.out
    rw [if_pos rfl] at hr
    clear HE
    have HE := Aside0.mk hr
    clear hr
    refine one_ (i := 10) (N := some 81) b31_7ff rfl rfl (one_of HT_.out (by kernel_rfl)) (by decide) (fun K hK => ?_)
    refine goes_ Try.func40 (by kernel_rfl) rfl #[.slice aA2 (rd_T67 l1 i).f2.length ac2, .slice bA2 (rd_T67 m1 i).f2.length bc2] (by rfl) rfl rfl (by (try simp only [List.map_toArray, List.map_cons, List.map_nil]); first | done | rfl) ?_
    refine (relayref08_sameNames.calls k _ _ _ _ _ _ _ _ (Kd.C_below (Kd.C_below ahc0 HB13.out) HB.out) ahl0 (Kd.C_below (Kd.C_below bhc0 HB13.out) HB.out) bhl0 A1_.out).mono ?_
    rintro e w' ⟨rfl, hb⟩
    refine ⟨_, rfl, ?_⟩
    replace hb := Drawn0.below hb
    have n0_ := Aside0.mk (below_step HB.out hb)
    clear HB hb
    have HB := n0_
    clear n0_
    refine hK.out _ _ HB.out (fun _ => ?_)
    clear hK K
    refine norm_ (a' := ?_) ?_ ?_
    rotate_left
    ·
     show Act.put _ (some 81) _ = _
     simp only [Act.put, List.setIfInBounds_toArray, List.set_cons_zero, List.set_cons_succ, i64_w, i32_w]
     rfl
    refine pure_ (i := 11) (N := some 82) (v := ?_) (a' := ?_) b31_fff rfl rfl (any_of HT_.out (by kernel_rfl)) (fun _ _ _ h => h) (Or.inl ⟨by rfl, ?_⟩) ?_ ?_
    rotate_left
    ·
     intro w'
     go_simp
     with_reducible rfl
    rotate_left
    ·
     simp only [Act.put, List.setIfInBounds_toArray, List.set_cons_zero, List.set_cons_succ, i64_w, i32_w]
     rfl
    refine pure_ (i := 12) (N := some 83) (v := ?_) (a' := ?_) b31_1fff rfl rfl (any_of HT_.out (by kernel_rfl)) (fun _ _ _ h => h) (Or.inl ⟨by rfl, ?_⟩) ?_ ?_
    rotate_left
    ·
     intro w'
     go_simp
     with_reducible rfl
    rotate_left
    ·
     simp only [Act.put, List.setIfInBounds_toArray, List.set_cons_zero, List.set_cons_succ, i64_w, i32_w]
     rfl
    refine pure_ (i := 13) (N := some 84) (v := ?_) (a' := ?_) b31_3fff rfl rfl (any_of HT_.out (by kernel_rfl)) (fun _ _ _ h => h) (Or.inl ⟨by rfl, ?_⟩) ?_ ?_
    rotate_left
    ·
     intro w'
     go_simp
     with_reducible rfl
    rotate_left
    ·
     simp only [Act.put, List.setIfInBounds_toArray, List.set_cons_zero, List.set_cons_succ, i64_w, i32_w]
     rfl
    refine pure_ (i := 14) (N := some 85) (v := ?_) (a' := ?_) b31_7fff rfl rfl (any_of HT_.out (by kernel_rfl)) (fun _ _ _ h => h) (Or.inl ⟨by rfl, ?_⟩) ?_ ?_
    rotate_left
    ·
     intro w'
     go_simp
     with_reducible rfl
    rotate_left
    ·
     simp only [Act.put, List.setIfInBounds_toArray, List.set_cons_zero, List.set_cons_succ, i64_w, i32_w]
     rfl
    refine pure_ (i := 16) (N := some 87) (v := ?_) (a' := ?_) b31_17fff rfl rfl (any_of HT_.out (by kernel_rfl)) (fun _ _ _ h => h) (Or.inl ⟨by rfl, ?_⟩) ?_ ?_
    rotate_left
    ·
     intro w'
     go_simp
     with_reducible rfl
    rotate_left
    ·
     simp only [Act.put, List.setIfInBounds_toArray, List.set_cons_zero, List.set_cons_succ, i64_w, i32_w]
     rfl
    refine take_ (i := 15) (N := some 86) (v := ?_) (a' := ?_) b31_1ffff rfl rfl (take_ofW HT_.out HW_.out (by kernel_rfl)) (fun _ _ _ h => h) (Or.inl ⟨by rfl, ?_⟩) HB.out ?_ ?_
    rotate_left
    ·
     intro w' hS
     have s0 := lift_ hS z3
     go_simp
     with_reducible rfl
    rotate_left
    ·
     simp only [Act.put, List.setIfInBounds_toArray, List.set_cons_zero, List.set_cons_succ, i64_w, i32_w]
     rfl
    refine take_ (i := 17) (N := some 88) (v := ?_) (a' := ?_) b31_3ffff rfl rfl (take_ofW HT_.out HW_.out (by kernel_rfl)) (fun _ _ _ h => h) (Or.inl ⟨by rfl, ?_⟩) HB.out ?_ ?_
    rotate_left
    ·
     intro w' hS
     have s0 := lift_ hS y3
     go_simp
     with_reducible rfl
    rotate_left
    ·
     simp only [Act.put, List.setIfInBounds_toArray, List.set_cons_zero, List.set_cons_succ, i64_w, i32_w]
     rfl
    obtain ⟨v2, hv, hr⟩ := Option.bind_eq_some_iff.mp HE.out
    have A2_ := Aside0.mk hv
    clear HE hv
    have HE := Aside0.mk hr
    clear hr
    cases v2
    case false =>
     have hr := HE.out
     rw [if_neg Bool.false_ne_true] at hr
     clear HE
     have HE := Aside0.mk hr
     clear hr
     refine one_ (i := 18) (N := some 89) b31_7ffff rfl rfl (one_of HT_.out (by kernel_rfl)) (by decide) (fun K hK => ?_)
     refine goes_ Try.func40 (by kernel_rfl) rfl #[.slice aA3 (rd_T67 l1 i).f3.length ac3, .slice bA3 (rd_T67 m1 i).f3.length bc3] (by rfl) rfl rfl (by (try simp only [List.map_toArray, List.map_cons, List.map_nil]); first | done | rfl) ?_
     refine (relayref08_sameNames.calls k _ _ _ _ _ _ _ _ (Kd.C_below (Kd.C_below ahc1 HB13.out) HB.out) ahl1 (Kd.C_below (Kd.C_below bhc1 HB13.out) HB.out) bhl1 A2_.out).mono ?_
     rintro e w' ⟨rfl, hb⟩
     refine ⟨_, rfl, ?_⟩
     replace hb := Drawn0.below hb
     have n0_ := Aside0.mk (below_step HB.out hb)
     clear HB hb
     have HB := n0_
     clear n0_
     refine hK.out _ _ HB.out (fun _ => ?_)
     clear hK K
     refine norm_ (a' := ?_) ?_ ?_
     rotate_left
     ·
      show Act.put _ (some 89) _ = _
      simp only [Act.put, List.setIfInBounds_toArray, List.set_cons_zero, List.set_cons_succ, i64_w, i32_w]
      rfl
     refine pure_ (i := 19) (N := some 90) (v := ?_) (a' := ?_) b31_fffff rfl rfl (any_of HT_.out (by kernel_rfl)) (fun _ _ _ h => h) (Or.inl ⟨by rfl, ?_⟩) ?_ ?_
     rotate_left
     ·
      intro w'
      go_simp
      with_reducible rfl
     rotate_left
     ·
      simp only [Act.put, List.setIfInBounds_toArray, List.set_cons_zero, List.set_cons_succ, i64_w, i32_w]
      rfl
     refine pure_ (i := 20) (N := some 91) (v := ?_) (a' := ?_) b31_1fffff rfl rfl (any_of HT_.out (by kernel_rfl)) (fun _ _ _ h => h) (Or.inl ⟨by rfl, ?_⟩) ?_ ?_
     rotate_left
     ·
      intro w'
      go_simp
      with_reducible rfl
     rotate_left
     ·
      simp only [Act.put, List.setIfInBounds_toArray, List.set_cons_zero, List.set_cons_succ, i64_w, i32_w]
      rfl
     refine pure_ (i := 21) (N := some 92) (v := ?_) (a' := ?_) b31_3fffff rfl rfl (any_of HT_.out (by kernel_rfl)) (fun _ _ _ h => h) (Or.inl ⟨by rfl, ?_⟩) ?_ ?_
     rotate_left
     ·
      intro w'
      go_simp
      with_reducible rfl
     rotate_left
     ·
      simp only [Act.put, List.setIfInBounds_toArray, List.set_cons_zero, List.set_cons_succ, i64_w, i32_w]
      rfl
     refine pure_ (i := 22) (N := some 93) (v := undef) (a' := ?_) b31_7fffff rfl rfl (any_of HT_.out (by kernel_rfl)) (fun _ _ _ h => h) (Or.inr ⟨by rfl, rfl⟩) ?_ ?_
     rotate_left
     ·
      simp only [Act.put, List.setIfInBounds_toArray, List.set_cons_zero, List.set_cons_succ, i64_w, i32_w]
      rfl
     refine pure_ (i := 23) (N := some 94) (v := undef) (a' := ?_) b31_ffffff rfl rfl (any_of HT_.out (by kernel_rfl)) (fun _ _ _ h => h) (Or.inr ⟨by rfl, rfl⟩) ?_ ?_
     rotate_left
     ·
      simp only [Act.put, List.setIfInBounds_toArray, List.set_cons_zero, List.set_cons_succ, i64_w, i32_w]
      rfl
     refine pure_ (i := 24) (N := some 95) (v := undef) (a' := ?_) b31_1ffffff rfl rfl (any_of HT_.out (by kernel_rfl)) (fun _ _ _ h => h) (Or.inr ⟨by rfl, rfl⟩) ?_ ?_
     rotate_left
     ·
      simp only [Act.put, List.setIfInBounds_toArray, List.set_cons_zero, List.set_cons_succ, i64_w, i32_w]
      rfl
     refine pure_ (i := 25) (N := some 96) (v := undef) (a' := ?_) b31_3ffffff rfl rfl (any_of HT_.out (by kernel_rfl)) (fun _ _ _ h => h) (Or.inr ⟨by rfl, rfl⟩) ?_ ?_
     rotate_left
     ·
      simp only [Act.put, List.setIfInBounds_toArray, List.set_cons_zero, List.set_cons_succ, i64_w, i32_w]
      rfl
     refine pure_ (i := 26) (N := some 97) (v := undef) (a' := ?_) b31_7ffffff rfl rfl (any_of HT_.out (by kernel_rfl)) (fun _ _ _ h => h) (Or.inr ⟨by rfl, rfl⟩) ?_ ?_
     rotate_left
     ·
      simp only [Act.put, List.setIfInBounds_toArray, List.set_cons_zero, List.set_cons_succ, i64_w, i32_w]
      rfl
     refine pure_ (i := 27) (N := some 98) (v := undef) (a' := ?_) b31_fffffff rfl rfl (any_of HT_.out (by kernel_rfl)) (fun _ _ _ h => h) (Or.inr ⟨by rfl, rfl⟩) ?_ ?_
     rotate_left
     ·
      simp only [Act.put, List.setIfInBounds_toArray, List.set_cons_zero, List.set_cons_succ, i64_w, i32_w]
      rfl
     refine pure_ (i := 28) (N := some 99) (v := undef) (a' := ?_) b31_1fffffff rfl rfl (any_of HT_.out (by kernel_rfl)) (fun _ _ _ h => h) (Or.inr ⟨by rfl, rfl⟩) ?_ ?_
     rotate_left
     ·
      simp only [Act.put, List.setIfInBounds_toArray, List.set_cons_zero, List.set_cons_succ, i64_w, i32_w]
      rfl
     refine pure_ (i := 29) (N := some 100) (v := undef) (a' := ?_) b31_3fffffff rfl rfl (any_of HT_.out (by kernel_rfl)) (fun _ _ _ h => h) (Or.inr ⟨by rfl, rfl⟩) ?_ ?_
     rotate_left
     ·
      simp only [Act.put, List.setIfInBounds_toArray, List.set_cons_zero, List.set_cons_succ, i64_w, i32_w]
      rfl
     refine pure_ (i := 30) (N := some 101) (v := ?_) (a' := ?_) b31_7fffffff rfl rfl (any_of HT_.out (by kernel_rfl)) (fun _ _ _ h => h) (Or.inl ⟨by rfl, ?_⟩) ?_ ?_
     rotate_left
     ·
      intro w'
      go_simp
      with_reducible rfl
     rotate_left
     ·
      simp only [Act.put, List.setIfInBounds_toArray, List.set_cons_zero, List.set_cons_succ, i64_w, i32_w]
      rfl
     refine done_ (done_of HT_.out (by kernel_rfl)) ?_
     have n0_ := Aside0.mk (below_step HB13.out HB.out)
     clear HB HB13
     have HB := n0_
     clear n0_
     obtain rfl := Option.some.inj HE.out
     have hr := HH1.out
     rw [if_neg Bool.false_ne_true] at hr
     obtain rfl := Option.some.inj hr
     clear hr HE HH1
     have hr := H.out
     rw [if_neg Bool.false_ne_true] at hr
     obtain rfl := Option.some.inj hr
     clear hr H
     go_wp2
     go_ret
     exact ⟨rfl, below_step HW.out (by repeat (first | (with_reducible first | exact HB.out | apply below_alloc | apply pw_below_drewN | apply below_drew1) | exact HB.out))⟩
    have hr := HE.out
    rw [if_pos rfl] at hr
    clear HE
    have HE := Aside0.mk hr
    clear hr
    refine one_ (i := 18) (N := some 89) b31_7ffff rfl rfl (one_of HT_.out (by kernel_rfl)) (by decide) (fun K hK => ?_)
    refine goes_ Try.func40 (by kernel_rfl) rfl #[.slice aA3 (rd_T67 l1 i).f3.length ac3, .slice bA3 (rd_T67 m1 i).f3.length bc3] (by rfl) rfl rfl (by (try simp only [List.map_toArray, List.map_cons, List.map_nil]); first | done | rfl) ?_
    refine (relayref08_sameNames.calls k _ _ _ _ _ _ _ _ (Kd.C_below (Kd.C_below ahc1 HB13.out) HB.out) ahl1 (Kd.C_below (Kd.C_below bhc1 HB13.out) HB.out) bhl1 A2_.out).mono ?_
    rintro e w' ⟨rfl, hb⟩
    refine ⟨_, rfl, ?_⟩
    replace hb := Drawn0.below hb
    have n0_ := Aside0.mk (below_step HB.out hb)
    clear HB hb
    have HB := n0_
    clear n0_
    refine hK.out _ _ HB.out (fun _ => ?_)
    clear hK K
    refine norm_ (a' := ?_) ?_ ?_
    rotate_left
    ·
     show Act.put _ (some 89) _ = _
     simp only [Act.put, List.setIfInBounds_toArray, List.set_cons_zero, List.set_cons_succ, i64_w, i32_w]
     rfl
    refine pure_ (i := 19) (N := some 90) (v := ?_) (a' := ?_) b31_fffff rfl rfl (any_of HT_.out (by kernel_rfl)) (fun _ _ _ h => h) (Or.inl ⟨by rfl, ?_⟩) ?_ ?_
    rotate_left
    ·
     intro w'
     go_simp
     with_reducible rfl
    rotate_left
    ·
     simp only [Act.put, List.setIfInBounds_toArray, List.set_cons_zero, List.set_cons_succ, i64_w, i32_w]
     rfl
    refine pure_ (i := 20) (N := some 91) (v := ?_) (a' := ?_) b31_1fffff rfl rfl (any_of HT_.out (by kernel_rfl)) (fun _ _ _ h => h) (Or.inl ⟨by rfl, ?_⟩) ?_ ?_
    rotate_left
    ·
     intro w'
     go_simp
     with_reducible rfl
    rotate_left
    ·
     simp only [Act.put, List.setIfInBounds_toArray, List.set_cons_zero, List.set_cons_succ, i64_w, i32_w]
     rfl
    refine pure_ (i := 21) (N := some 92) (v := ?_) (a' := ?_) b31_3fffff rfl rfl (any_of HT_.out (by kernel_rfl)) (fun _ _ _ h => h) (Or.inl ⟨by rfl, ?_⟩) ?_ ?_
    rotate_left
    ·
     intro w'
     go_simp
     with_reducible rfl
    rotate_left
    ·
     simp only [Act.put, List.setIfInBounds_toArray, List.set_cons_zero, List.set_cons_succ, i64_w, i32_w]
     rfl
    refine pure_ (i := 22) (N := some 93) (v := ?_) (a' := ?_) b31_7fffff rfl rfl (any_of HT_.out (by kernel_rfl)) (fun _ _ _ h => h) (Or.inl ⟨by rfl, ?_⟩) ?_ ?_
    rotate_left
    ·
     intro w'
     go_simp
     with_reducible rfl
    rotate_left
    ·
     simp only [Act.put, List.setIfInBounds_toArray, List.set_cons_zero, List.set_cons_succ, i64_w, i32_w]
     rfl
    refine pure_ (i := 25) (N := some 96) (v := ?_) (a' := ?_) b31_27fffff rfl rfl (any_of HT_.out (by kernel_rfl)) (fun _ _ _ h => h) (Or.inl ⟨by rfl, ?_⟩) ?_ ?_
    rotate_left
    ·
     intro w'
     go_simp
     with_reducible rfl
    rotate_left
    ·
     simp only [Act.put, List.setIfInBounds_toArray, List.set_cons_zero, List.set_cons_succ, i64_w, i32_w]
     rfl
    refine take_ (i := 23) (N := some 94) (v := ?_) (a' := ?_) b31_2ffffff rfl rfl (take_ofW HT_.out HW_.out (by kernel_rfl)) (fun _ _ _ h => h) (Or.inl ⟨by rfl, ?_⟩) HB.out ?_ ?_
    rotate_left
    ·
     intro w' hS
     have s0 := lift_ hS z4
     have s1 := lift_ hS z5
     have s2 := lift_ hS z6
     have s3 := lift_ hS z7
     have s4 := lift_ hS z8
     have s5 := lift_ hS z9
     have s6 := lift_ hS z10
     have s7 := lift_ hS z11
     have s8 := lift_ hS z12
     have s9 := lift_ hS z13
     have s10 := lift_ hS z14
     have s11 := lift_ hS z15
     have s12 := lift_ hS z16
     have s13 := lift_ hS z17
     go_simp
     with_reducible rfl
    rotate_left
    ·
     simp only [Act.put, List.setIfInBounds_toArray, List.set_cons_zero, List.set_cons_succ, i64_w, i32_w]
     rfl
    refine take_ (i := 26) (N := some 97) (v := ?_) (a' := ?_) b31_6ffffff rfl rfl (take_ofW HT_.out HW_.out (by kernel_rfl)) (fun _ _ _ h => h) (Or.inl ⟨by rfl, ?_⟩) HB.out ?_ ?_
    rotate_left
    ·
     intro w' hS
     have s0 := lift_ hS y4
     have s1 := lift_ hS y5
     have s2 := lift_ hS y6
     have s3 := lift_ hS y7
     have s4 := lift_ hS y8
     have s5 := lift_ hS y9
     have s6 := lift_ hS y10
     have s7 := lift_ hS y11
     have s8 := lift_ hS y12
     have s9 := lift_ hS y13
     have s10 := lift_ hS y14
     have s11 := lift_ hS y15
     have s12 := lift_ hS y16
     have s13 := lift_ hS y17
     go_simp
     with_reducible rfl
    rotate_left
    ·
     simp only [Act.put, List.setIfInBounds_toArray, List.set_cons_zero, List.set_cons_succ, i64_w, i32_w]
     rfl
    refine one_ (i := 24) (N := some 95) b31_7ffffff rfl rfl (one_of HT_.out (by kernel_rfl)) (by decide) (fun K hK => ?_)
    refine goes_ Try.func41 (by kernel_rfl) rfl #[.agg #[.int .i64 (rd_T67 l1 i).f4.f0, .int .i64 (rd_T67 l1 i).f4.f1, .string (rd_T67 l1 i).f4.f2, .string (rd_T67 l1 i).f4.f3, .int .u8 (rd_T67 l1 i).f4.f4.f0, .int .u64 (rd_T67 l1 i).f4.f4.f1, .string (rd_T67 l1 i).f4.f4.f2, .slice aA11 (rd_T67 l1 i).f4.f5.length ac11, .slice aA12 (rd_T67 l1 i).f4.f6.length ac12, .int .u8 (rd_T67 l1 i).f4.f7, .int .i64 (rd_T67 l1 i).f4.f8, .int .i64 (rd_T67 l1 i).f4.f9, .int .i64 (rd_T67 l1 i).f4.f10, .int .i64 (rd_T67 l1 i).f4.f11]] (by rfl) rfl rfl (by (try simp only [List.map_toArray, List.map_cons, List.map_nil]); first | done | rfl) ?_
    refine (relayref08_held.calls (rd_T67 l1 i).f4 _ _ _ _ _ (Kd.C_below (Kd.C_below ahc2 HB13.out) HB.out) ahl2 (Kd.C_below (Kd.C_below ahc3 HB13.out) HB.out) ahl3).mono ?_
    rintro e w' ⟨gh1, rfl, hk, hb⟩
    refine ⟨_, rfl, ?_⟩
    have HK1 := Aside0.mk hk
    clear hk
    have n0_ := Aside0.mk (below_step HB.out hb)
    clear HB hb
    have HB := n0_
    clear n0_
    refine hK.out _ _ HB.out (fun _ => ?_)
    clear hK K
    refine norm_ (a' := ?_) ?_ ?_
    rotate_left
    ·
     show Act.put _ (some 95) _ = _
     simp only [Act.put, List.setIfInBounds_toArray, List.set_cons_zero, List.set_cons_succ, i64_w, i32_w]
     rfl
    refine one_ (i := 27) (N := some 98) b31_fffffff rfl rfl (one_of HT_.out (by kernel_rfl)) (by decide) (fun K hK => ?_)
    refine goes_ Try.func41 (by kernel_rfl) rfl #[.agg #[.int .i64 (rd_T67 m1 i).f4.f0, .int .i64 (rd_T67 m1 i).f4.f1, .string (rd_T67 m1 i).f4.f2, .string (rd_T67 m1 i).f4.f3, .int .u8 (rd_T67 m1 i).f4.f4.f0, .int .u64 (rd_T67 m1 i).f4.f4.f1, .string (rd_T67 m1 i).f4.f4.f2, .slice bA11 (rd_T67 m1 i).f4.f5.length bc11, .slice bA12 (rd_T67 m1 i).f4.f6.length bc12, .int .u8 (rd_T67 m1 i).f4.f7, .int .i64 (rd_T67 m1 i).f4.f8, .int .i64 (rd_T67 m1 i).f4.f9, .int .i64 (rd_T67 m1 i).f4.f10, .int .i64 (rd_T67 m1 i).f4.f11]] (by rfl) rfl rfl (by (try simp only [List.map_toArray, List.map_cons, List.map_nil]); first | done | rfl) ?_
    refine (relayref08_held.calls (rd_T67 m1 i).f4 _ _ _ _ _ (Kd.C_below (Kd.C_below bhc2 HB13.out) HB.out) bhl2 (Kd.C_below (Kd.C_below bhc3 HB13.out) HB.out) bhl3).mono ?_
    rintro e w' ⟨gh2, rfl, hk, hb⟩
    refine ⟨_, rfl, ?_⟩
    have n2_ := Aside0.mk (Kd.C_below HK1.out hb)
    clear HK1
    have HK1 := n2_
    have HK2 := Aside0.mk hk
    clear hk n2_
    have n0_ := Aside0.mk (below_step HB.out hb)
    clear HB hb
    have HB := n0_
    clear n0_
    refine hK.out _ _ HB.out (fun _ => ?_)
    clear hK K
    refine norm_ (a' := ?_) ?_ ?_
    rotate_left
    ·
     show Act.put _ (some 98) _ = _
     simp only [Act.put, List.setIfInBounds_toArray, List.set_cons_zero, List.set_cons_succ, i64_w, i32_w]
     rfl
    obtain ⟨v3, hv, hr⟩ := Option.bind_eq_some_iff.mp HE.out
    have A3_ := Aside0.mk hv
    clear HE hv
    have HE := Aside0.mk hr
    clear hr
    cases v3
    case false =>
     have hr := HE.out
     rw [if_neg Bool.false_ne_true] at hr
     clear HE
     have HE := Aside0.mk hr
     clear hr
     refine one_ (i := 28) (N := some 99) b31_1fffffff rfl rfl (one_of HT_.out (by kernel_rfl)) (by decide) (fun K hK => ?_)
     refine goes_ Try.func11 (by kernel_rfl) rfl #[.slice (some ⟨gh1, 0, none⟩) 1 1, .slice (some ⟨gh2, 0, none⟩) 1 1] (by rfl) rfl rfl (by (try simp only [List.map_toArray, List.map_cons, List.map_nil]); first | done | rfl) ?_
     refine (relayref05_Same.calls k _ 1 [stmtOf 12 (rd_T67 l1 i).f4] _ 1 [stmtOf 12 (rd_T67 m1 i).f4] _ _ HK1.out (Nat.le_refl 1) HK2.out (Nat.le_refl 1) A3_.out).mono ?_
     rintro e w' ⟨rfl, hb⟩
     refine ⟨_, rfl, ?_⟩
     have n0_ := Aside0.mk (below_step HB.out hb)
     clear HB hb
     have HB := n0_
     clear n0_
     refine hK.out _ _ HB.out (fun _ => ?_)
     clear hK K
     refine norm_ (a' := ?_) ?_ ?_
     rotate_left
     ·
      show Act.put _ (some 99) _ = _
      simp only [Act.put, List.setIfInBounds_toArray, List.set_cons_zero, List.set_cons_succ, i64_w, i32_w]
      rfl
     refine pure_ (i := 29) (N := some 100) (v := ?_) (a' := ?_) b31_3fffffff rfl rfl (any_of HT_.out (by kernel_rfl)) (fun _ _ _ h => h) (Or.inl ⟨by rfl, ?_⟩) ?_ ?_
     rotate_left
     ·
      intro w'
      go_simp
      with_reducible rfl
     rotate_left
     ·
      simp only [Act.put, List.setIfInBounds_toArray, List.set_cons_zero, List.set_cons_succ, i64_w, i32_w]
      rfl
     refine pure_ (i := 30) (N := some 101) (v := ?_) (a' := ?_) b31_7fffffff rfl rfl (any_of HT_.out (by kernel_rfl)) (fun _ _ _ h => h) (Or.inl ⟨by rfl, ?_⟩) ?_ ?_
     rotate_left
     ·
      intro w'
      go_simp
      with_reducible rfl
     rotate_left
     ·
      simp only [Act.put, List.setIfInBounds_toArray, List.set_cons_zero, List.set_cons_succ, i64_w, i32_w]
      rfl
     refine done_ (done_of HT_.out (by kernel_rfl)) ?_
     have n0_ := Aside0.mk (below_step HB13.out HB.out)
     clear HB HB13
     have HB := n0_
     clear n0_
     obtain rfl := Option.some.inj HE.out
     have hr := HH1.out
     rw [if_neg Bool.false_ne_true] at hr
     obtain rfl := Option.some.inj hr
     clear hr HE HH1
     have hr := H.out
     rw [if_neg Bool.false_ne_true] at hr
     obtain rfl := Option.some.inj hr
     clear hr H
     go_wp2
     go_ret
     exact ⟨rfl, below_step HW.out (by repeat (first | (with_reducible first | exact HB.out | apply below_alloc | apply pw_below_drewN | apply below_drew1) | exact HB.out))⟩
    have hr := HE.out
    rw [if_pos rfl] at hr
    clear HE
    have HE := Aside0.mk hr
    clear hr
    refine one_ (i := 28) (N := some 99) b31_1fffffff rfl rfl (one_of HT_.out (by kernel_rfl)) (by decide) (fun K hK => ?_)
    refine goes_ Try.func11 (by kernel_rfl) rfl #[.slice (some ⟨gh1, 0, none⟩) 1 1, .slice (some ⟨gh2, 0, none⟩) 1 1] (by rfl) rfl rfl (by (try simp only [List.map_toArray, List.map_cons, List.map_nil]); first | done | rfl) ?_
    refine (relayref05_Same.calls k _ 1 [stmtOf 12 (rd_T67 l1 i).f4] _ 1 [stmtOf 12 (rd_T67 m1 i).f4] _ _ HK1.out (Nat.le_refl 1) HK2.out (Nat.le_refl 1) A3_.out).mono ?_
    rintro e w' ⟨rfl, hb⟩
    refine ⟨_, rfl, ?_⟩
    have n0_ := Aside0.mk (below_step HB.out hb)
    clear HB hb
    have HB := n0_
    clear n0_
    refine hK.out _ _ HB.out (fun _ => ?_)
    clear hK K
    refine norm_ (a' := ?_) ?_ ?_
    rotate_left
    ·
     show Act.put _ (some 99) _ = _
     simp only [Act.put, List.setIfInBounds_toArray, List.set_cons_zero, List.set_cons_succ, i64_w, i32_w]
     rfl
    refine pure_ (i := 29) (N := some 100) (v := ?_) (a' := ?_) b31_3fffffff rfl rfl (any_of HT_.out (by kernel_rfl)) (fun _ _ _ h => h) (Or.inl ⟨by rfl, ?_⟩) ?_ ?_
    rotate_left
    ·
     intro w'
     go_simp
     with_reducible rfl
    rotate_left
    ·
     simp only [Act.put, List.setIfInBounds_toArray, List.set_cons_zero, List.set_cons_succ, i64_w, i32_w]
     rfl
    refine pure_ (i := 30) (N := some 101) (v := ?_) (a' := ?_) b31_7fffffff rfl rfl (any_of HT_.out (by kernel_rfl)) (fun _ _ _ h => h) (Or.inl ⟨by rfl, ?_⟩) ?_ ?_
    rotate_left
    ·
     intro w'
     go_simp
     with_reducible rfl
    rotate_left
    ·
     simp only [Act.put, List.setIfInBounds_toArray, List.set_cons_zero, List.set_cons_succ, i64_w, i32_w]
     rfl
    refine done_ (done_of HT_.out (by kernel_rfl)) ?_
    have n0_ := Aside0.mk (below_step HB13.out HB.out)
    clear HB HB13
    have HB := n0_
    clear n0_
    obtain rfl := Option.some.inj HE.out
    have hr := HH1.out
    rw [if_pos rfl] at hr
    have HH := Aside0.mk hr
    clear hr HE HH1
    go_wp2
    have hw : wrap64 (i + 1) = i + 1 := by
     have := HM1.out
     have := hi.out
     have := C2.out
     unfold wrap64
     omega
    have h1 := hi.out
    have h2 := C2.out
    go_roundg (gk - 1)
    case measure => omega
    case rel => exact ⟨i + 1, by rw [hw], ⟨by omega⟩, ⟨HH.out⟩, ⟨(by repeat (first | (with_reducible first | exact HB.out | apply below_alloc | apply pw_below_drewN | apply below_drew1) | exact HB.out))⟩⟩
  have c2b0 : decide (i < (l0.length : Int)) = true := decide_eq_true c2
  have h0 := hi.out.1
  have c3 : i < (m0.length : Int) := by have := HL0.out; omega
  obtain ⟨aad, aA3, ac3, ae, ahr, ahl0, ahc0⟩ := el_T58 HR0.out i h0 c2
  cases ae
  obtain ⟨bad, bA3, bc3, be, bhr, bhl0, bhc0⟩ := el_T58 HS0.out i h0 c3
  cases be
  have p0 := eq_true h0
  have p1 := eq_true c2
  have q1_ := eq_true c3
  have C2 := Aside0.mk c2
  have C3 := Aside0.mk c3
  clear h0 c2 c3
  have hr := HH.out
  rw [drop_rd z58 hi.out.1 C2.out, drop_rd z58 hi.out.1 C3.out, eqGo] at hr
  obtain ⟨u, hu_, hr1⟩ := Option.bind_eq_some_iff.mp hr
  have HH1 := Aside0.mk hr1
  have HE := Aside0.mk (show relayref08_Same.el58 k (rd_T58 l0 i) (rd_T58 m0 i) = some u from hu_)
  clear hr hr1 hu_ HH
  go_upto_region 6 with (fail)
  clear q0
  have AU := Aside0.mk (show relayref08_sameStep.f k (rd_T58 l0 i).f0 (rd_T58 l0 i).f1 (rd_T58 l0 i).f2 (rd_T58 l0 i).f3 (rd_T58 m0 i).f0 (rd_T58 m0 i).f1 (rd_T58 m0 i).f2 (rd_T58 m0 i).f3 = some u from HE.out)
  clear HE
  have n0_ := Aside0.mk (below_drew1 HB.out)
  clear HB
  have HB := n0_
  clear n0_
  refine start_ (n := 12) (S := fun w' => Below w2.heap.size w2 w') (ds := []) #[false, false, false, false, false, false, false, false, false, false, false, false] (by kernel_rfl) rfl (by kernel_rfl) HB.out (fun _ => ?_)
  refine with_tabW relayref08_Same.tab6 relayref08_Same.bits6 (fun HT_ HW_ => ?_)
  generalize World.drew _ = W5 at HB ⊢
  refine pure_ (i := 0) (N := some 42) (v := ?_) (a' := ?_) #[true, false, false, false, false, false, false, false, false, false, false, false] rfl rfl (any_of HT_.out (by kernel_rfl)) (fun _ _ _ h => h) (Or.inl ⟨by rfl, ?_⟩) ?_ ?_
  rotate_left
  ·
   intro w'
   go_simp
   with_reducible rfl
  rotate_left
  ·
   simp only [Act.put, List.setIfInBounds_toArray, List.set_cons_zero, List.set_cons_succ, i64_w, i32_w]
   rfl
  refine pure_ (i := 2) (N := some 44) (v := ?_) (a' := ?_) #[true, false, true, false, false, false, false, false, false, false, false, false] rfl rfl (any_of HT_.out (by kernel_rfl)) (fun _ _ _ h => h) (Or.inl ⟨by rfl, ?_⟩) ?_ ?_
  rotate_left
  ·
   intro w'
   go_simp
   with_reducible rfl
  rotate_left
  ·
   simp only [Act.put, List.setIfInBounds_toArray, List.set_cons_zero, List.set_cons_succ, i64_w, i32_w]
   rfl
  refine pure_ (i := 5) (N := some 47) (v := ?_) (a' := ?_) #[true, false, true, false, false, true, false, false, false, false, false, false] rfl rfl (any_of HT_.out (by kernel_rfl)) (fun _ _ _ h => h) (Or.inl ⟨by rfl, ?_⟩) ?_ ?_
  rotate_left
  ·
   intro w'
   go_simp
   with_reducible rfl
  rotate_left
  ·
   simp only [Act.put, List.setIfInBounds_toArray, List.set_cons_zero, List.set_cons_succ, i64_w, i32_w]
   rfl
  refine pure_ (i := 7) (N := some 49) (v := ?_) (a' := ?_) #[true, false, true, false, false, true, false, true, false, false, false, false] rfl rfl (any_of HT_.out (by kernel_rfl)) (fun _ _ _ h => h) (Or.inl ⟨by rfl, ?_⟩) ?_ ?_
  rotate_left
  ·
   intro w'
   go_simp
   with_reducible rfl
  rotate_left
  ·
   simp only [Act.put, List.setIfInBounds_toArray, List.set_cons_zero, List.set_cons_succ, i64_w, i32_w]
   rfl
  refine take_ (i := 1) (N := some 43) (v := ?_) (a' := ?_) #[true, true, true, false, false, true, false, true, false, false, false, false] rfl rfl (take_ofW HT_.out HW_.out (by kernel_rfl)) (fun _ _ _ h => h) (Or.inl ⟨by rfl, ?_⟩) HB.out ?_ ?_
  rotate_left
  ·
   intro w' hS
   have s0 := lift_ hS Z0.out
   go_simp
   with_reducible rfl
  rotate_left
  ·
   simp only [Act.put, List.setIfInBounds_toArray, List.set_cons_zero, List.set_cons_succ, i64_w, i32_w]
   rfl
  refine pure_ (i := 3) (N := some 45) (v := ?_) (a' := ?_) #[true, true, true, true, false, true, false, true, false, false, false, false] rfl rfl (any_of HT_.out (by kernel_rfl)) (fun _ _ _ h => h) (Or.inl ⟨by rfl, ?_⟩) ?_ ?_
  rotate_left
  ·
   intro w'
   go_simp
   with_reducible rfl
  rotate_left
  ·
   simp only [Act.put, List.setIfInBounds_toArray, List.set_cons_zero, List.set_cons_succ, i64_w, i32_w]
   rfl
  refine take_ (i := 4) (N := some 46) (v := .agg #[.int .i64 (rd_T58 l0 i).f0, .string (rd_T58 l0 i).f1, .bool (rd_T58 l0 i).f2, .slice aA3 (rd_T58 l0 i).f3.length ac3]) (a' := ?_) #[true, true, true, true, true, true, false, true, false, false, false, false] rfl rfl (take_ofW HT_.out HW_.out (by kernel_rfl)) (fun _ _ _ h => h) (Or.inl ⟨by rfl, fun w' hS => load_run rfl rfl (spread_below hS ahr) Try.underlying58 rfl rfl (by kernel_rfl)⟩) HB.out ?_ ?_
  rotate_left
  ·
   simp only [Act.put, List.setIfInBounds_toArray, List.set_cons_zero, List.set_cons_succ, i64_w, i32_w]
   rfl
  refine take_ (i := 6) (N := some 48) (v := ?_) (a' := ?_) #[true, true, true, true, true, true, true, true, false, false, false, false] rfl rfl (take_ofW HT_.out HW_.out (by kernel_rfl)) (fun _ _ _ h => h) (Or.inl ⟨by rfl, ?_⟩) HB.out ?_ ?_
  rotate_left
  ·
   intro w' hS
   have s0 := lift_ hS Z3.out
   go_simp
   with_reducible rfl
  rotate_left
  ·
   simp only [Act.put, List.setIfInBounds_toArray, List.set_cons_zero, List.set_cons_succ, i64_w, i32_w]
   rfl
  refine pure_ (i := 8) (N := some 50) (v := ?_) (a' := ?_) #[true, true, true, true, true, true, true, true, true, false, false, false] rfl rfl (any_of HT_.out (by kernel_rfl)) (fun _ _ _ h => h) (Or.inl ⟨by rfl, ?_⟩) ?_ ?_
  rotate_left
  ·
   intro w'
   go_simp
   with_reducible rfl
  rotate_left
  ·
   simp only [Act.put, List.setIfInBounds_toArray, List.set_cons_zero, List.set_cons_succ, i64_w, i32_w]
   rfl
  refine take_ (i := 9) (N := some 51) (v := .agg #[.int .i64 (rd_T58 m0 i).f0, .string (rd_T58 m0 i).f1, .bool (rd_T58 m0 i).f2, .slice bA3 (rd_T58 m0 i).f3.length bc3]) (a' := ?_) #[true, true, true, true, true, true, true, true, true, true, false, false] rfl rfl (take_ofW HT_.out HW_.out (by kernel_rfl)) (fun _ _ _ h => h) (Or.inl ⟨by rfl, fun w' hS => load_run rfl rfl (spread_below hS bhr) Try.underlying58 rfl rfl (by kernel_rfl)⟩) HB.out ?_ ?_
  rotate_left
  ·
   simp only [Act.put, List.setIfInBounds_toArray, List.set_cons_zero, List.set_cons_succ, i64_w, i32_w]
   rfl
  refine one_ (i := 10) (N := some 52) #[true, true, true, true, true, true, true, true, true, true, true, false] rfl rfl (one_of HT_.out (by kernel_rfl)) (by decide) (fun K hK => ?_)
  refine goes_ Try.func39 (by kernel_rfl) rfl #[.agg #[.int .i64 (rd_T58 l0 i).f0, .string (rd_T58 l0 i).f1, .bool (rd_T58 l0 i).f2, .slice aA3 (rd_T58 l0 i).f3.length ac3], .agg #[.int .i64 (rd_T58 m0 i).f0, .string (rd_T58 m0 i).f1, .bool (rd_T58 m0 i).f2, .slice bA3 (rd_T58 m0 i).f3.length bc3]] (by rfl) rfl rfl (by (try simp only [List.map_toArray, List.map_cons, List.map_nil]); first | done | rfl) ?_
  refine (relayref08_sameStep.calls k _ _ _ _ _ _ _ _ _ _ _ _ _ _ (Kd.C_below ahc0 HB.out) ahl0 (Kd.C_below bhc0 HB.out) bhl0 AU.out).mono ?_
  rintro e w' ⟨rfl, hb⟩
  refine ⟨_, rfl, ?_⟩
  have n0_ := Aside0.mk (below_step HB.out hb)
  clear HB hb
  have HB := n0_
  clear n0_
  refine hK.out _ _ HB.out (fun _ => ?_)
  clear hK K
  refine norm_ (a' := ?_) ?_ ?_
  rotate_left
  ·
   show Act.put _ (some 52) _ = _
   simp only [Act.put, List.setIfInBounds_toArray, List.set_cons_zero, List.set_cons_succ, i64_w, i32_w]
   rfl
  refine pure_ (i := 11) (N := some 53) (v := ?_) (a' := ?_) #[true, true, true, true, true, true, true, true, true, true, true, true] rfl rfl (any_of HT_.out (by kernel_rfl)) (fun _ _ _ h => h) (Or.inl ⟨by rfl, ?_⟩) ?_ ?_
  rotate_left
  ·
   intro w'
   go_simp
   with_reducible rfl
  rotate_left
  ·
   simp only [Act.put, List.setIfInBounds_toArray, List.set_cons_zero, List.set_cons_succ, i64_w, i32_w]
   rfl
  refine done_ (done_of HT_.out (by kernel_rfl)) ?_
  clear ahr bhr AU
  cases u
  case false =>
   have HE : Aside0 (some false = some false) := ⟨rfl⟩
   have hr := HH1.out
   rw [if_neg Bool.false_ne_true] at hr
   obtain rfl := Option.some.inj hr
   clear hr HE HH1
   have hr := H.out
   rw [if_neg Bool.false_ne_true] at hr
   obtain rfl := Option.some.inj hr
   clear hr H
   go_wp2
   go_ret
   exact ⟨rfl, below_step HW.out (by repeat (first | (with_reducible first | exact HB.out | apply below_alloc | apply pw_below_drewN | apply below_drew1) | exact HB.out))⟩
  have hr := HH1.out
  rw [if_pos rfl] at hr
  have HH := Aside0.mk hr
  clear hr HH1
  go_wp2
  have hw : wrap64 (i + 1) = i + 1 := by
   have := HM0.out
   have := hi.out
   have := C2.out
   unfold wrap64
   omega
  have h1 := hi.out
  have h2 := C2.out
  go_roundg (gk - 1)
  case measure => omega
  case rel => exact ⟨i + 1, by rw [hw], ⟨by omega⟩, ⟨HH.out⟩, ⟨(by repeat (first | (with_reducible first | exact HB.out | apply below_alloc | apply pw_below_drewN | apply below_drew1) | exact HB.out))⟩⟩
theorem relayref08_Same.mono : ∀ a b c d e f k, LeO (relayref08_Same.f k a b c d e f) (relayref08_Same.f (k + 1) a b c d e f) := by
 intro a b c d e f k
 unfold relayref08_Same.f
 repeat' first
  | exact relayref08_sameStep.mono _ _ _ _ _ _ _ _ _
  | exact relayref08_sameNames.mono _ _ _
  | exact relayref05_Same.mono _ _ _
  | (refine eqGo_le (fun x y => ?_) _ _; unfold relayref08_Same.el58)
  | (refine eqGo_le (fun x y => ?_) _ _; unfold relayref08_Same.el67)
  | (refine eqGo_le (fun x y => ?_) _ _; unfold relayref08_Same.el70)
  | exact LeO.refl _
  | refine LeO.ite ?_ ?_
  | refine LeO.bind ?_ (fun _ => ?_)
end Go.Proofs.Ytmdkbhbconnmmaa.XSfc
