-- WRITTEN BY wip/tools/sfc/all.py
import Derived.Test.YtmdkbhbconnmmaaXSfcM
import Derived.Test.YtmdkbhbconnmmaaXSfcE
namespace Go.Proofs.Ytmdkbhbconnmmaa.XSfc
open Go.RowKit Go.Proofs.YtmdkbhbconnmmaaW.PrintWords Go.Proofs.YtmdkbhbconnmmaaW.PrintLast Go.Proofs.YtmdkbhbconnmmaaW.PrintMore
attribute [local go_sem] max2_int min2_int max_two min_two max_three min_three max_four min_four
set_option linter.unusedVariables false
set_option linter.unusedSimpArgs false
def relayplain_SameChart.T6 : Bool × List (List Nat × List Nat) := (true, [([], []), ([0], [0]), ([], []), ([1, 2], [1, 2]), ([3], [3]), ([], []), ([5], [5]), ([], []), ([6, 7], [6, 7]), ([8], [8]), ([], []), ([], []), ([10, 4, 0, 1, 2, 3, 4, 10, 11], [4, 10]), ([11, 9, 12, 0, 1, 2, 3, 4, 5, 6, 7, 8, 9, 10, 11, 12], [9, 11])])
def relayplain_SameChart.B6 : List Nat := [0, 1, 0, 7, 15, 0, 32, 0, 224, 480, 0, 0, 3103, 8191]
theorem relayplain_SameChart.tab6 : rtab .any (opsOf Try.f15 6) = relayplain_SameChart.T6 := by kernel_rfl
theorem relayplain_SameChart.bits6 : waitsOk relayplain_SameChart.T6.2 relayplain_SameChart.B6 = true := by kernel_rfl
def relayplain_SameChart.T13 : Bool × List (List Nat × List Nat) := (true, [([], []), ([0], [0]), ([], []), ([1, 2], [1, 2]), ([3], [3]), ([], []), ([5], [5]), ([], []), ([6, 7], [6, 7]), ([8], [8]), ([], []), ([], []), ([10, 4, 0, 1, 2, 3, 4, 10, 11], [4, 10]), ([11, 9, 12, 0, 1, 2, 3, 4, 5, 6, 7, 8, 9, 10, 11, 12], [9, 11])])
def relayplain_SameChart.B13 : List Nat := [0, 1, 0, 7, 15, 0, 32, 0, 224, 480, 0, 0, 3103, 8191]
theorem relayplain_SameChart.tab13 : rtab .any (opsOf Try.f15 13) = relayplain_SameChart.T13 := by kernel_rfl
theorem relayplain_SameChart.bits13 : waitsOk relayplain_SameChart.T13.2 relayplain_SameChart.B13 = true := by kernel_rfl
def relayplain_SameChart.T20 : Bool × List (List Nat × List Nat) := (true, [([], []), ([0], [0]), ([], []), ([1, 2], [1, 2]), ([3], [3]), ([], []), ([5], [5]), ([], []), ([6, 7], [6, 7]), ([8], [8]), ([], []), ([], []), ([10, 4, 0, 1, 2, 3, 4, 10, 11], [4, 10]), ([11, 9, 12, 0, 1, 2, 3, 4, 5, 6, 7, 8, 9, 10, 11, 12], [9, 11])])
def relayplain_SameChart.B20 : List Nat := [0, 1, 0, 7, 15, 0, 32, 0, 224, 480, 0, 0, 3103, 8191]
theorem relayplain_SameChart.tab20 : rtab .any (opsOf Try.f15 20) = relayplain_SameChart.T20 := by kernel_rfl
theorem relayplain_SameChart.bits20 : waitsOk relayplain_SameChart.T20.2 relayplain_SameChart.B20 = true := by kernel_rfl
def relayplain_SameChart.el58 (k : Nat) (x y : S58) : Option Bool := if x.f0 = y.f0 then (if x.f1.toList = y.f1.toList then (if x.f2 = y.f2 then ((api_Link_42.f k x.f3 y.f3).bind fun u3 => if u3 = true then (some true) else some false) else some false) else some false) else some false
def relayplain_SameChart.el67 (k : Nat) (x y : S67) : Option Bool := if x.f0 = y.f0 then (if x.f1.toList = y.f1.toList then ((slices_Equal_string_string.f k x.f2 y.f2).bind fun u2 => if u2 = true then ((slices_Equal_string_string.f k x.f3 y.f3).bind fun u3 => if u3 = true then ((relayplain_SameExpr.f k x.f4 y.f4).bind fun u4 => if u4 = true then (some true) else some false) else some false) else some false) else some false) else some false
def relayplain_SameChart.el70 (k : Nat) (x y : S70) : Option Bool := if x.f0 = y.f0 then (if x.f1.toList = y.f1.toList then ((relayplain_SameStmts.f k x.f2 y.f2).bind fun u2 => if u2 = true then (some true) else some false) else some false) else some false
def relayplain_SameChart.f (k : Nat) (l0 : List S58) (l1 : List S67) (l2 : List S70) (m0 : List S58) (m1 : List S67) (m2 : List S70) : Option Bool := if l0.length = m0.length then (if l1.length = m1.length then (if l2.length = m2.length then ((eqGo (relayplain_SameChart.el58 k) l0 m0).bind fun u0 => if u0 = true then ((eqGo (relayplain_SameChart.el67 k) l1 m1).bind fun u1 => if u1 = true then ((eqGo (relayplain_SameChart.el70 k) l2 m2).bind fun u2 => if u2 = true then some true else some false) else some false) else some false) else some false) else some false) else some false
set_option maxHeartbeats 8000000 in
set_option maxRecDepth 100000 in
theorem relayplain_SameChart.calls (k : Nat) (A0 : Option Addr) (c0 : Nat) (l0 : List S58) (A1 : Option Addr) (c1 : Nat) (l1 : List S67) (A2 : Option Addr) (c2 : Nat) (l2 : List S70) (D0 : Option Addr) (e0 : Nat) (m0 : List S58) (D1 : Option Addr) (e1 : Nat) (m1 : List S67) (D2 : Option Addr) (e2 : Nat) (m2 : List S70) (r : Bool) (w : World) (hr0 : Kd.C k58 w A0 l0.length l0) (hc0 : l0.length ≤ c0) (hs0 : Kd.C k58 w D0 m0.length m0) (hd0 : m0.length ≤ e0) (hr1 : Kd.C k67 w A1 l1.length l1) (hc1 : l1.length ≤ c1) (hs1 : Kd.C k67 w D1 m1.length m1) (hd1 : m1.length ≤ e1) (hr2 : Kd.C k70 w A2 l2.length l2) (hc2 : l2.length ≤ c2) (hs2 : Kd.C k70 w D2 m2.length m2) (hd2 : m2.length ≤ e2) (h : relayplain_SameChart.f k l0 l1 l2 m0 m1 m2 = some r) :
  Calls Try.prog 15 #[.agg #[.slice A0 l0.length c0, .slice A1 l1.length c1, .slice A2 l2.length c2], .agg #[.slice D0 m0.length e0, .slice D1 m1.length e1, .slice D2 m2.length e2]] w fun e w' => e = .returned (.bool r) ∧ Below w.heap.size w w' := by
 have hu34 := Try.underlying34
 have hu58 := Try.underlying58
 have hu67 := Try.underlying67
 have hu70 := Try.underlying70
 have hu65 := Try.underlying65
 have hu63 := Try.underlying63
 have HB := Aside0.mk (Below.refl w.heap.size w)
 unfold relayplain_SameChart.f at h
 have H := Aside0.mk h
 clear h
 have HM0 := Aside0.mk (Kd.C_max hr0)
 have HM1 := Aside0.mk (Kd.C_max hr1)
 have HM2 := Aside0.mk (Kd.C_max hr2)
 go_enter Try.func15, Try.ntmps15
 go_upto_region 1 with (first | ((with_reducible refine gate_dst (N := 2) rfl ?_); refine box_event ?hg (N := 2) ?hd (cs := #[.slice A0 l0.length c0, .slice A1 l1.length c1, .slice A2 l2.length c2]) (t := 34) ?hr ?_; (case hd => rfl); (case hg => rfl); (case hr => first | (go_simp; done) | (go_simp; rfl)); intro g1 hg w1 hbox hb; have n0_ := Aside0.mk (below_step (by repeat (first | (with_reducible first | exact HB.out | apply below_alloc | apply pw_below_drewN | apply below_drew1) | exact HB.out)) hb); have G1 := Aside0.mk ((by rw [hg]; exact below_size (by repeat (first | (with_reducible first | exact HB.out | apply below_alloc | apply pw_below_drewN | apply below_drew1) | exact HB.out))) : w.heap.size ≤ g1); have B1 := Aside0.mk hbox; clear HB; have HB := n0_; clear n0_ hb hbox hg) | ((with_reducible refine gate_dst (N := 3) rfl ?_); refine box_event ?hg (N := 3) ?hd (cs := #[.slice D0 m0.length e0, .slice D1 m1.length e1, .slice D2 m2.length e2]) (t := 34) ?hr ?_; (case hd => rfl); (case hg => rfl); (case hr => first | (go_simp; done) | (go_simp; rfl)); intro g2 hg w2 hbox hb; have n0_ := Aside0.mk (below_step (by repeat (first | (with_reducible first | exact HB.out | apply below_alloc | apply pw_below_drewN | apply below_drew1) | exact HB.out)) hb); have n1_ := Aside0.mk (blk_below B1.out hb); have NE1_2 := Aside0.mk ((by rw [hg]; exact Nat.ne_of_lt (blk_lt B1.out)) : g1 ≠ g2); clear B1; have B1 := n1_; clear n1_; have G2 := Aside0.mk ((by rw [hg]; exact below_size (by repeat (first | (with_reducible first | exact HB.out | apply below_alloc | apply pw_below_drewN | apply below_drew1) | exact HB.out))) : w.heap.size ≤ g2); have B2 := Aside0.mk hbox; clear HB; have HB := n0_; clear n0_ hb hbox hg))
 have HR0 := Aside0.mk (Kd.C_below hr0 HB.out)
 have HS0 := Aside0.mk (Kd.C_below hs0 HB.out)
 have HR1 := Aside0.mk (Kd.C_below hr1 HB.out)
 have HS1 := Aside0.mk (Kd.C_below hs1 HB.out)
 have HR2 := Aside0.mk (Kd.C_below hr2 HB.out)
 have HS2 := Aside0.mk (Kd.C_below hs2 HB.out)
 clear hr0 hr1 hr2 hs0 hs1 hs2 hc0 hc1 hc2 hd0 hd1 hd2
 obtain ⟨q0, q1, q2, _, _, _⟩ := cells3 B1.out
 obtain ⟨q3, q4, q5, _, _, _⟩ := cells3 B2.out
 clear B1 B2 G1 G2 NE1_2
 have Z0 := Aside0.mk q0
 have Z1 := Aside0.mk q1
 have Z2 := Aside0.mk q2
 have Z3 := Aside0.mk q3
 have Z4 := Aside0.mk q4
 have Z5 := Aside0.mk q5
 by_cases b0 : l0.length = m0.length
 case neg =>
  have hn : ¬ ((l0.length : Int) = (m0.length : Int)) := fun e => b0 (by omega)
  have d0_0 : ((l0.length : Int) == (m0.length : Int)) = false := beq_eq_false_iff_ne.mpr hn
  have d0_1 : ((l0.length : Int) != (m0.length : Int)) = true := bne_iff_ne.mpr hn
  clear hn
  have hr := H.out
  rw [if_neg b0] at hr
  obtain rfl := Option.some.inj hr
  clear hr H
  go_wp2
  go_ret
  exact ⟨rfl, HB.out⟩
 have hr := H.out
 rw [if_pos b0] at hr
 clear H
 have H := Aside0.mk hr
 clear hr
 have HL0 := Aside0.mk b0
 have d0_0 : ((l0.length : Int) == (m0.length : Int)) = true := by rw [b0]; exact beq_self_eq_true _
 have d0_1 : ((l0.length : Int) != (m0.length : Int)) = false := by rw [b0]; exact bne_self_eq_false _
 clear b0
 by_cases b1 : l1.length = m1.length
 case neg =>
  have hn : ¬ ((l1.length : Int) = (m1.length : Int)) := fun e => b1 (by omega)
  have d1_0 : ((l1.length : Int) == (m1.length : Int)) = false := beq_eq_false_iff_ne.mpr hn
  have d1_1 : ((l1.length : Int) != (m1.length : Int)) = true := bne_iff_ne.mpr hn
  clear hn
  have hr := H.out
  rw [if_neg b1] at hr
  obtain rfl := Option.some.inj hr
  clear hr H
  go_wp2
  go_ret
  exact ⟨rfl, HB.out⟩
 have hr := H.out
 rw [if_pos b1] at hr
 clear H
 have H := Aside0.mk hr
 clear hr
 have HL1 := Aside0.mk b1
 have d1_0 : ((l1.length : Int) == (m1.length : Int)) = true := by rw [b1]; exact beq_self_eq_true _
 have d1_1 : ((l1.length : Int) != (m1.length : Int)) = false := by rw [b1]; exact bne_self_eq_false _
 clear b1
 by_cases b2 : l2.length = m2.length
 case neg =>
  have hn : ¬ ((l2.length : Int) = (m2.length : Int)) := fun e => b2 (by omega)
  have d2_0 : ((l2.length : Int) == (m2.length : Int)) = false := beq_eq_false_iff_ne.mpr hn
  have d2_1 : ((l2.length : Int) != (m2.length : Int)) = true := bne_iff_ne.mpr hn
  clear hn
  have hr := H.out
  rw [if_neg b2] at hr
  obtain rfl := Option.some.inj hr
  clear hr H
  go_wp2
  go_ret
  exact ⟨rfl, HB.out⟩
 have hr := H.out
 rw [if_pos b2] at hr
 clear H
 have H := Aside0.mk hr
 clear hr
 have HL2 := Aside0.mk b2
 have d2_0 : ((l2.length : Int) == (m2.length : Int)) = true := by rw [b2]; exact beq_self_eq_true _
 have d2_1 : ((l2.length : Int) != (m2.length : Int)) = false := by rw [b2]; exact bne_self_eq_false _
 clear b2
 go_upto_region 3 with (fail)
 clear d0_0 d0_1 d1_0 d1_1 d2_0 d2_1
 have HW := HB
 clear HB
 have HB := Aside0.mk (Below.refl w2.heap.size w2)
 obtain ⟨u0, hu_, hr⟩ := Option.bind_eq_some_iff.mp H.out
 clear H
 have H := Aside0.mk hr
 have HH := Aside0.mk hu_
 clear hr hu_
 go_wp2
 clear q0 q1 q2 q3 q4 q5
 go_loopg [42] (l0.length + 1) (fun kq v_ w' => ∃ i : Int, v_ = .int .i64 i ∧ Aside0 (0 ≤ i ∧ i ≤ l0.length ∧ (kq : Int) = l0.length + 1 - i) ∧ Aside0 (eqGo (relayplain_SameChart.el58 k) (l0.drop i.toNat) (m0.drop i.toNat) = some u0) ∧ Aside0 (Below w2.heap.size w2 w'))
 case atStart => exact ⟨0, rfl, ⟨by omega⟩, ⟨by simpa using HH.out⟩, ⟨HB.out⟩⟩
 case round =>
  clear HH HB
  obtain ⟨i, rfl, hi, HH, HB⟩ := hrel
  by_cases c2 : i < (l0.length : Int)
  case neg =>
   have c2b0 : decide (i < (l0.length : Int)) = false := decide_eq_false c2
   have hd : l0.drop i.toNat = [] := List.drop_eq_nil_of_le (by have := hi.out; omega)
   have hr := HH.out
   rw [hd, eqGo] at hr
   obtain rfl := Option.some.inj hr
   clear hr hd HH hi c2
   have hr := H.out
   rw [if_pos rfl] at hr
   clear H
   have H := Aside0.mk hr
   clear hr
   go_upto_region 10 with (fail)
   clear c2b0
   obtain ⟨u1, hu_, hr⟩ := Option.bind_eq_some_iff.mp H.out
   clear H
   have H := Aside0.mk hr
   have HH := Aside0.mk hu_
   clear hr hu_
   have q0 := lift_ HB.out Z0.out
   have q1 := lift_ HB.out Z1.out
   have q2 := lift_ HB.out Z2.out
   have q3 := lift_ HB.out Z3.out
   have q4 := lift_ HB.out Z4.out
   have q5 := lift_ HB.out Z5.out
   go_wp2
   clear q0 q1 q2 q3 q4 q5
   go_loopg [86] (l1.length + 1) (fun kq v_ w' => ∃ i : Int, v_ = .int .i64 i ∧ Aside0 (0 ≤ i ∧ i ≤ l1.length ∧ (kq : Int) = l1.length + 1 - i) ∧ Aside0 (eqGo (relayplain_SameChart.el67 k) (l1.drop i.toNat) (m1.drop i.toNat) = some u1) ∧ Aside0 (Below w2.heap.size w2 w'))
   case atStart => exact ⟨0, rfl, ⟨by omega⟩, ⟨by simpa using HH.out⟩, ⟨HB.out⟩⟩
   case round =>
    clear HH HB
    obtain ⟨i, rfl, hi, HH, HB⟩ := hrel
    by_cases c2 : i < (l1.length : Int)
    case neg =>
     have c2b0 : decide (i < (l1.length : Int)) = false := decide_eq_false c2
     have hd : l1.drop i.toNat = [] := List.drop_eq_nil_of_le (by have := hi.out; omega)
     have hr := HH.out
     rw [hd, eqGo] at hr
     obtain rfl := Option.some.inj hr
     clear hr hd HH hi c2
     have hr := H.out
     rw [if_pos rfl] at hr
     clear H
     have H := Aside0.mk hr
     clear hr
     go_upto_region 17 with (fail)
     clear c2b0
     obtain ⟨u2, hu_, hr⟩ := Option.bind_eq_some_iff.mp H.out
     clear H
     have H := Aside0.mk hr
     have HH := Aside0.mk hu_
     clear hr hu_
     have q0 := lift_ HB.out Z0.out
     have q1 := lift_ HB.out Z1.out
     have q2 := lift_ HB.out Z2.out
     have q3 := lift_ HB.out Z3.out
     have q4 := lift_ HB.out Z4.out
     have q5 := lift_ HB.out Z5.out
     go_wp2
     clear q0 q1 q2 q3 q4 q5
     go_loopg [139] (l2.length + 1) (fun kq v_ w' => ∃ i : Int, v_ = .int .i64 i ∧ Aside0 (0 ≤ i ∧ i ≤ l2.length ∧ (kq : Int) = l2.length + 1 - i) ∧ Aside0 (eqGo (relayplain_SameChart.el70 k) (l2.drop i.toNat) (m2.drop i.toNat) = some u2) ∧ Aside0 (Below w2.heap.size w2 w'))
     case atStart => exact ⟨0, rfl, ⟨by omega⟩, ⟨by simpa using HH.out⟩, ⟨HB.out⟩⟩
     case round =>
      clear HH HB
      obtain ⟨i, rfl, hi, HH, HB⟩ := hrel
      by_cases c2 : i < (l2.length : Int)
      case neg =>
       have c2b0 : decide (i < (l2.length : Int)) = false := decide_eq_false c2
       have hd : l2.drop i.toNat = [] := List.drop_eq_nil_of_le (by have := hi.out; omega)
       have hr := HH.out
       rw [hd, eqGo] at hr
       obtain rfl := Option.some.inj hr
       clear hr hd HH hi c2
       have hr := H.out
       rw [if_pos rfl] at hr
       clear H
       have H := Aside0.mk hr
       clear hr
       obtain rfl := Option.some.inj H.out
       go_wp2
       go_ret
       exact ⟨rfl, below_step HW.out HB.out⟩
      have c2b0 : decide (i < (l2.length : Int)) = true := decide_eq_true c2
      have h0 := hi.out.1
      have c3 : i < (m2.length : Int) := by have := HL2.out; omega
      obtain ⟨aad, aA2, ac2, ae, ahr, ahl0, ahc0⟩ := el_T70 HR2.out i h0 c2
      cases ae
      obtain ⟨bad, bA2, bc2, be, bhr, bhl0, bhc0⟩ := el_T70 HS2.out i h0 c3
      cases be
      have p0 := eq_true h0
      have p1 := eq_true c2
      have q1 := eq_true c3
      have C2 := Aside0.mk c2
      have C3 := Aside0.mk c3
      clear h0 c2 c3
      go_upto_region 20 with (fail)
      have n0_ := Aside0.mk (below_drew1 HB.out)
      clear HB
      have HB := n0_
      clear n0_
      refine start_ (n := 14) (S := fun w' => Below w2.heap.size w2 w') (ds := []) #[false, false, false, false, false, false, false, false, false, false, false, false, false, false] (by kernel_rfl) rfl (by kernel_rfl) HB.out (fun _ => ?_)
      refine with_tabW relayplain_SameChart.tab20 relayplain_SameChart.bits20 (fun HT_ HW_ => ?_)
      generalize World.drew _ = W5 at HB ⊢
      refine pure_ (i := 0) (N := some 142) (v := ?_) (a' := ?_) #[true, false, false, false, false, false, false, false, false, false, false, false, false, false] rfl rfl (any_of HT_.out (by kernel_rfl)) (fun _ _ _ h => h) (Or.inl ⟨by rfl, ?_⟩) ?_ ?_
      rotate_left
      ·
       intro w'
       go_simp
       with_reducible rfl
      rotate_left
      ·
       simp only [Act.put, List.setIfInBounds_toArray, List.set_cons_zero, List.set_cons_succ, i64_w, i32_w]
       rfl
      refine pure_ (i := 2) (N := some 144) (v := ?_) (a' := ?_) #[true, false, true, false, false, false, false, false, false, false, false, false, false, false] rfl rfl (any_of HT_.out (by kernel_rfl)) (fun _ _ _ h => h) (Or.inl ⟨by rfl, ?_⟩) ?_ ?_
      rotate_left
      ·
       intro w'
       go_simp
       with_reducible rfl
      rotate_left
      ·
       simp only [Act.put, List.setIfInBounds_toArray, List.set_cons_zero, List.set_cons_succ, i64_w, i32_w]
       rfl
      refine pure_ (i := 5) (N := some 147) (v := ?_) (a' := ?_) #[true, false, true, false, false, true, false, false, false, false, false, false, false, false] rfl rfl (any_of HT_.out (by kernel_rfl)) (fun _ _ _ h => h) (Or.inl ⟨by rfl, ?_⟩) ?_ ?_
      rotate_left
      ·
       intro w'
       go_simp
       with_reducible rfl
      rotate_left
      ·
       simp only [Act.put, List.setIfInBounds_toArray, List.set_cons_zero, List.set_cons_succ, i64_w, i32_w]
       rfl
      refine pure_ (i := 7) (N := some 149) (v := ?_) (a' := ?_) #[true, false, true, false, false, true, false, true, false, false, false, false, false, false] rfl rfl (any_of HT_.out (by kernel_rfl)) (fun _ _ _ h => h) (Or.inl ⟨by rfl, ?_⟩) ?_ ?_
      rotate_left
      ·
       intro w'
       go_simp
       with_reducible rfl
      rotate_left
      ·
       simp only [Act.put, List.setIfInBounds_toArray, List.set_cons_zero, List.set_cons_succ, i64_w, i32_w]
       rfl
      refine take_ (i := 1) (N := some 143) (v := ?_) (a' := ?_) #[true, true, true, false, false, true, false, true, false, false, false, false, false, false] rfl rfl (take_ofW HT_.out HW_.out (by kernel_rfl)) (fun _ _ _ h => h) (Or.inl ⟨by rfl, ?_⟩) HB.out ?_ ?_
      rotate_left
      ·
       intro w' hS
       have s0 := lift_ hS Z2.out
       go_simp
       with_reducible rfl
      rotate_left
      ·
       simp only [Act.put, List.setIfInBounds_toArray, List.set_cons_zero, List.set_cons_succ, i64_w, i32_w]
       rfl
      refine pure_ (i := 3) (N := some 145) (v := ?_) (a' := ?_) #[true, true, true, true, false, true, false, true, false, false, false, false, false, false] rfl rfl (any_of HT_.out (by kernel_rfl)) (fun _ _ _ h => h) (Or.inl ⟨by rfl, ?_⟩) ?_ ?_
      rotate_left
      ·
       intro w'
       go_simp
       with_reducible rfl
      rotate_left
      ·
       simp only [Act.put, List.setIfInBounds_toArray, List.set_cons_zero, List.set_cons_succ, i64_w, i32_w]
       rfl
      refine take_ (i := 4) (N := some 146) (v := .agg #[.int .i64 (rd_T70 l2 i).f0, .string (rd_T70 l2 i).f1, .slice aA2 (rd_T70 l2 i).f2.length ac2]) (a' := ?_) #[true, true, true, true, true, true, false, true, false, false, false, false, false, false] rfl rfl (take_ofW HT_.out HW_.out (by kernel_rfl)) (fun _ _ _ h => h) (Or.inl ⟨by rfl, fun w' hS => load_run rfl rfl (spread_below hS ahr) Try.underlying70 rfl rfl (by kernel_rfl)⟩) HB.out ?_ ?_
      rotate_left
      ·
       simp only [Act.put, List.setIfInBounds_toArray, List.set_cons_zero, List.set_cons_succ, i64_w, i32_w]
       rfl
      refine take_ (i := 6) (N := some 148) (v := ?_) (a' := ?_) #[true, true, true, true, true, true, true, true, false, false, false, false, false, false] rfl rfl (take_ofW HT_.out HW_.out (by kernel_rfl)) (fun _ _ _ h => h) (Or.inl ⟨by rfl, ?_⟩) HB.out ?_ ?_
      rotate_left
      ·
       intro w' hS
       have s0 := lift_ hS Z5.out
       go_simp
       with_reducible rfl
      rotate_left
      ·
       simp only [Act.put, List.setIfInBounds_toArray, List.set_cons_zero, List.set_cons_succ, i64_w, i32_w]
       rfl
      refine pure_ (i := 8) (N := some 150) (v := ?_) (a' := ?_) #[true, true, true, true, true, true, true, true, true, false, false, false, false, false] rfl rfl (any_of HT_.out (by kernel_rfl)) (fun _ _ _ h => h) (Or.inl ⟨by rfl, ?_⟩) ?_ ?_
      rotate_left
      ·
       intro w'
       go_simp
       with_reducible rfl
      rotate_left
      ·
       simp only [Act.put, List.setIfInBounds_toArray, List.set_cons_zero, List.set_cons_succ, i64_w, i32_w]
       rfl
      refine take_ (i := 9) (N := some 151) (v := .agg #[.int .i64 (rd_T70 m2 i).f0, .string (rd_T70 m2 i).f1, .slice bA2 (rd_T70 m2 i).f2.length bc2]) (a' := ?_) #[true, true, true, true, true, true, true, true, true, true, false, false, false, false] rfl rfl (take_ofW HT_.out HW_.out (by kernel_rfl)) (fun _ _ _ h => h) (Or.inl ⟨by rfl, fun w' hS => load_run rfl rfl (spread_below hS bhr) Try.underlying70 rfl rfl (by kernel_rfl)⟩) HB.out ?_ ?_
      rotate_left
      ·
       simp only [Act.put, List.setIfInBounds_toArray, List.set_cons_zero, List.set_cons_succ, i64_w, i32_w]
       rfl
      refine join_ (σ := Nat × Nat) 2 #[true, true, true, true, true, true, true, true, true, true, true, true, false, false] (fun s_ => [(12, .pointer (some ⟨s_.1, 0, none⟩)), (13, .pointer (some ⟨s_.2, 0, none⟩))]) (fun s_ w' => w'.heap[s_.1]? = some (.cells #[.int .i64 0, .string (⟨#[]⟩ : ByteArray), .slice none 0 0] 70 (0, 0)) ∧ w'.heap[s_.2]? = some (.cells #[.int .i64 0, .string (⟨#[]⟩ : ByteArray), .slice none 0 0] 70 (0, 0)) ∧ w2.heap.size ≤ s_.1 ∧ w2.heap.size ≤ s_.2 ∧ s_.1 ≠ s_.2 ∧ Below w2.heap.size w2 w') ?_ ?_
      rotate_left
      ·
       intro hCont
       refine two_ (i := 10) (j := 11) (Ni := some 12) (Nj := some 13) #[true, true, true, true, true, true, true, true, true, true, true, false, false, false] #[true, true, true, true, true, true, true, true, true, true, false, true, false, false] rfl rfl rfl rfl (two_of HT_.out (by kernel_rfl)) (by decide) (by decide) (fun K hK => ?_) (fun K hK => ?_)
       ·
        skip
        refine box_step ?hg (N := 12) ?hd (cs := #[.int .i64 0, .string (⟨#[]⟩ : ByteArray), .slice none 0 0]) (t := 70) ?hr ?_; (case hd => rfl); (case hg => rfl); (case hr => first | (go_simp; done) | (go_simp; rfl))
        intro g6 hg W' hbox hb
        have G6 := Aside0.mk ((by rw [hg]; exact below_size HB.out) : w2.heap.size ≤ g6)
        have n0_ := Aside0.mk (below_step HB.out hb)
        have B6 := Aside0.mk hbox
        clear HB
        have HB := n0_
        clear n0_ hb hbox hg
        refine hK.out _ _ HB.out (fun _ => ?_)
        clear hK K
        refine norm_ (a' := ?_) ?_ ?_
        rotate_left
        ·
         show Act.put _ (some 12) _ = _
         simp only [Act.put, List.setIfInBounds_toArray, List.set_cons_zero, List.set_cons_succ, i64_w, i32_w]
         rfl
        refine one_ (i := 11) (N := some 13) #[true, true, true, true, true, true, true, true, true, true, true, true, false, false] rfl rfl (one_of HT_.out (by kernel_rfl)) (by decide) (fun K hK => ?_)
        refine box_step ?hg (N := 13) ?hd (cs := #[.int .i64 0, .string (⟨#[]⟩ : ByteArray), .slice none 0 0]) (t := 70) ?hr ?_; (case hd => rfl); (case hg => rfl); (case hr => first | (go_simp; done) | (go_simp; rfl))
        intro g7 hg W' hbox hb
        have NE := Aside0.mk ((by rw [hg]; exact Nat.ne_of_lt (blk_lt B6.out)) : g6 ≠ g7)
        have n1_ := Aside0.mk (blk_below B6.out hb)
        have G7 := Aside0.mk ((by rw [hg]; exact below_size HB.out) : w2.heap.size ≤ g7)
        have n0_ := Aside0.mk (below_step HB.out hb)
        have B7 := Aside0.mk hbox
        clear HB B6
        have HB := n0_
        have B6 := n1_
        clear n1_
        clear n0_ hb hbox hg
        refine hK.out _ _ HB.out (fun _ => ?_)
        clear hK K
        refine norm_ (a' := ?_) ?_ ?_
        rotate_left
        ·
         show Act.put _ (some 13) _ = _
         simp only [Act.put, List.setIfInBounds_toArray, List.set_cons_zero, List.set_cons_succ, i64_w, i32_w]
         rfl
        exact norm_ (by simp only [putAll, Act.put, List.setIfInBounds_toArray, List.set_cons_zero, List.set_cons_succ]) (hCont (g6, g7) _ ⟨B6.out, B7.out, G6.out, G7.out, NE.out, HB.out⟩)
       ·
        skip
        refine box_step ?hg (N := 13) ?hd (cs := #[.int .i64 0, .string (⟨#[]⟩ : ByteArray), .slice none 0 0]) (t := 70) ?hr ?_; (case hd => rfl); (case hg => rfl); (case hr => first | (go_simp; done) | (go_simp; rfl))
        intro g7 hg W' hbox hb
        have G7 := Aside0.mk ((by rw [hg]; exact below_size HB.out) : w2.heap.size ≤ g7)
        have n0_ := Aside0.mk (below_step HB.out hb)
        have B7 := Aside0.mk hbox
        clear HB
        have HB := n0_
        clear n0_ hb hbox hg
        refine hK.out _ _ HB.out (fun _ => ?_)
        clear hK K
        refine norm_ (a' := ?_) ?_ ?_
        rotate_left
        ·
         show Act.put _ (some 13) _ = _
         simp only [Act.put, List.setIfInBounds_toArray, List.set_cons_zero, List.set_cons_succ, i64_w, i32_w]
         rfl
        refine one_ (i := 10) (N := some 12) #[true, true, true, true, true, true, true, true, true, true, true, true, false, false] rfl rfl (one_of HT_.out (by kernel_rfl)) (by decide) (fun K hK => ?_)
        refine box_step ?hg (N := 12) ?hd (cs := #[.int .i64 0, .string (⟨#[]⟩ : ByteArray), .slice none 0 0]) (t := 70) ?hr ?_; (case hd => rfl); (case hg => rfl); (case hr => first | (go_simp; done) | (go_simp; rfl))
        intro g6 hg W' hbox hb
        have NE := Aside0.mk ((by rw [hg]; exact Nat.ne_of_lt (blk_lt B7.out)) : g7 ≠ g6)
        have n1_ := Aside0.mk (blk_below B7.out hb)
        have G6 := Aside0.mk ((by rw [hg]; exact below_size HB.out) : w2.heap.size ≤ g6)
        have n0_ := Aside0.mk (below_step HB.out hb)
        have B6 := Aside0.mk hbox
        clear HB B7
        have HB := n0_
        have B7 := n1_
        clear n1_
        clear n0_ hb hbox hg
        refine hK.out _ _ HB.out (fun _ => ?_)
        clear hK K
        refine norm_ (a' := ?_) ?_ ?_
        rotate_left
        ·
         show Act.put _ (some 12) _ = _
         simp only [Act.put, List.setIfInBounds_toArray, List.set_cons_zero, List.set_cons_succ, i64_w, i32_w]
         rfl
        exact norm_ (by simp only [putAll, Act.put, List.setIfInBounds_toArray, List.set_cons_zero, List.set_cons_succ]) (hCont (g6, g7) _ ⟨B6.out, B7.out, G6.out, G7.out, NE.out.symm, HB.out⟩)
      rintro ⟨g6, g7⟩ W6 ⟨h1, h2, h3, h4, h5, h6⟩
      have B6 := Aside0.mk h1
      have B7 := Aside0.mk h2
      have G6 := Aside0.mk h3
      have G7 := Aside0.mk h4
      have NE := Aside0.mk h5
      clear HB
      have HB := Aside0.mk h6
      clear h1 h2 h3 h4 h5 h6
      refine norm_ (a' := ?_) ?_ ?_
      rotate_left
      ·
       simp only [putAll, Act.put, List.setIfInBounds_toArray, List.set_cons_zero, List.set_cons_succ]
       rfl
      refine one_ (i := 12) (N := none) #[true, true, true, true, true, true, true, true, true, true, true, true, true, false] rfl rfl (one_of HT_.out (by kernel_rfl)) (by decide) (fun K hK => ?_)
      refine store_any (w0 := w2) (u := .agg #[.int .i64 (rd_T70 l2 i).f0, .string (rd_T70 l2 i).f1, .slice aA2 (rd_T70 l2 i).f2.length ac2]) rfl rfl rfl rfl rfl rfl rfl (by kernel_rfl) rfl B6.out rfl HB.out G6.out ?_
      intro W6 b1 hb1 hk1
      have b2 := hk1 _ _ _ B7.out NE.out.symm
      clear B6 B7 HB hk1
      have B6 := Aside0.mk b1
      have B7 := Aside0.mk b2
      have HB := Aside0.mk hb1
      clear b1 b2 hb1
      refine hK.out _ _ HB.out (fun _ => ?_)
      clear hK K
      refine one_ (i := 13) (N := none) #[true, true, true, true, true, true, true, true, true, true, true, true, true, true] rfl rfl (one_of HT_.out (by kernel_rfl)) (by decide) (fun K hK => ?_)
      refine store_any (w0 := w2) (u := .agg #[.int .i64 (rd_T70 m2 i).f0, .string (rd_T70 m2 i).f1, .slice bA2 (rd_T70 m2 i).f2.length bc2]) rfl rfl rfl rfl rfl rfl rfl (by kernel_rfl) rfl B7.out rfl HB.out G7.out ?_
      intro W7 b1 hb1 hk1
      have b2 := hk1 _ _ _ B6.out NE.out
      clear B6 B7 HB hk1
      have B7 := Aside0.mk b1
      have B6 := Aside0.mk b2
      have HB := Aside0.mk hb1
      clear b1 b2 hb1
      refine hK.out _ _ HB.out (fun _ => ?_)
      clear hK K
      refine done_ (done_of HT_.out (by kernel_rfl)) ?_
      clear ahr bhr
      go_upto_region 21 with (fail)
      have n0_ := Aside0.mk (And.intro B6.out B7.out)
      clear B6 B7
      have BB := n0_
      clear n0_
      have hr := HH.out
      rw [drop_rd z70 hi.out.1 C2.out, drop_rd z70 hi.out.1 C3.out, eqGo] at hr
      have HH0 := Aside0.mk hr
      clear hr HH
      obtain ⟨u, hu_, hr1⟩ := Option.bind_eq_some_iff.mp HH0.out
      have HH1 := Aside0.mk hr1
      clear hr1 HH0
      have HE := Aside0.mk (show relayplain_SameChart.el70 k (rd_T70 l2 i) (rd_T70 m2 i) = some u from hu_)
      clear hu_
      have hr := HE.out
      unfold relayplain_SameChart.el70 at hr
      clear HE
      have HE := Aside0.mk hr
      clear hr
      obtain ⟨z0, z1, z2, -, -, -⟩ := cells3 BB.out.1
      obtain ⟨y0, y1, y2, -, -, -⟩ := cells3 BB.out.2
      by_cases c0 : (rd_T70 l2 i).f0 = (rd_T70 m2 i).f0
      case neg =>
       have d0_0 : ((rd_T70 l2 i).f0 == (rd_T70 m2 i).f0) = false := beq_eq_false_iff_ne.mpr c0
       have d0_1 : ((rd_T70 l2 i).f0 != (rd_T70 m2 i).f0) = true := bne_iff_ne.mpr c0
       have hr := HE.out
       rw [if_neg c0] at hr
       clear HE c0
       have HE := Aside0.mk hr
       clear hr
       obtain rfl := Option.some.inj HE.out
       have hr := HH1.out
       rw [if_neg Bool.false_ne_true] at hr
       obtain rfl := Option.some.inj hr
       clear hr HE HH1
       have hr := H.out
       rw [if_neg Bool.false_ne_true] at hr
       obtain rfl := Option.some.inj hr
       clear hr H
       go_wp2
       go_ret
       exact ⟨rfl, below_step HW.out (by repeat (first | (with_reducible first | exact HB.out | apply below_alloc | apply pw_below_drewN | apply below_drew1) | exact HB.out))⟩
      have d0_0 : ((rd_T70 l2 i).f0 == (rd_T70 m2 i).f0) = true := beq_iff_eq.mpr c0
      have d0_1 : ((rd_T70 l2 i).f0 != (rd_T70 m2 i).f0) = false := bne_eq_false_iff_eq.mpr c0
      have hr := HE.out
      rw [if_pos c0] at hr
      clear HE c0
      have HE := Aside0.mk hr
      clear hr
      by_cases c1 : (rd_T70 l2 i).f1.toList = (rd_T70 m2 i).f1.toList
      case neg =>
       have d1_0 : ((rd_T70 l2 i).f1.toList == (rd_T70 m2 i).f1.toList) = false := beq_eq_false_iff_ne.mpr c1
       have d1_1 : ((rd_T70 l2 i).f1.toList != (rd_T70 m2 i).f1.toList) = true := bne_iff_ne.mpr c1
       have hr := HE.out
       rw [if_neg c1] at hr
       clear HE c1
       have HE := Aside0.mk hr
       clear hr
       obtain rfl := Option.some.inj HE.out
       have hr := HH1.out
       rw [if_neg Bool.false_ne_true] at hr
       obtain rfl := Option.some.inj hr
       clear hr HE HH1
       have hr := H.out
       rw [if_neg Bool.false_ne_true] at hr
       obtain rfl := Option.some.inj hr
       clear hr H
       go_wp2
       go_ret
       exact ⟨rfl, below_step HW.out (by repeat (first | (with_reducible first | exact HB.out | apply below_alloc | apply pw_below_drewN | apply below_drew1) | exact HB.out))⟩
      have d1_0 : ((rd_T70 l2 i).f1.toList == (rd_T70 m2 i).f1.toList) = true := beq_iff_eq.mpr c1
      have d1_1 : ((rd_T70 l2 i).f1.toList != (rd_T70 m2 i).f1.toList) = false := bne_eq_false_iff_eq.mpr c1
      have hr := HE.out
      rw [if_pos c1] at hr
      clear HE c1
      have HE := Aside0.mk hr
      clear hr
      obtain ⟨u2, hu2, hr⟩ := Option.bind_eq_some_iff.mp HE.out
      have A2 := Aside0.mk hu2
      clear HE hu2
      have HE := Aside0.mk hr
      clear hr
      cases u2
      case false =>
       have hr := HE.out
       rw [if_neg Bool.false_ne_true] at hr
       clear HE
       have HE := Aside0.mk hr
       clear hr
       obtain rfl := Option.some.inj HE.out
       have hr := HH1.out
       rw [if_neg Bool.false_ne_true] at hr
       obtain rfl := Option.some.inj hr
       clear hr HE HH1
       have hr := H.out
       rw [if_neg Bool.false_ne_true] at hr
       obtain rfl := Option.some.inj hr
       clear hr H
       go_wp2_with (first | (go_at_call 44; (with_reducible refine (relayplain_SameStmts.calls k _ _ (rd_T70 l2 i).f2 _ _ (rd_T70 m2 i).f2 _ _ ?side0 ?side1 ?side2 ?side3 A2.out).mono ?_); (case side0 => exact Kd.C_below ahc0 (by repeat (first | (with_reducible first | exact HB.out | apply below_alloc | apply pw_below_drewN | apply below_drew1) | exact HB.out))); (case side1 => exact ahl0); (case side2 => exact Kd.C_below bhc0 (by repeat (first | (with_reducible first | exact HB.out | apply below_alloc | apply pw_below_drewN | apply below_drew1) | exact HB.out))); (case side3 => exact bhl0); rintro e w' ⟨rfl, hb⟩; have n0_ := Aside0.mk (below_step (by repeat (first | (with_reducible first | exact HB.out | apply below_alloc | apply pw_below_drewN | apply below_drew1) | exact HB.out)) hb); have n1_ := Aside0.mk (And.intro (blk_below BB.out.1 hb) (blk_below BB.out.2 hb)); clear HB BB hb z0 z1 z2 y0 y1 y2; have HB := n0_; have BB := n1_; clear n0_ n1_; obtain ⟨z0, z1, z2, -, -, -⟩ := cells3 BB.out.1; obtain ⟨y0, y1, y2, -, -, -⟩ := cells3 BB.out.2))
       go_ret
       exact ⟨rfl, below_step HW.out (by repeat (first | (with_reducible first | exact HB.out | apply below_alloc | apply pw_below_drewN | apply below_drew1) | exact HB.out))⟩
      have hr := HE.out
      rw [if_pos rfl] at hr
      clear HE
      have HE := Aside0.mk hr
      clear hr
      obtain rfl := Option.some.inj HE.out
      have hr := HH1.out
      rw [if_pos rfl] at hr
      have HH := Aside0.mk hr
      clear hr HE HH1
      go_wp2_with (first | (go_at_call 44; (with_reducible refine (relayplain_SameStmts.calls k _ _ (rd_T70 l2 i).f2 _ _ (rd_T70 m2 i).f2 _ _ ?side0 ?side1 ?side2 ?side3 A2.out).mono ?_); (case side0 => exact Kd.C_below ahc0 (by repeat (first | (with_reducible first | exact HB.out | apply below_alloc | apply pw_below_drewN | apply below_drew1) | exact HB.out))); (case side1 => exact ahl0); (case side2 => exact Kd.C_below bhc0 (by repeat (first | (with_reducible first | exact HB.out | apply below_alloc | apply pw_below_drewN | apply below_drew1) | exact HB.out))); (case side3 => exact bhl0); rintro e w' ⟨rfl, hb⟩; have n0_ := Aside0.mk (below_step (by repeat (first | (with_reducible first | exact HB.out | apply below_alloc | apply pw_below_drewN | apply below_drew1) | exact HB.out)) hb); have n1_ := Aside0.mk (And.intro (blk_below BB.out.1 hb) (blk_below BB.out.2 hb)); clear HB BB hb z0 z1 z2 y0 y1 y2; have HB := n0_; have BB := n1_; clear n0_ n1_; obtain ⟨z0, z1, z2, -, -, -⟩ := cells3 BB.out.1; obtain ⟨y0, y1, y2, -, -, -⟩ := cells3 BB.out.2))
      have hw : wrap64 (i + 1) = i + 1 := by
       have := HM2.out
       have := hi.out
       have := C2.out
       unfold wrap64
       omega
      have h1 := hi.out
      have h2 := C2.out
      go_roundg (gk - 1)
      case measure => omega
      case rel => exact ⟨i + 1, by rw [hw], ⟨by omega⟩, ⟨HH.out⟩, ⟨(by repeat (first | (with_reducible first | exact HB.out | apply below_alloc | apply pw_below_drewN | apply below_drew1) | exact HB.out))⟩⟩
    have c2b0 : decide (i < (l1.length : Int)) = true := decide_eq_true c2
    have h0 := hi.out.1
    have c3 : i < (m1.length : Int) := by have := HL1.out; omega
    obtain ⟨aad, aA2, ac2, aA3, ac3, aA11, ac11, aA12, ac12, ae, ahr, ahl0, ahc0, ahl1, ahc1, ahl2, ahc2, ahl3, ahc3⟩ := el_T67 HR1.out i h0 c2
    cases ae
    obtain ⟨bad, bA2, bc2, bA3, bc3, bA11, bc11, bA12, bc12, be, bhr, bhl0, bhc0, bhl1, bhc1, bhl2, bhc2, bhl3, bhc3⟩ := el_T67 HS1.out i h0 c3
    cases be
    have p0 := eq_true h0
    have p1 := eq_true c2
    have q1 := eq_true c3
    have C2 := Aside0.mk c2
    have C3 := Aside0.mk c3
    clear h0 c2 c3
    go_upto_region 13 with (fail)
    have n0_ := Aside0.mk (below_drew1 HB.out)
    clear HB
    have HB := n0_
    clear n0_
    refine start_ (n := 14) (S := fun w' => Below w2.heap.size w2 w') (ds := []) #[false, false, false, false, false, false, false, false, false, false, false, false, false, false] (by kernel_rfl) rfl (by kernel_rfl) HB.out (fun _ => ?_)
    refine with_tabW relayplain_SameChart.tab13 relayplain_SameChart.bits13 (fun HT_ HW_ => ?_)
    generalize World.drew _ = W5 at HB ⊢
    refine pure_ (i := 0) (N := some 89) (v := ?_) (a' := ?_) #[true, false, false, false, false, false, false, false, false, false, false, false, false, false] rfl rfl (any_of HT_.out (by kernel_rfl)) (fun _ _ _ h => h) (Or.inl ⟨by rfl, ?_⟩) ?_ ?_
    rotate_left
    ·
     intro w'
     go_simp
     with_reducible rfl
    rotate_left
    ·
     simp only [Act.put, List.setIfInBounds_toArray, List.set_cons_zero, List.set_cons_succ, i64_w, i32_w]
     rfl
    refine pure_ (i := 2) (N := some 91) (v := ?_) (a' := ?_) #[true, false, true, false, false, false, false, false, false, false, false, false, false, false] rfl rfl (any_of HT_.out (by kernel_rfl)) (fun _ _ _ h => h) (Or.inl ⟨by rfl, ?_⟩) ?_ ?_
    rotate_left
    ·
     intro w'
     go_simp
     with_reducible rfl
    rotate_left
    ·
     simp only [Act.put, List.setIfInBounds_toArray, List.set_cons_zero, List.set_cons_succ, i64_w, i32_w]
     rfl
    refine pure_ (i := 5) (N := some 94) (v := ?_) (a' := ?_) #[true, false, true, false, false, true, false, false, false, false, false, false, false, false] rfl rfl (any_of HT_.out (by kernel_rfl)) (fun _ _ _ h => h) (Or.inl ⟨by rfl, ?_⟩) ?_ ?_
    rotate_left
    ·
     intro w'
     go_simp
     with_reducible rfl
    rotate_left
    ·
     simp only [Act.put, List.setIfInBounds_toArray, List.set_cons_zero, List.set_cons_succ, i64_w, i32_w]
     rfl
    refine pure_ (i := 7) (N := some 96) (v := ?_) (a' := ?_) #[true, false, true, false, false, true, false, true, false, false, false, false, false, false] rfl rfl (any_of HT_.out (by kernel_rfl)) (fun _ _ _ h => h) (Or.inl ⟨by rfl, ?_⟩) ?_ ?_
    rotate_left
    ·
     intro w'
     go_simp
     with_reducible rfl
    rotate_left
    ·
     simp only [Act.put, List.setIfInBounds_toArray, List.set_cons_zero, List.set_cons_succ, i64_w, i32_w]
     rfl
    refine take_ (i := 1) (N := some 90) (v := ?_) (a' := ?_) #[true, true, true, false, false, true, false, true, false, false, false, false, false, false] rfl rfl (take_ofW HT_.out HW_.out (by kernel_rfl)) (fun _ _ _ h => h) (Or.inl ⟨by rfl, ?_⟩) HB.out ?_ ?_
    rotate_left
    ·
     intro w' hS
     have s0 := lift_ hS Z1.out
     go_simp
     with_reducible rfl
    rotate_left
    ·
     simp only [Act.put, List.setIfInBounds_toArray, List.set_cons_zero, List.set_cons_succ, i64_w, i32_w]
     rfl
    refine pure_ (i := 3) (N := some 92) (v := ?_) (a' := ?_) #[true, true, true, true, false, true, false, true, false, false, false, false, false, false] rfl rfl (any_of HT_.out (by kernel_rfl)) (fun _ _ _ h => h) (Or.inl ⟨by rfl, ?_⟩) ?_ ?_
    rotate_left
    ·
     intro w'
     go_simp
     with_reducible rfl
    rotate_left
    ·
     simp only [Act.put, List.setIfInBounds_toArray, List.set_cons_zero, List.set_cons_succ, i64_w, i32_w]
     rfl
    refine take_ (i := 4) (N := some 93) (v := .agg #[.int .i64 (rd_T67 l1 i).f0, .string (rd_T67 l1 i).f1, .slice aA2 (rd_T67 l1 i).f2.length ac2, .slice aA3 (rd_T67 l1 i).f3.length ac3, .int .i64 (rd_T67 l1 i).f4.f0, .int .i64 (rd_T67 l1 i).f4.f1, .string (rd_T67 l1 i).f4.f2, .string (rd_T67 l1 i).f4.f3, .int .u8 (rd_T67 l1 i).f4.f4.f0, .int .u64 (rd_T67 l1 i).f4.f4.f1, .string (rd_T67 l1 i).f4.f4.f2, .slice aA11 (rd_T67 l1 i).f4.f5.length ac11, .slice aA12 (rd_T67 l1 i).f4.f6.length ac12, .int .u8 (rd_T67 l1 i).f4.f7, .int .i64 (rd_T67 l1 i).f4.f8, .int .i64 (rd_T67 l1 i).f4.f9, .int .i64 (rd_T67 l1 i).f4.f10, .int .i64 (rd_T67 l1 i).f4.f11]) (a' := ?_) #[true, true, true, true, true, true, false, true, false, false, false, false, false, false] rfl rfl (take_ofW HT_.out HW_.out (by kernel_rfl)) (fun _ _ _ h => h) (Or.inl ⟨by rfl, fun w' hS => load_run rfl rfl (spread_below hS ahr) Try.underlying67 rfl rfl (by kernel_rfl)⟩) HB.out ?_ ?_
    rotate_left
    ·
     simp only [Act.put, List.setIfInBounds_toArray, List.set_cons_zero, List.set_cons_succ, i64_w, i32_w]
     rfl
    refine take_ (i := 6) (N := some 95) (v := ?_) (a' := ?_) #[true, true, true, true, true, true, true, true, false, false, false, false, false, false] rfl rfl (take_ofW HT_.out HW_.out (by kernel_rfl)) (fun _ _ _ h => h) (Or.inl ⟨by rfl, ?_⟩) HB.out ?_ ?_
    rotate_left
    ·
     intro w' hS
     have s0 := lift_ hS Z4.out
     go_simp
     with_reducible rfl
    rotate_left
    ·
     simp only [Act.put, List.setIfInBounds_toArray, List.set_cons_zero, List.set_cons_succ, i64_w, i32_w]
     rfl
    refine pure_ (i := 8) (N := some 97) (v := ?_) (a' := ?_) #[true, true, true, true, true, true, true, true, true, false, false, false, false, false] rfl rfl (any_of HT_.out (by kernel_rfl)) (fun _ _ _ h => h) (Or.inl ⟨by rfl, ?_⟩) ?_ ?_
    rotate_left
    ·
     intro w'
     go_simp
     with_reducible rfl
    rotate_left
    ·
     simp only [Act.put, List.setIfInBounds_toArray, List.set_cons_zero, List.set_cons_succ, i64_w, i32_w]
     rfl
    refine take_ (i := 9) (N := some 98) (v := .agg #[.int .i64 (rd_T67 m1 i).f0, .string (rd_T67 m1 i).f1, .slice bA2 (rd_T67 m1 i).f2.length bc2, .slice bA3 (rd_T67 m1 i).f3.length bc3, .int .i64 (rd_T67 m1 i).f4.f0, .int .i64 (rd_T67 m1 i).f4.f1, .string (rd_T67 m1 i).f4.f2, .string (rd_T67 m1 i).f4.f3, .int .u8 (rd_T67 m1 i).f4.f4.f0, .int .u64 (rd_T67 m1 i).f4.f4.f1, .string (rd_T67 m1 i).f4.f4.f2, .slice bA11 (rd_T67 m1 i).f4.f5.length bc11, .slice bA12 (rd_T67 m1 i).f4.f6.length bc12, .int .u8 (rd_T67 m1 i).f4.f7, .int .i64 (rd_T67 m1 i).f4.f8, .int .i64 (rd_T67 m1 i).f4.f9, .int .i64 (rd_T67 m1 i).f4.f10, .int .i64 (rd_T67 m1 i).f4.f11]) (a' := ?_) #[true, true, true, true, true, true, true, true, true, true, false, false, false, false] rfl rfl (take_ofW HT_.out HW_.out (by kernel_rfl)) (fun _ _ _ h => h) (Or.inl ⟨by rfl, fun w' hS => load_run rfl rfl (spread_below hS bhr) Try.underlying67 rfl rfl (by kernel_rfl)⟩) HB.out ?_ ?_
    rotate_left
    ·
     simp only [Act.put, List.setIfInBounds_toArray, List.set_cons_zero, List.set_cons_succ, i64_w, i32_w]
     rfl
    refine join_ (σ := Nat × Nat) 2 #[true, true, true, true, true, true, true, true, true, true, true, true, false, false] (fun s_ => [(9, .pointer (some ⟨s_.1, 0, none⟩)), (10, .pointer (some ⟨s_.2, 0, none⟩))]) (fun s_ w' => w'.heap[s_.1]? = some (.cells #[.int .i64 0, .string (⟨#[]⟩ : ByteArray), .slice none 0 0, .slice none 0 0, .int .i64 0, .int .i64 0, .string (⟨#[]⟩ : ByteArray), .string (⟨#[]⟩ : ByteArray), .int .u8 0, .int .u64 0, .string (⟨#[]⟩ : ByteArray), .slice none 0 0, .slice none 0 0, .int .u8 0, .int .i64 0, .int .i64 0, .int .i64 0, .int .i64 0] 67 (0, 0)) ∧ w'.heap[s_.2]? = some (.cells #[.int .i64 0, .string (⟨#[]⟩ : ByteArray), .slice none 0 0, .slice none 0 0, .int .i64 0, .int .i64 0, .string (⟨#[]⟩ : ByteArray), .string (⟨#[]⟩ : ByteArray), .int .u8 0, .int .u64 0, .string (⟨#[]⟩ : ByteArray), .slice none 0 0, .slice none 0 0, .int .u8 0, .int .i64 0, .int .i64 0, .int .i64 0, .int .i64 0] 67 (0, 0)) ∧ w2.heap.size ≤ s_.1 ∧ w2.heap.size ≤ s_.2 ∧ s_.1 ≠ s_.2 ∧ Below w2.heap.size w2 w') ?_ ?_
    rotate_left
    ·
     intro hCont
     refine two_ (i := 10) (j := 11) (Ni := some 9) (Nj := some 10) #[true, true, true, true, true, true, true, true, true, true, true, false, false, false] #[true, true, true, true, true, true, true, true, true, true, false, true, false, false] rfl rfl rfl rfl (two_of HT_.out (by kernel_rfl)) (by decide) (by decide) (fun K hK => ?_) (fun K hK => ?_)
     ·
      skip
      refine box_step ?hg (N := 9) ?hd (cs := #[.int .i64 0, .string (⟨#[]⟩ : ByteArray), .slice none 0 0, .slice none 0 0, .int .i64 0, .int .i64 0, .string (⟨#[]⟩ : ByteArray), .string (⟨#[]⟩ : ByteArray), .int .u8 0, .int .u64 0, .string (⟨#[]⟩ : ByteArray), .slice none 0 0, .slice none 0 0, .int .u8 0, .int .i64 0, .int .i64 0, .int .i64 0, .int .i64 0]) (t := 67) ?hr ?_; (case hd => rfl); (case hg => rfl); (case hr => first | (go_simp; done) | (go_simp; rfl))
      intro g6 hg W' hbox hb
      have G6 := Aside0.mk ((by rw [hg]; exact below_size HB.out) : w2.heap.size ≤ g6)
      have n0_ := Aside0.mk (below_step HB.out hb)
      have B6 := Aside0.mk hbox
      clear HB
      have HB := n0_
      clear n0_ hb hbox hg
      refine hK.out _ _ HB.out (fun _ => ?_)
      clear hK K
      refine norm_ (a' := ?_) ?_ ?_
      rotate_left
      ·
       show Act.put _ (some 9) _ = _
       simp only [Act.put, List.setIfInBounds_toArray, List.set_cons_zero, List.set_cons_succ, i64_w, i32_w]
       rfl
      refine one_ (i := 11) (N := some 10) #[true, true, true, true, true, true, true, true, true, true, true, true, false, false] rfl rfl (one_of HT_.out (by kernel_rfl)) (by decide) (fun K hK => ?_)
      refine box_step ?hg (N := 10) ?hd (cs := #[.int .i64 0, .string (⟨#[]⟩ : ByteArray), .slice none 0 0, .slice none 0 0, .int .i64 0, .int .i64 0, .string (⟨#[]⟩ : ByteArray), .string (⟨#[]⟩ : ByteArray), .int .u8 0, .int .u64 0, .string (⟨#[]⟩ : ByteArray), .slice none 0 0, .slice none 0 0, .int .u8 0, .int .i64 0, .int .i64 0, .int .i64 0, .int .i64 0]) (t := 67) ?hr ?_; (case hd => rfl); (case hg => rfl); (case hr => first | (go_simp; done) | (go_simp; rfl))
      intro g7 hg W' hbox hb
      have NE := Aside0.mk ((by rw [hg]; exact Nat.ne_of_lt (blk_lt B6.out)) : g6 ≠ g7)
      have n1_ := Aside0.mk (blk_below B6.out hb)
      have G7 := Aside0.mk ((by rw [hg]; exact below_size HB.out) : w2.heap.size ≤ g7)
      have n0_ := Aside0.mk (below_step HB.out hb)
      have B7 := Aside0.mk hbox
      clear HB B6
      have HB := n0_
      have B6 := n1_
      clear n1_
      clear n0_ hb hbox hg
      refine hK.out _ _ HB.out (fun _ => ?_)
      clear hK K
      refine norm_ (a' := ?_) ?_ ?_
      rotate_left
      ·
       show Act.put _ (some 10) _ = _
       simp only [Act.put, List.setIfInBounds_toArray, List.set_cons_zero, List.set_cons_succ, i64_w, i32_w]
       rfl
      exact norm_ (by simp only [putAll, Act.put, List.setIfInBounds_toArray, List.set_cons_zero, List.set_cons_succ]) (hCont (g6, g7) _ ⟨B6.out, B7.out, G6.out, G7.out, NE.out, HB.out⟩)
     ·
      skip
      refine box_step ?hg (N := 10) ?hd (cs := #[.int .i64 0, .string (⟨#[]⟩ : ByteArray), .slice none 0 0, .slice none 0 0, .int .i64 0, .int .i64 0, .string (⟨#[]⟩ : ByteArray), .string (⟨#[]⟩ : ByteArray), .int .u8 0, .int .u64 0, .string (⟨#[]⟩ : ByteArray), .slice none 0 0, .slice none 0 0, .int .u8 0, .int .i64 0, .int .i64 0, .int .i64 0, .int .i64 0]) (t := 67) ?hr ?_; (case hd => rfl); (case hg => rfl); (case hr => first | (go_simp; done) | (go_simp; rfl))
      intro g7 hg W' hbox hb
      have G7 := Aside0.mk ((by rw [hg]; exact below_size HB.out) : w2.heap.size ≤ g7)
      have n0_ := Aside0.mk (below_step HB.out hb)
      have B7 := Aside0.mk hbox
      clear HB
      have HB := n0_
      clear n0_ hb hbox hg
      refine hK.out _ _ HB.out (fun _ => ?_)
      clear hK K
      refine norm_ (a' := ?_) ?_ ?_
      rotate_left
      ·
       show Act.put _ (some 10) _ = _
       simp only [Act.put, List.setIfInBounds_toArray, List.set_cons_zero, List.set_cons_succ, i64_w, i32_w]
       rfl
      refine one_ (i := 10) (N := some 9) #[true, true, true, true, true, true, true, true, true, true, true, true, false, false] rfl rfl (one_of HT_.out (by kernel_rfl)) (by decide) (fun K hK => ?_)
      refine box_step ?hg (N := 9) ?hd (cs := #[.int .i64 0, .string (⟨#[]⟩ : ByteArray), .slice none 0 0, .slice none 0 0, .int .i64 0, .int .i64 0, .string (⟨#[]⟩ : ByteArray), .string (⟨#[]⟩ : ByteArray), .int .u8 0, .int .u64 0, .string (⟨#[]⟩ : ByteArray), .slice none 0 0, .slice none 0 0, .int .u8 0, .int .i64 0, .int .i64 0, .int .i64 0, .int .i64 0]) (t := 67) ?hr ?_; (case hd => rfl); (case hg => rfl); (case hr => first | (go_simp; done) | (go_simp; rfl))
      intro g6 hg W' hbox hb
      have NE := Aside0.mk ((by rw [hg]; exact Nat.ne_of_lt (blk_lt B7.out)) : g7 ≠ g6)
      have n1_ := Aside0.mk (blk_below B7.out hb)
      have G6 := Aside0.mk ((by rw [hg]; exact below_size HB.out) : w2.heap.size ≤ g6)
      have n0_ := Aside0.mk (below_step HB.out hb)
      have B6 := Aside0.mk hbox
      clear HB B7
      have HB := n0_
      have B7 := n1_
      clear n1_
      clear n0_ hb hbox hg
      refine hK.out _ _ HB.out (fun _ => ?_)
      clear hK K
      refine norm_ (a' := ?_) ?_ ?_
      rotate_left
      ·
       show Act.put _ (some 9) _ = _
       simp only [Act.put, List.setIfInBounds_toArray, List.set_cons_zero, List.set_cons_succ, i64_w, i32_w]
       rfl
      exact norm_ (by simp only [putAll, Act.put, List.setIfInBounds_toArray, List.set_cons_zero, List.set_cons_succ]) (hCont (g6, g7) _ ⟨B6.out, B7.out, G6.out, G7.out, NE.out.symm, HB.out⟩)
    rintro ⟨g6, g7⟩ W6 ⟨h1, h2, h3, h4, h5, h6⟩
    have B6 := Aside0.mk h1
    have B7 := Aside0.mk h2
    have G6 := Aside0.mk h3
    have G7 := Aside0.mk h4
    have NE := Aside0.mk h5
    clear HB
    have HB := Aside0.mk h6
    clear h1 h2 h3 h4 h5 h6
    refine norm_ (a' := ?_) ?_ ?_
    rotate_left
    ·
     simp only [putAll, Act.put, List.setIfInBounds_toArray, List.set_cons_zero, List.set_cons_succ]
     rfl
    refine one_ (i := 12) (N := none) #[true, true, true, true, true, true, true, true, true, true, true, true, true, false] rfl rfl (one_of HT_.out (by kernel_rfl)) (by decide) (fun K hK => ?_)
    refine store_any (w0 := w2) (u := .agg #[.int .i64 (rd_T67 l1 i).f0, .string (rd_T67 l1 i).f1, .slice aA2 (rd_T67 l1 i).f2.length ac2, .slice aA3 (rd_T67 l1 i).f3.length ac3, .int .i64 (rd_T67 l1 i).f4.f0, .int .i64 (rd_T67 l1 i).f4.f1, .string (rd_T67 l1 i).f4.f2, .string (rd_T67 l1 i).f4.f3, .int .u8 (rd_T67 l1 i).f4.f4.f0, .int .u64 (rd_T67 l1 i).f4.f4.f1, .string (rd_T67 l1 i).f4.f4.f2, .slice aA11 (rd_T67 l1 i).f4.f5.length ac11, .slice aA12 (rd_T67 l1 i).f4.f6.length ac12, .int .u8 (rd_T67 l1 i).f4.f7, .int .i64 (rd_T67 l1 i).f4.f8, .int .i64 (rd_T67 l1 i).f4.f9, .int .i64 (rd_T67 l1 i).f4.f10, .int .i64 (rd_T67 l1 i).f4.f11]) rfl rfl rfl rfl rfl rfl rfl (by kernel_rfl) rfl B6.out rfl HB.out G6.out ?_
    intro W6 b1 hb1 hk1
    have b2 := hk1 _ _ _ B7.out NE.out.symm
    clear B6 B7 HB hk1
    have B6 := Aside0.mk b1
    have B7 := Aside0.mk b2
    have HB := Aside0.mk hb1
    clear b1 b2 hb1
    refine hK.out _ _ HB.out (fun _ => ?_)
    clear hK K
    refine one_ (i := 13) (N := none) #[true, true, true, true, true, true, true, true, true, true, true, true, true, true] rfl rfl (one_of HT_.out (by kernel_rfl)) (by decide) (fun K hK => ?_)
    refine store_any (w0 := w2) (u := .agg #[.int .i64 (rd_T67 m1 i).f0, .string (rd_T67 m1 i).f1, .slice bA2 (rd_T67 m1 i).f2.length bc2, .slice bA3 (rd_T67 m1 i).f3.length bc3, .int .i64 (rd_T67 m1 i).f4.f0, .int .i64 (rd_T67 m1 i).f4.f1, .string (rd_T67 m1 i).f4.f2, .string (rd_T67 m1 i).f4.f3, .int .u8 (rd_T67 m1 i).f4.f4.f0, .int .u64 (rd_T67 m1 i).f4.f4.f1, .string (rd_T67 m1 i).f4.f4.f2, .slice bA11 (rd_T67 m1 i).f4.f5.length bc11, .slice bA12 (rd_T67 m1 i).f4.f6.length bc12, .int .u8 (rd_T67 m1 i).f4.f7, .int .i64 (rd_T67 m1 i).f4.f8, .int .i64 (rd_T67 m1 i).f4.f9, .int .i64 (rd_T67 m1 i).f4.f10, .int .i64 (rd_T67 m1 i).f4.f11]) rfl rfl rfl rfl rfl rfl rfl (by kernel_rfl) rfl B7.out rfl HB.out G7.out ?_
    intro W7 b1 hb1 hk1
    have b2 := hk1 _ _ _ B6.out NE.out
    clear B6 B7 HB hk1
    have B7 := Aside0.mk b1
    have B6 := Aside0.mk b2
    have HB := Aside0.mk hb1
    clear b1 b2 hb1
    refine hK.out _ _ HB.out (fun _ => ?_)
    clear hK K
    refine done_ (done_of HT_.out (by kernel_rfl)) ?_
    clear ahr bhr
    go_upto_region 14 with (fail)
    have n0_ := Aside0.mk (And.intro B6.out B7.out)
    clear B6 B7
    have BB := n0_
    clear n0_
    have hr := HH.out
    rw [drop_rd z67 hi.out.1 C2.out, drop_rd z67 hi.out.1 C3.out, eqGo] at hr
    have HH0 := Aside0.mk hr
    clear hr HH
    obtain ⟨u, hu_, hr1⟩ := Option.bind_eq_some_iff.mp HH0.out
    have HH1 := Aside0.mk hr1
    clear hr1 HH0
    have HE := Aside0.mk (show relayplain_SameChart.el67 k (rd_T67 l1 i) (rd_T67 m1 i) = some u from hu_)
    clear hu_
    have hr := HE.out
    unfold relayplain_SameChart.el67 at hr
    clear HE
    have HE := Aside0.mk hr
    clear hr
    obtain ⟨z0, z1, z2, z3, z4, z5, z6, z7, z8, z9, z10, z11, z12, z13, z14, z15, z16, z17, -, -, -, -, -, -, -, -, -, -, -, -, -, -, -, -, -, -⟩ := cells18 BB.out.1
    obtain ⟨y0, y1, y2, y3, y4, y5, y6, y7, y8, y9, y10, y11, y12, y13, y14, y15, y16, y17, -, -, -, -, -, -, -, -, -, -, -, -, -, -, -, -, -, -⟩ := cells18 BB.out.2
    by_cases c0 : (rd_T67 l1 i).f0 = (rd_T67 m1 i).f0
    case neg =>
     have d0_0 : ((rd_T67 l1 i).f0 == (rd_T67 m1 i).f0) = false := beq_eq_false_iff_ne.mpr c0
     have d0_1 : ((rd_T67 l1 i).f0 != (rd_T67 m1 i).f0) = true := bne_iff_ne.mpr c0
     have hr := HE.out
     rw [if_neg c0] at hr
     clear HE c0
     have HE := Aside0.mk hr
     clear hr
     obtain rfl := Option.some.inj HE.out
     have hr := HH1.out
     rw [if_neg Bool.false_ne_true] at hr
     obtain rfl := Option.some.inj hr
     clear hr HE HH1
     have hr := H.out
     rw [if_neg Bool.false_ne_true] at hr
     obtain rfl := Option.some.inj hr
     clear hr H
     go_wp2
     go_ret
     exact ⟨rfl, below_step HW.out (by repeat (first | (with_reducible first | exact HB.out | apply below_alloc | apply pw_below_drewN | apply below_drew1) | exact HB.out))⟩
    have d0_0 : ((rd_T67 l1 i).f0 == (rd_T67 m1 i).f0) = true := beq_iff_eq.mpr c0
    have d0_1 : ((rd_T67 l1 i).f0 != (rd_T67 m1 i).f0) = false := bne_eq_false_iff_eq.mpr c0
    have hr := HE.out
    rw [if_pos c0] at hr
    clear HE c0
    have HE := Aside0.mk hr
    clear hr
    by_cases c1 : (rd_T67 l1 i).f1.toList = (rd_T67 m1 i).f1.toList
    case neg =>
     have d1_0 : ((rd_T67 l1 i).f1.toList == (rd_T67 m1 i).f1.toList) = false := beq_eq_false_iff_ne.mpr c1
     have d1_1 : ((rd_T67 l1 i).f1.toList != (rd_T67 m1 i).f1.toList) = true := bne_iff_ne.mpr c1
     have hr := HE.out
     rw [if_neg c1] at hr
     clear HE c1
     have HE := Aside0.mk hr
     clear hr
     obtain rfl := Option.some.inj HE.out
     have hr := HH1.out
     rw [if_neg Bool.false_ne_true] at hr
     obtain rfl := Option.some.inj hr
     clear hr HE HH1
     have hr := H.out
     rw [if_neg Bool.false_ne_true] at hr
     obtain rfl := Option.some.inj hr
     clear hr H
     go_wp2
     go_ret
     exact ⟨rfl, below_step HW.out (by repeat (first | (with_reducible first | exact HB.out | apply below_alloc | apply pw_below_drewN | apply below_drew1) | exact HB.out))⟩
    have d1_0 : ((rd_T67 l1 i).f1.toList == (rd_T67 m1 i).f1.toList) = true := beq_iff_eq.mpr c1
    have d1_1 : ((rd_T67 l1 i).f1.toList != (rd_T67 m1 i).f1.toList) = false := bne_eq_false_iff_eq.mpr c1
    have hr := HE.out
    rw [if_pos c1] at hr
    clear HE c1
    have HE := Aside0.mk hr
    clear hr
    obtain ⟨u2, hu2, hr⟩ := Option.bind_eq_some_iff.mp HE.out
    have A2 := Aside0.mk hu2
    clear HE hu2
    have HE := Aside0.mk hr
    clear hr
    cases u2
    case false =>
     have hr := HE.out
     rw [if_neg Bool.false_ne_true] at hr
     clear HE
     have HE := Aside0.mk hr
     clear hr
     obtain rfl := Option.some.inj HE.out
     have hr := HH1.out
     rw [if_neg Bool.false_ne_true] at hr
     obtain rfl := Option.some.inj hr
     clear hr HE HH1
     have hr := H.out
     rw [if_neg Bool.false_ne_true] at hr
     obtain rfl := Option.some.inj hr
     clear hr H
     go_wp2_with (first | (go_at_call 22; (with_reducible refine (slices_Equal_string_string.calls k _ _ (rd_T67 l1 i).f2 _ _ (rd_T67 m1 i).f2 _ _ ?side0 ?side1 ?side2 ?side3 A2.out).mono ?_); (case side0 => exact Kd.C_below ahc0 (by repeat (first | (with_reducible first | exact HB.out | apply below_alloc | apply pw_below_drewN | apply below_drew1) | exact HB.out))); (case side1 => exact ahl0); (case side2 => exact Kd.C_below bhc0 (by repeat (first | (with_reducible first | exact HB.out | apply below_alloc | apply pw_below_drewN | apply below_drew1) | exact HB.out))); (case side3 => exact bhl0); rintro e w' ⟨rfl, hb⟩; replace hb := Drawn0.below hb; have n0_ := Aside0.mk (below_step (by repeat (first | (with_reducible first | exact HB.out | apply below_alloc | apply pw_below_drewN | apply below_drew1) | exact HB.out)) hb); have n1_ := Aside0.mk (And.intro (blk_below BB.out.1 hb) (blk_below BB.out.2 hb)); clear HB BB hb z0 z1 z2 z3 z4 z5 z6 z7 z8 z9 z10 z11 z12 z13 z14 z15 z16 z17 y0 y1 y2 y3 y4 y5 y6 y7 y8 y9 y10 y11 y12 y13 y14 y15 y16 y17; have HB := n0_; have BB := n1_; clear n0_ n1_; obtain ⟨z0, z1, z2, z3, z4, z5, z6, z7, z8, z9, z10, z11, z12, z13, z14, z15, z16, z17, -, -, -, -, -, -, -, -, -, -, -, -, -, -, -, -, -, -⟩ := cells18 BB.out.1; obtain ⟨y0, y1, y2, y3, y4, y5, y6, y7, y8, y9, y10, y11, y12, y13, y14, y15, y16, y17, -, -, -, -, -, -, -, -, -, -, -, -, -, -, -, -, -, -⟩ := cells18 BB.out.2))
     go_ret
     exact ⟨rfl, below_step HW.out (by repeat (first | (with_reducible first | exact HB.out | apply below_alloc | apply pw_below_drewN | apply below_drew1) | exact HB.out))⟩
    have hr := HE.out
    rw [if_pos rfl] at hr
    clear HE
    have HE := Aside0.mk hr
    clear hr
    obtain ⟨u3, hu3, hr⟩ := Option.bind_eq_some_iff.mp HE.out
    have A3 := Aside0.mk hu3
    clear HE hu3
    have HE := Aside0.mk hr
    clear hr
    cases u3
    case false =>
     have hr := HE.out
     rw [if_neg Bool.false_ne_true] at hr
     clear HE
     have HE := Aside0.mk hr
     clear hr
     obtain rfl := Option.some.inj HE.out
     have hr := HH1.out
     rw [if_neg Bool.false_ne_true] at hr
     obtain rfl := Option.some.inj hr
     clear hr HE HH1
     have hr := H.out
     rw [if_neg Bool.false_ne_true] at hr
     obtain rfl := Option.some.inj hr
     clear hr H
     go_wp2_with (first | (go_at_call 22; (with_reducible refine (slices_Equal_string_string.calls k _ _ (rd_T67 l1 i).f2 _ _ (rd_T67 m1 i).f2 _ _ ?side0 ?side1 ?side2 ?side3 A2.out).mono ?_); (case side0 => exact Kd.C_below ahc0 (by repeat (first | (with_reducible first | exact HB.out | apply below_alloc | apply pw_below_drewN | apply below_drew1) | exact HB.out))); (case side1 => exact ahl0); (case side2 => exact Kd.C_below bhc0 (by repeat (first | (with_reducible first | exact HB.out | apply below_alloc | apply pw_below_drewN | apply below_drew1) | exact HB.out))); (case side3 => exact bhl0); rintro e w' ⟨rfl, hb⟩; replace hb := Drawn0.below hb; have n0_ := Aside0.mk (below_step (by repeat (first | (with_reducible first | exact HB.out | apply below_alloc | apply pw_below_drewN | apply below_drew1) | exact HB.out)) hb); have n1_ := Aside0.mk (And.intro (blk_below BB.out.1 hb) (blk_below BB.out.2 hb)); clear HB BB hb z0 z1 z2 z3 z4 z5 z6 z7 z8 z9 z10 z11 z12 z13 z14 z15 z16 z17 y0 y1 y2 y3 y4 y5 y6 y7 y8 y9 y10 y11 y12 y13 y14 y15 y16 y17; have HB := n0_; have BB := n1_; clear n0_ n1_; obtain ⟨z0, z1, z2, z3, z4, z5, z6, z7, z8, z9, z10, z11, z12, z13, z14, z15, z16, z17, -, -, -, -, -, -, -, -, -, -, -, -, -, -, -, -, -, -⟩ := cells18 BB.out.1; obtain ⟨y0, y1, y2, y3, y4, y5, y6, y7, y8, y9, y10, y11, y12, y13, y14, y15, y16, y17, -, -, -, -, -, -, -, -, -, -, -, -, -, -, -, -, -, -⟩ := cells18 BB.out.2) | (go_at_call 22; (with_reducible refine (slices_Equal_string_string.calls k _ _ (rd_T67 l1 i).f3 _ _ (rd_T67 m1 i).f3 _ _ ?side0 ?side1 ?side2 ?side3 A3.out).mono ?_); (case side0 => exact Kd.C_below ahc1 (by repeat (first | (with_reducible first | exact HB.out | apply below_alloc | apply pw_below_drewN | apply below_drew1) | exact HB.out))); (case side1 => exact ahl1); (case side2 => exact Kd.C_below bhc1 (by repeat (first | (with_reducible first | exact HB.out | apply below_alloc | apply pw_below_drewN | apply below_drew1) | exact HB.out))); (case side3 => exact bhl1); rintro e w' ⟨rfl, hb⟩; replace hb := Drawn0.below hb; have n0_ := Aside0.mk (below_step (by repeat (first | (with_reducible first | exact HB.out | apply below_alloc | apply pw_below_drewN | apply below_drew1) | exact HB.out)) hb); have n1_ := Aside0.mk (And.intro (blk_below BB.out.1 hb) (blk_below BB.out.2 hb)); clear HB BB hb z0 z1 z2 z3 z4 z5 z6 z7 z8 z9 z10 z11 z12 z13 z14 z15 z16 z17 y0 y1 y2 y3 y4 y5 y6 y7 y8 y9 y10 y11 y12 y13 y14 y15 y16 y17; have HB := n0_; have BB := n1_; clear n0_ n1_; obtain ⟨z0, z1, z2, z3, z4, z5, z6, z7, z8, z9, z10, z11, z12, z13, z14, z15, z16, z17, -, -, -, -, -, -, -, -, -, -, -, -, -, -, -, -, -, -⟩ := cells18 BB.out.1; obtain ⟨y0, y1, y2, y3, y4, y5, y6, y7, y8, y9, y10, y11, y12, y13, y14, y15, y16, y17, -, -, -, -, -, -, -, -, -, -, -, -, -, -, -, -, -, -⟩ := cells18 BB.out.2))
     go_ret
     exact ⟨rfl, below_step HW.out (by repeat (first | (with_reducible first | exact HB.out | apply below_alloc | apply pw_below_drewN | apply below_drew1) | exact HB.out))⟩
    have hr := HE.out
    rw [if_pos rfl] at hr
    clear HE
    have HE := Aside0.mk hr
    clear hr
    obtain ⟨u4, hu4, hr⟩ := Option.bind_eq_some_iff.mp HE.out
    have A4 := Aside0.mk hu4
    clear HE hu4
    have HE := Aside0.mk hr
    clear hr
    cases u4
    case false =>
     have hr := HE.out
     rw [if_neg Bool.false_ne_true] at hr
     clear HE
     have HE := Aside0.mk hr
     clear hr
     obtain rfl := Option.some.inj HE.out
     have hr := HH1.out
     rw [if_neg Bool.false_ne_true] at hr
     obtain rfl := Option.some.inj hr
     clear hr HE HH1
     have hr := H.out
     rw [if_neg Bool.false_ne_true] at hr
     obtain rfl := Option.some.inj hr
     clear hr H
     go_wp2_with (first | (go_at_call 22; (with_reducible refine (slices_Equal_string_string.calls k _ _ (rd_T67 l1 i).f2 _ _ (rd_T67 m1 i).f2 _ _ ?side0 ?side1 ?side2 ?side3 A2.out).mono ?_); (case side0 => exact Kd.C_below ahc0 (by repeat (first | (with_reducible first | exact HB.out | apply below_alloc | apply pw_below_drewN | apply below_drew1) | exact HB.out))); (case side1 => exact ahl0); (case side2 => exact Kd.C_below bhc0 (by repeat (first | (with_reducible first | exact HB.out | apply below_alloc | apply pw_below_drewN | apply below_drew1) | exact HB.out))); (case side3 => exact bhl0); rintro e w' ⟨rfl, hb⟩; replace hb := Drawn0.below hb; have n0_ := Aside0.mk (below_step (by repeat (first | (with_reducible first | exact HB.out | apply below_alloc | apply pw_below_drewN | apply below_drew1) | exact HB.out)) hb); have n1_ := Aside0.mk (And.intro (blk_below BB.out.1 hb) (blk_below BB.out.2 hb)); clear HB BB hb z0 z1 z2 z3 z4 z5 z6 z7 z8 z9 z10 z11 z12 z13 z14 z15 z16 z17 y0 y1 y2 y3 y4 y5 y6 y7 y8 y9 y10 y11 y12 y13 y14 y15 y16 y17; have HB := n0_; have BB := n1_; clear n0_ n1_; obtain ⟨z0, z1, z2, z3, z4, z5, z6, z7, z8, z9, z10, z11, z12, z13, z14, z15, z16, z17, -, -, -, -, -, -, -, -, -, -, -, -, -, -, -, -, -, -⟩ := cells18 BB.out.1; obtain ⟨y0, y1, y2, y3, y4, y5, y6, y7, y8, y9, y10, y11, y12, y13, y14, y15, y16, y17, -, -, -, -, -, -, -, -, -, -, -, -, -, -, -, -, -, -⟩ := cells18 BB.out.2) | (go_at_call 22; (with_reducible refine (slices_Equal_string_string.calls k _ _ (rd_T67 l1 i).f3 _ _ (rd_T67 m1 i).f3 _ _ ?side0 ?side1 ?side2 ?side3 A3.out).mono ?_); (case side0 => exact Kd.C_below ahc1 (by repeat (first | (with_reducible first | exact HB.out | apply below_alloc | apply pw_below_drewN | apply below_drew1) | exact HB.out))); (case side1 => exact ahl1); (case side2 => exact Kd.C_below bhc1 (by repeat (first | (with_reducible first | exact HB.out | apply below_alloc | apply pw_below_drewN | apply below_drew1) | exact HB.out))); (case side3 => exact bhl1); rintro e w' ⟨rfl, hb⟩; replace hb := Drawn0.below hb; have n0_ := Aside0.mk (below_step (by repeat (first | (with_reducible first | exact HB.out | apply below_alloc | apply pw_below_drewN | apply below_drew1) | exact HB.out)) hb); have n1_ := Aside0.mk (And.intro (blk_below BB.out.1 hb) (blk_below BB.out.2 hb)); clear HB BB hb z0 z1 z2 z3 z4 z5 z6 z7 z8 z9 z10 z11 z12 z13 z14 z15 z16 z17 y0 y1 y2 y3 y4 y5 y6 y7 y8 y9 y10 y11 y12 y13 y14 y15 y16 y17; have HB := n0_; have BB := n1_; clear n0_ n1_; obtain ⟨z0, z1, z2, z3, z4, z5, z6, z7, z8, z9, z10, z11, z12, z13, z14, z15, z16, z17, -, -, -, -, -, -, -, -, -, -, -, -, -, -, -, -, -, -⟩ := cells18 BB.out.1; obtain ⟨y0, y1, y2, y3, y4, y5, y6, y7, y8, y9, y10, y11, y12, y13, y14, y15, y16, y17, -, -, -, -, -, -, -, -, -, -, -, -, -, -, -, -, -, -⟩ := cells18 BB.out.2) | (go_at_call 43; (with_reducible refine (relayplain_SameExpr.calls k (rd_T67 l1 i).f4 (rd_T67 m1 i).f4 _ _ _ _ _ _ _ _ _ _ ?side0 ?side1 ?side2 ?side3 ?side4 ?side5 ?side6 ?side7 A4.out).mono ?_); (case side0 => exact Kd.C_below ahc2 (by repeat (first | (with_reducible first | exact HB.out | apply below_alloc | apply pw_below_drewN | apply below_drew1) | exact HB.out))); (case side1 => exact ahl2); (case side2 => exact Kd.C_below ahc3 (by repeat (first | (with_reducible first | exact HB.out | apply below_alloc | apply pw_below_drewN | apply below_drew1) | exact HB.out))); (case side3 => exact ahl3); (case side4 => exact Kd.C_below bhc2 (by repeat (first | (with_reducible first | exact HB.out | apply below_alloc | apply pw_below_drewN | apply below_drew1) | exact HB.out))); (case side5 => exact bhl2); (case side6 => exact Kd.C_below bhc3 (by repeat (first | (with_reducible first | exact HB.out | apply below_alloc | apply pw_below_drewN | apply below_drew1) | exact HB.out))); (case side7 => exact bhl3); rintro e w' ⟨rfl, hb⟩; have n0_ := Aside0.mk (below_step (by repeat (first | (with_reducible first | exact HB.out | apply below_alloc | apply pw_below_drewN | apply below_drew1) | exact HB.out)) hb); have n1_ := Aside0.mk (And.intro (blk_below BB.out.1 hb) (blk_below BB.out.2 hb)); clear HB BB hb z0 z1 z2 z3 z4 z5 z6 z7 z8 z9 z10 z11 z12 z13 z14 z15 z16 z17 y0 y1 y2 y3 y4 y5 y6 y7 y8 y9 y10 y11 y12 y13 y14 y15 y16 y17; have HB := n0_; have BB := n1_; clear n0_ n1_; obtain ⟨z0, z1, z2, z3, z4, z5, z6, z7, z8, z9, z10, z11, z12, z13, z14, z15, z16, z17, -, -, -, -, -, -, -, -, -, -, -, -, -, -, -, -, -, -⟩ := cells18 BB.out.1; obtain ⟨y0, y1, y2, y3, y4, y5, y6, y7, y8, y9, y10, y11, y12, y13, y14, y15, y16, y17, -, -, -, -, -, -, -, -, -, -, -, -, -, -, -, -, -, -⟩ := cells18 BB.out.2))
     go_ret
     exact ⟨rfl, below_step HW.out (by repeat (first | (with_reducible first | exact HB.out | apply below_alloc | apply pw_below_drewN | apply below_drew1) | exact HB.out))⟩
    have hr := HE.out
    rw [if_pos rfl] at hr
    clear HE
    have HE := Aside0.mk hr
    clear hr
    obtain rfl := Option.some.inj HE.out
    have hr := HH1.out
    rw [if_pos rfl] at hr
    have HH := Aside0.mk hr
    clear hr HE HH1
    go_wp2_with (first | (go_at_call 22; (with_reducible refine (slices_Equal_string_string.calls k _ _ (rd_T67 l1 i).f2 _ _ (rd_T67 m1 i).f2 _ _ ?side0 ?side1 ?side2 ?side3 A2.out).mono ?_); (case side0 => exact Kd.C_below ahc0 (by repeat (first | (with_reducible first | exact HB.out | apply below_alloc | apply pw_below_drewN | apply below_drew1) | exact HB.out))); (case side1 => exact ahl0); (case side2 => exact Kd.C_below bhc0 (by repeat (first | (with_reducible first | exact HB.out | apply below_alloc | apply pw_below_drewN | apply below_drew1) | exact HB.out))); (case side3 => exact bhl0); rintro e w' ⟨rfl, hb⟩; replace hb := Drawn0.below hb; have n0_ := Aside0.mk (below_step (by repeat (first | (with_reducible first | exact HB.out | apply below_alloc | apply pw_below_drewN | apply below_drew1) | exact HB.out)) hb); have n1_ := Aside0.mk (And.intro (blk_below BB.out.1 hb) (blk_below BB.out.2 hb)); clear HB BB hb z0 z1 z2 z3 z4 z5 z6 z7 z8 z9 z10 z11 z12 z13 z14 z15 z16 z17 y0 y1 y2 y3 y4 y5 y6 y7 y8 y9 y10 y11 y12 y13 y14 y15 y16 y17; have HB := n0_; have BB := n1_; clear n0_ n1_; obtain ⟨z0, z1, z2, z3, z4, z5, z6, z7, z8, z9, z10, z11, z12, z13, z14, z15, z16, z17, -, -, -, -, -, -, -, -, -, -, -, -, -, -, -, -, -, -⟩ := cells18 BB.out.1; obtain ⟨y0, y1, y2, y3, y4, y5, y6, y7, y8, y9, y10, y11, y12, y13, y14, y15, y16, y17, -, -, -, -, -, -, -, -, -, -, -, -, -, -, -, -, -, -⟩ := cells18 BB.out.2) | (go_at_call 22; (with_reducible refine (slices_Equal_string_string.calls k _ _ (rd_T67 l1 i).f3 _ _ (rd_T67 m1 i).f3 _ _ ?side0 ?side1 ?side2 ?side3 A3.out).mono ?_); (case side0 => exact Kd.C_below ahc1 (by repeat (first | (with_reducible first | exact HB.out | apply below_alloc | apply pw_below_drewN | apply below_drew1) | exact HB.out))); (case side1 => exact ahl1); (case side2 => exact Kd.C_below bhc1 (by repeat (first | (with_reducible first | exact HB.out | apply below_alloc | apply pw_below_drewN | apply below_drew1) | exact HB.out))); (case side3 => exact bhl1); rintro e w' ⟨rfl, hb⟩; replace hb := Drawn0.below hb; have n0_ := Aside0.mk (below_step (by repeat (first | (with_reducible first | exact HB.out | apply below_alloc | apply pw_below_drewN | apply below_drew1) | exact HB.out)) hb); have n1_ := Aside0.mk (And.intro (blk_below BB.out.1 hb) (blk_below BB.out.2 hb)); clear HB BB hb z0 z1 z2 z3 z4 z5 z6 z7 z8 z9 z10 z11 z12 z13 z14 z15 z16 z17 y0 y1 y2 y3 y4 y5 y6 y7 y8 y9 y10 y11 y12 y13 y14 y15 y16 y17; have HB := n0_; have BB := n1_; clear n0_ n1_; obtain ⟨z0, z1, z2, z3, z4, z5, z6, z7, z8, z9, z10, z11, z12, z13, z14, z15, z16, z17, -, -, -, -, -, -, -, -, -, -, -, -, -, -, -, -, -, -⟩ := cells18 BB.out.1; obtain ⟨y0, y1, y2, y3, y4, y5, y6, y7, y8, y9, y10, y11, y12, y13, y14, y15, y16, y17, -, -, -, -, -, -, -, -, -, -, -, -, -, -, -, -, -, -⟩ := cells18 BB.out.2) | (go_at_call 43; (with_reducible refine (relayplain_SameExpr.calls k (rd_T67 l1 i).f4 (rd_T67 m1 i).f4 _ _ _ _ _ _ _ _ _ _ ?side0 ?side1 ?side2 ?side3 ?side4 ?side5 ?side6 ?side7 A4.out).mono ?_); (case side0 => exact Kd.C_below ahc2 (by repeat (first | (with_reducible first | exact HB.out | apply below_alloc | apply pw_below_drewN | apply below_drew1) | exact HB.out))); (case side1 => exact ahl2); (case side2 => exact Kd.C_below ahc3 (by repeat (first | (with_reducible first | exact HB.out | apply below_alloc | apply pw_below_drewN | apply below_drew1) | exact HB.out))); (case side3 => exact ahl3); (case side4 => exact Kd.C_below bhc2 (by repeat (first | (with_reducible first | exact HB.out | apply below_alloc | apply pw_below_drewN | apply below_drew1) | exact HB.out))); (case side5 => exact bhl2); (case side6 => exact Kd.C_below bhc3 (by repeat (first | (with_reducible first | exact HB.out | apply below_alloc | apply pw_below_drewN | apply below_drew1) | exact HB.out))); (case side7 => exact bhl3); rintro e w' ⟨rfl, hb⟩; have n0_ := Aside0.mk (below_step (by repeat (first | (with_reducible first | exact HB.out | apply below_alloc | apply pw_below_drewN | apply below_drew1) | exact HB.out)) hb); have n1_ := Aside0.mk (And.intro (blk_below BB.out.1 hb) (blk_below BB.out.2 hb)); clear HB BB hb z0 z1 z2 z3 z4 z5 z6 z7 z8 z9 z10 z11 z12 z13 z14 z15 z16 z17 y0 y1 y2 y3 y4 y5 y6 y7 y8 y9 y10 y11 y12 y13 y14 y15 y16 y17; have HB := n0_; have BB := n1_; clear n0_ n1_; obtain ⟨z0, z1, z2, z3, z4, z5, z6, z7, z8, z9, z10, z11, z12, z13, z14, z15, z16, z17, -, -, -, -, -, -, -, -, -, -, -, -, -, -, -, -, -, -⟩ := cells18 BB.out.1; obtain ⟨y0, y1, y2, y3, y4, y5, y6, y7, y8, y9, y10, y11, y12, y13, y14, y15, y16, y17, -, -, -, -, -, -, -, -, -, -, -, -, -, -, -, -, -, -⟩ := cells18 BB.out.2))
    have hw : wrap64 (i + 1) = i + 1 := by
     have := HM1.out
     have := hi.out
     have := C2.out
     unfold wrap64
     omega
    have h1 := hi.out
    have h2 := C2.out
    go_roundg (gk - 1)
    case measure => omega
    case rel => exact ⟨i + 1, by rw [hw], ⟨by omega⟩, ⟨HH.out⟩, ⟨(by repeat (first | (with_reducible first | exact HB.out | apply below_alloc | apply pw_below_drewN | apply below_drew1) | exact HB.out))⟩⟩
  have c2b0 : decide (i < (l0.length : Int)) = true := decide_eq_true c2
  have h0 := hi.out.1
  have c3 : i < (m0.length : Int) := by have := HL0.out; omega
  obtain ⟨aad, aA3, ac3, ae, ahr, ahl0, ahc0⟩ := el_T58 HR0.out i h0 c2
  cases ae
  obtain ⟨bad, bA3, bc3, be, bhr, bhl0, bhc0⟩ := el_T58 HS0.out i h0 c3
  cases be
  have p0 := eq_true h0
  have p1 := eq_true c2
  have q1 := eq_true c3
  have C2 := Aside0.mk c2
  have C3 := Aside0.mk c3
  clear h0 c2 c3
  go_upto_region 6 with (fail)
  have n0_ := Aside0.mk (below_drew1 HB.out)
  clear HB
  have HB := n0_
  clear n0_
  refine start_ (n := 14) (S := fun w' => Below w2.heap.size w2 w') (ds := []) #[false, false, false, false, false, false, false, false, false, false, false, false, false, false] (by kernel_rfl) rfl (by kernel_rfl) HB.out (fun _ => ?_)
  refine with_tabW relayplain_SameChart.tab6 relayplain_SameChart.bits6 (fun HT_ HW_ => ?_)
  generalize World.drew _ = W5 at HB ⊢
  refine pure_ (i := 0) (N := some 45) (v := ?_) (a' := ?_) #[true, false, false, false, false, false, false, false, false, false, false, false, false, false] rfl rfl (any_of HT_.out (by kernel_rfl)) (fun _ _ _ h => h) (Or.inl ⟨by rfl, ?_⟩) ?_ ?_
  rotate_left
  ·
   intro w'
   go_simp
   with_reducible rfl
  rotate_left
  ·
   simp only [Act.put, List.setIfInBounds_toArray, List.set_cons_zero, List.set_cons_succ, i64_w, i32_w]
   rfl
  refine pure_ (i := 2) (N := some 47) (v := ?_) (a' := ?_) #[true, false, true, false, false, false, false, false, false, false, false, false, false, false] rfl rfl (any_of HT_.out (by kernel_rfl)) (fun _ _ _ h => h) (Or.inl ⟨by rfl, ?_⟩) ?_ ?_
  rotate_left
  ·
   intro w'
   go_simp
   with_reducible rfl
  rotate_left
  ·
   simp only [Act.put, List.setIfInBounds_toArray, List.set_cons_zero, List.set_cons_succ, i64_w, i32_w]
   rfl
  refine pure_ (i := 5) (N := some 50) (v := ?_) (a' := ?_) #[true, false, true, false, false, true, false, false, false, false, false, false, false, false] rfl rfl (any_of HT_.out (by kernel_rfl)) (fun _ _ _ h => h) (Or.inl ⟨by rfl, ?_⟩) ?_ ?_
  rotate_left
  ·
   intro w'
   go_simp
   with_reducible rfl
  rotate_left
  ·
   simp only [Act.put, List.setIfInBounds_toArray, List.set_cons_zero, List.set_cons_succ, i64_w, i32_w]
   rfl
  refine pure_ (i := 7) (N := some 52) (v := ?_) (a' := ?_) #[true, false, true, false, false, true, false, true, false, false, false, false, false, false] rfl rfl (any_of HT_.out (by kernel_rfl)) (fun _ _ _ h => h) (Or.inl ⟨by rfl, ?_⟩) ?_ ?_
  rotate_left
  ·
   intro w'
   go_simp
   with_reducible rfl
  rotate_left
  ·
   simp only [Act.put, List.setIfInBounds_toArray, List.set_cons_zero, List.set_cons_succ, i64_w, i32_w]
   rfl
  refine take_ (i := 1) (N := some 46) (v := ?_) (a' := ?_) #[true, true, true, false, false, true, false, true, false, false, false, false, false, false] rfl rfl (take_ofW HT_.out HW_.out (by kernel_rfl)) (fun _ _ _ h => h) (Or.inl ⟨by rfl, ?_⟩) HB.out ?_ ?_
  rotate_left
  ·
   intro w' hS
   have s0 := lift_ hS Z0.out
   go_simp
   with_reducible rfl
  rotate_left
  ·
   simp only [Act.put, List.setIfInBounds_toArray, List.set_cons_zero, List.set_cons_succ, i64_w, i32_w]
   rfl
  refine pure_ (i := 3) (N := some 48) (v := ?_) (a' := ?_) #[true, true, true, true, false, true, false, true, false, false, false, false, false, false] rfl rfl (any_of HT_.out (by kernel_rfl)) (fun _ _ _ h => h) (Or.inl ⟨by rfl, ?_⟩) ?_ ?_
  rotate_left
  ·
   intro w'
   go_simp
   with_reducible rfl
  rotate_left
  ·
   simp only [Act.put, List.setIfInBounds_toArray, List.set_cons_zero, List.set_cons_succ, i64_w, i32_w]
   rfl
  refine take_ (i := 4) (N := some 49) (v := .agg #[.int .i64 (rd_T58 l0 i).f0, .string (rd_T58 l0 i).f1, .bool (rd_T58 l0 i).f2, .slice aA3 (rd_T58 l0 i).f3.length ac3]) (a' := ?_) #[true, true, true, true, true, true, false, true, false, false, false, false, false, false] rfl rfl (take_ofW HT_.out HW_.out (by kernel_rfl)) (fun _ _ _ h => h) (Or.inl ⟨by rfl, fun w' hS => load_run rfl rfl (spread_below hS ahr) Try.underlying58 rfl rfl (by kernel_rfl)⟩) HB.out ?_ ?_
  rotate_left
  ·
   simp only [Act.put, List.setIfInBounds_toArray, List.set_cons_zero, List.set_cons_succ, i64_w, i32_w]
   rfl
  refine take_ (i := 6) (N := some 51) (v := ?_) (a' := ?_) #[true, true, true, true, true, true, true, true, false, false, false, false, false, false] rfl rfl (take_ofW HT_.out HW_.out (by kernel_rfl)) (fun _ _ _ h => h) (Or.inl ⟨by rfl, ?_⟩) HB.out ?_ ?_
  rotate_left
  ·
   intro w' hS
   have s0 := lift_ hS Z3.out
   go_simp
   with_reducible rfl
  rotate_left
  ·
   simp only [Act.put, List.setIfInBounds_toArray, List.set_cons_zero, List.set_cons_succ, i64_w, i32_w]
   rfl
  refine pure_ (i := 8) (N := some 53) (v := ?_) (a' := ?_) #[true, true, true, true, true, true, true, true, true, false, false, false, false, false] rfl rfl (any_of HT_.out (by kernel_rfl)) (fun _ _ _ h => h) (Or.inl ⟨by rfl, ?_⟩) ?_ ?_
  rotate_left
  ·
   intro w'
   go_simp
   with_reducible rfl
  rotate_left
  ·
   simp only [Act.put, List.setIfInBounds_toArray, List.set_cons_zero, List.set_cons_succ, i64_w, i32_w]
   rfl
  refine take_ (i := 9) (N := some 54) (v := .agg #[.int .i64 (rd_T58 m0 i).f0, .string (rd_T58 m0 i).f1, .bool (rd_T58 m0 i).f2, .slice bA3 (rd_T58 m0 i).f3.length bc3]) (a' := ?_) #[true, true, true, true, true, true, true, true, true, true, false, false, false, false] rfl rfl (take_ofW HT_.out HW_.out (by kernel_rfl)) (fun _ _ _ h => h) (Or.inl ⟨by rfl, fun w' hS => load_run rfl rfl (spread_below hS bhr) Try.underlying58 rfl rfl (by kernel_rfl)⟩) HB.out ?_ ?_
  rotate_left
  ·
   simp only [Act.put, List.setIfInBounds_toArray, List.set_cons_zero, List.set_cons_succ, i64_w, i32_w]
   rfl
  refine join_ (σ := Nat × Nat) 2 #[true, true, true, true, true, true, true, true, true, true, true, true, false, false] (fun s_ => [(6, .pointer (some ⟨s_.1, 0, none⟩)), (7, .pointer (some ⟨s_.2, 0, none⟩))]) (fun s_ w' => w'.heap[s_.1]? = some (.cells #[.int .i64 0, .string (⟨#[]⟩ : ByteArray), .bool false, .slice none 0 0] 58 (0, 0)) ∧ w'.heap[s_.2]? = some (.cells #[.int .i64 0, .string (⟨#[]⟩ : ByteArray), .bool false, .slice none 0 0] 58 (0, 0)) ∧ w2.heap.size ≤ s_.1 ∧ w2.heap.size ≤ s_.2 ∧ s_.1 ≠ s_.2 ∧ Below w2.heap.size w2 w') ?_ ?_
  rotate_left
  ·
   intro hCont
   refine two_ (i := 10) (j := 11) (Ni := some 6) (Nj := some 7) #[true, true, true, true, true, true, true, true, true, true, true, false, false, false] #[true, true, true, true, true, true, true, true, true, true, false, true, false, false] rfl rfl rfl rfl (two_of HT_.out (by kernel_rfl)) (by decide) (by decide) (fun K hK => ?_) (fun K hK => ?_)
   ·
    skip
    refine box_step ?hg (N := 6) ?hd (cs := #[.int .i64 0, .string (⟨#[]⟩ : ByteArray), .bool false, .slice none 0 0]) (t := 58) ?hr ?_; (case hd => rfl); (case hg => rfl); (case hr => first | (go_simp; done) | (go_simp; rfl))
    intro g6 hg W' hbox hb
    have G6 := Aside0.mk ((by rw [hg]; exact below_size HB.out) : w2.heap.size ≤ g6)
    have n0_ := Aside0.mk (below_step HB.out hb)
    have B6 := Aside0.mk hbox
    clear HB
    have HB := n0_
    clear n0_ hb hbox hg
    refine hK.out _ _ HB.out (fun _ => ?_)
    clear hK K
    refine norm_ (a' := ?_) ?_ ?_
    rotate_left
    ·
     show Act.put _ (some 6) _ = _
     simp only [Act.put, List.setIfInBounds_toArray, List.set_cons_zero, List.set_cons_succ, i64_w, i32_w]
     rfl
    refine one_ (i := 11) (N := some 7) #[true, true, true, true, true, true, true, true, true, true, true, true, false, false] rfl rfl (one_of HT_.out (by kernel_rfl)) (by decide) (fun K hK => ?_)
    refine box_step ?hg (N := 7) ?hd (cs := #[.int .i64 0, .string (⟨#[]⟩ : ByteArray), .bool false, .slice none 0 0]) (t := 58) ?hr ?_; (case hd => rfl); (case hg => rfl); (case hr => first | (go_simp; done) | (go_simp; rfl))
    intro g7 hg W' hbox hb
    have NE := Aside0.mk ((by rw [hg]; exact Nat.ne_of_lt (blk_lt B6.out)) : g6 ≠ g7)
    have n1_ := Aside0.mk (blk_below B6.out hb)
    have G7 := Aside0.mk ((by rw [hg]; exact below_size HB.out) : w2.heap.size ≤ g7)
    have n0_ := Aside0.mk (below_step HB.out hb)
    have B7 := Aside0.mk hbox
    clear HB B6
    have HB := n0_
    have B6 := n1_
    clear n1_
    clear n0_ hb hbox hg
    refine hK.out _ _ HB.out (fun _ => ?_)
    clear hK K
    refine norm_ (a' := ?_) ?_ ?_
    rotate_left
    ·
     show Act.put _ (some 7) _ = _
     simp only [Act.put, List.setIfInBounds_toArray, List.set_cons_zero, List.set_cons_succ, i64_w, i32_w]
     rfl
    exact norm_ (by simp only [putAll, Act.put, List.setIfInBounds_toArray, List.set_cons_zero, List.set_cons_succ]) (hCont (g6, g7) _ ⟨B6.out, B7.out, G6.out, G7.out, NE.out, HB.out⟩)
   ·
    skip
    refine box_step ?hg (N := 7) ?hd (cs := #[.int .i64 0, .string (⟨#[]⟩ : ByteArray), .bool false, .slice none 0 0]) (t := 58) ?hr ?_; (case hd => rfl); (case hg => rfl); (case hr => first | (go_simp; done) | (go_simp; rfl))
    intro g7 hg W' hbox hb
    have G7 := Aside0.mk ((by rw [hg]; exact below_size HB.out) : w2.heap.size ≤ g7)
    have n0_ := Aside0.mk (below_step HB.out hb)
    have B7 := Aside0.mk hbox
    clear HB
    have HB := n0_
    clear n0_ hb hbox hg
    refine hK.out _ _ HB.out (fun _ => ?_)
    clear hK K
    refine norm_ (a' := ?_) ?_ ?_
    rotate_left
    ·
     show Act.put _ (some 7) _ = _
     simp only [Act.put, List.setIfInBounds_toArray, List.set_cons_zero, List.set_cons_succ, i64_w, i32_w]
     rfl
    refine one_ (i := 10) (N := some 6) #[true, true, true, true, true, true, true, true, true, true, true, true, false, false] rfl rfl (one_of HT_.out (by kernel_rfl)) (by decide) (fun K hK => ?_)
    refine box_step ?hg (N := 6) ?hd (cs := #[.int .i64 0, .string (⟨#[]⟩ : ByteArray), .bool false, .slice none 0 0]) (t := 58) ?hr ?_; (case hd => rfl); (case hg => rfl); (case hr => first | (go_simp; done) | (go_simp; rfl))
    intro g6 hg W' hbox hb
    have NE := Aside0.mk ((by rw [hg]; exact Nat.ne_of_lt (blk_lt B7.out)) : g7 ≠ g6)
    have n1_ := Aside0.mk (blk_below B7.out hb)
    have G6 := Aside0.mk ((by rw [hg]; exact below_size HB.out) : w2.heap.size ≤ g6)
    have n0_ := Aside0.mk (below_step HB.out hb)
    have B6 := Aside0.mk hbox
    clear HB B7
    have HB := n0_
    have B7 := n1_
    clear n1_
    clear n0_ hb hbox hg
    refine hK.out _ _ HB.out (fun _ => ?_)
    clear hK K
    refine norm_ (a' := ?_) ?_ ?_
    rotate_left
    ·
     show Act.put _ (some 6) _ = _
     simp only [Act.put, List.setIfInBounds_toArray, List.set_cons_zero, List.set_cons_succ, i64_w, i32_w]
     rfl
    exact norm_ (by simp only [putAll, Act.put, List.setIfInBounds_toArray, List.set_cons_zero, List.set_cons_succ]) (hCont (g6, g7) _ ⟨B6.out, B7.out, G6.out, G7.out, NE.out.symm, HB.out⟩)
  rintro ⟨g6, g7⟩ W6 ⟨h1, h2, h3, h4, h5, h6⟩
  have B6 := Aside0.mk h1
  have B7 := Aside0.mk h2
  have G6 := Aside0.mk h3
  have G7 := Aside0.mk h4
  have NE := Aside0.mk h5
  clear HB
  have HB := Aside0.mk h6
  clear h1 h2 h3 h4 h5 h6
  refine norm_ (a' := ?_) ?_ ?_
  rotate_left
  ·
   simp only [putAll, Act.put, List.setIfInBounds_toArray, List.set_cons_zero, List.set_cons_succ]
   rfl
  refine one_ (i := 12) (N := none) #[true, true, true, true, true, true, true, true, true, true, true, true, true, false] rfl rfl (one_of HT_.out (by kernel_rfl)) (by decide) (fun K hK => ?_)
  refine store_any (w0 := w2) (u := .agg #[.int .i64 (rd_T58 l0 i).f0, .string (rd_T58 l0 i).f1, .bool (rd_T58 l0 i).f2, .slice aA3 (rd_T58 l0 i).f3.length ac3]) rfl rfl rfl rfl rfl rfl rfl (by kernel_rfl) rfl B6.out rfl HB.out G6.out ?_
  intro W6 b1 hb1 hk1
  have b2 := hk1 _ _ _ B7.out NE.out.symm
  clear B6 B7 HB hk1
  have B6 := Aside0.mk b1
  have B7 := Aside0.mk b2
  have HB := Aside0.mk hb1
  clear b1 b2 hb1
  refine hK.out _ _ HB.out (fun _ => ?_)
  clear hK K
  refine one_ (i := 13) (N := none) #[true, true, true, true, true, true, true, true, true, true, true, true, true, true] rfl rfl (one_of HT_.out (by kernel_rfl)) (by decide) (fun K hK => ?_)
  refine store_any (w0 := w2) (u := .agg #[.int .i64 (rd_T58 m0 i).f0, .string (rd_T58 m0 i).f1, .bool (rd_T58 m0 i).f2, .slice bA3 (rd_T58 m0 i).f3.length bc3]) rfl rfl rfl rfl rfl rfl rfl (by kernel_rfl) rfl B7.out rfl HB.out G7.out ?_
  intro W7 b1 hb1 hk1
  have b2 := hk1 _ _ _ B6.out NE.out
  clear B6 B7 HB hk1
  have B7 := Aside0.mk b1
  have B6 := Aside0.mk b2
  have HB := Aside0.mk hb1
  clear b1 b2 hb1
  refine hK.out _ _ HB.out (fun _ => ?_)
  clear hK K
  refine done_ (done_of HT_.out (by kernel_rfl)) ?_
  clear ahr bhr
  go_upto_region 7 with (fail)
  have n0_ := Aside0.mk (And.intro B6.out B7.out)
  clear B6 B7
  have BB := n0_
  clear n0_
  have hr := HH.out
  rw [drop_rd z58 hi.out.1 C2.out, drop_rd z58 hi.out.1 C3.out, eqGo] at hr
  have HH0 := Aside0.mk hr
  clear hr HH
  obtain ⟨u, hu_, hr1⟩ := Option.bind_eq_some_iff.mp HH0.out
  have HH1 := Aside0.mk hr1
  clear hr1 HH0
  have HE := Aside0.mk (show relayplain_SameChart.el58 k (rd_T58 l0 i) (rd_T58 m0 i) = some u from hu_)
  clear hu_
  have hr := HE.out
  unfold relayplain_SameChart.el58 at hr
  clear HE
  have HE := Aside0.mk hr
  clear hr
  obtain ⟨z0, z1, z2, z3, -, -, -, -⟩ := cells4 BB.out.1
  obtain ⟨y0, y1, y2, y3, -, -, -, -⟩ := cells4 BB.out.2
  by_cases c0 : (rd_T58 l0 i).f0 = (rd_T58 m0 i).f0
  case neg =>
   have d0_0 : ((rd_T58 l0 i).f0 == (rd_T58 m0 i).f0) = false := beq_eq_false_iff_ne.mpr c0
   have d0_1 : ((rd_T58 l0 i).f0 != (rd_T58 m0 i).f0) = true := bne_iff_ne.mpr c0
   have hr := HE.out
   rw [if_neg c0] at hr
   clear HE c0
   have HE := Aside0.mk hr
   clear hr
   obtain rfl := Option.some.inj HE.out
   have hr := HH1.out
   rw [if_neg Bool.false_ne_true] at hr
   obtain rfl := Option.some.inj hr
   clear hr HE HH1
   have hr := H.out
   rw [if_neg Bool.false_ne_true] at hr
   obtain rfl := Option.some.inj hr
   clear hr H
   go_wp2
   go_ret
   exact ⟨rfl, below_step HW.out (by repeat (first | (with_reducible first | exact HB.out | apply below_alloc | apply pw_below_drewN | apply below_drew1) | exact HB.out))⟩
  have d0_0 : ((rd_T58 l0 i).f0 == (rd_T58 m0 i).f0) = true := beq_iff_eq.mpr c0
  have d0_1 : ((rd_T58 l0 i).f0 != (rd_T58 m0 i).f0) = false := bne_eq_false_iff_eq.mpr c0
  have hr := HE.out
  rw [if_pos c0] at hr
  clear HE c0
  have HE := Aside0.mk hr
  clear hr
  by_cases c1 : (rd_T58 l0 i).f1.toList = (rd_T58 m0 i).f1.toList
  case neg =>
   have d1_0 : ((rd_T58 l0 i).f1.toList == (rd_T58 m0 i).f1.toList) = false := beq_eq_false_iff_ne.mpr c1
   have d1_1 : ((rd_T58 l0 i).f1.toList != (rd_T58 m0 i).f1.toList) = true := bne_iff_ne.mpr c1
   have hr := HE.out
   rw [if_neg c1] at hr
   clear HE c1
   have HE := Aside0.mk hr
   clear hr
   obtain rfl := Option.some.inj HE.out
   have hr := HH1.out
   rw [if_neg Bool.false_ne_true] at hr
   obtain rfl := Option.some.inj hr
   clear hr HE HH1
   have hr := H.out
   rw [if_neg Bool.false_ne_true] at hr
   obtain rfl := Option.some.inj hr
   clear hr H
   go_wp2
   go_ret
   exact ⟨rfl, below_step HW.out (by repeat (first | (with_reducible first | exact HB.out | apply below_alloc | apply pw_below_drewN | apply below_drew1) | exact HB.out))⟩
  have d1_0 : ((rd_T58 l0 i).f1.toList == (rd_T58 m0 i).f1.toList) = true := beq_iff_eq.mpr c1
  have d1_1 : ((rd_T58 l0 i).f1.toList != (rd_T58 m0 i).f1.toList) = false := bne_eq_false_iff_eq.mpr c1
  have hr := HE.out
  rw [if_pos c1] at hr
  clear HE c1
  have HE := Aside0.mk hr
  clear hr
  by_cases c2 : (rd_T58 l0 i).f2 = (rd_T58 m0 i).f2
  case neg =>
   have d2_0 : ((rd_T58 l0 i).f2 == (rd_T58 m0 i).f2) = false := beq_eq_false_iff_ne.mpr c2
   have d2_1 : ((rd_T58 l0 i).f2 != (rd_T58 m0 i).f2) = true := bne_iff_ne.mpr c2
   have hr := HE.out
   rw [if_neg c2] at hr
   clear HE c2
   have HE := Aside0.mk hr
   clear hr
   obtain rfl := Option.some.inj HE.out
   have hr := HH1.out
   rw [if_neg Bool.false_ne_true] at hr
   obtain rfl := Option.some.inj hr
   clear hr HE HH1
   have hr := H.out
   rw [if_neg Bool.false_ne_true] at hr
   obtain rfl := Option.some.inj hr
   clear hr H
   go_wp2
   go_ret
   exact ⟨rfl, below_step HW.out (by repeat (first | (with_reducible first | exact HB.out | apply below_alloc | apply pw_below_drewN | apply below_drew1) | exact HB.out))⟩
  have d2_0 : ((rd_T58 l0 i).f2 == (rd_T58 m0 i).f2) = true := beq_iff_eq.mpr c2
  have d2_1 : ((rd_T58 l0 i).f2 != (rd_T58 m0 i).f2) = false := bne_eq_false_iff_eq.mpr c2
  have hr := HE.out
  rw [if_pos c2] at hr
  clear HE c2
  have HE := Aside0.mk hr
  clear hr
  obtain ⟨u3, hu3, hr⟩ := Option.bind_eq_some_iff.mp HE.out
  have A3 := Aside0.mk hu3
  clear HE hu3
  have HE := Aside0.mk hr
  clear hr
  cases u3
  case false =>
   have hr := HE.out
   rw [if_neg Bool.false_ne_true] at hr
   clear HE
   have HE := Aside0.mk hr
   clear hr
   obtain rfl := Option.some.inj HE.out
   have hr := HH1.out
   rw [if_neg Bool.false_ne_true] at hr
   obtain rfl := Option.some.inj hr
   clear hr HE HH1
   have hr := H.out
   rw [if_neg Bool.false_ne_true] at hr
   obtain rfl := Option.some.inj hr
   clear hr H
   go_wp2_with (first | (go_at_call 42; (with_reducible refine (api_Link_42.calls k _ _ (rd_T58 l0 i).f3 _ _ (rd_T58 m0 i).f3 _ _ ?side0 ?side1 ?side2 ?side3 A3.out).mono ?_); (case side0 => exact Kd.C_below ahc0 (by repeat (first | (with_reducible first | exact HB.out | apply below_alloc | apply pw_below_drewN | apply below_drew1) | exact HB.out))); (case side1 => exact ahl0); (case side2 => exact Kd.C_below bhc0 (by repeat (first | (with_reducible first | exact HB.out | apply below_alloc | apply pw_below_drewN | apply below_drew1) | exact HB.out))); (case side3 => exact bhl0); rintro e w' ⟨rfl, hb⟩; replace hb := Drawn0.below hb; have n0_ := Aside0.mk (below_step (by repeat (first | (with_reducible first | exact HB.out | apply below_alloc | apply pw_below_drewN | apply below_drew1) | exact HB.out)) hb); have n1_ := Aside0.mk (And.intro (blk_below BB.out.1 hb) (blk_below BB.out.2 hb)); clear HB BB hb z0 z1 z2 z3 y0 y1 y2 y3; have HB := n0_; have BB := n1_; clear n0_ n1_; obtain ⟨z0, z1, z2, z3, -, -, -, -⟩ := cells4 BB.out.1; obtain ⟨y0, y1, y2, y3, -, -, -, -⟩ := cells4 BB.out.2))
   go_ret
   exact ⟨rfl, below_step HW.out (by repeat (first | (with_reducible first | exact HB.out | apply below_alloc | apply pw_below_drewN | apply below_drew1) | exact HB.out))⟩
  have hr := HE.out
  rw [if_pos rfl] at hr
  clear HE
  have HE := Aside0.mk hr
  clear hr
  obtain rfl := Option.some.inj HE.out
  have hr := HH1.out
  rw [if_pos rfl] at hr
  have HH := Aside0.mk hr
  clear hr HE HH1
  go_wp2_with (first | (go_at_call 42; (with_reducible refine (api_Link_42.calls k _ _ (rd_T58 l0 i).f3 _ _ (rd_T58 m0 i).f3 _ _ ?side0 ?side1 ?side2 ?side3 A3.out).mono ?_); (case side0 => exact Kd.C_below ahc0 (by repeat (first | (with_reducible first | exact HB.out | apply below_alloc | apply pw_below_drewN | apply below_drew1) | exact HB.out))); (case side1 => exact ahl0); (case side2 => exact Kd.C_below bhc0 (by repeat (first | (with_reducible first | exact HB.out | apply below_alloc | apply pw_below_drewN | apply below_drew1) | exact HB.out))); (case side3 => exact bhl0); rintro e w' ⟨rfl, hb⟩; replace hb := Drawn0.below hb; have n0_ := Aside0.mk (below_step (by repeat (first | (with_reducible first | exact HB.out | apply below_alloc | apply pw_below_drewN | apply below_drew1) | exact HB.out)) hb); have n1_ := Aside0.mk (And.intro (blk_below BB.out.1 hb) (blk_below BB.out.2 hb)); clear HB BB hb z0 z1 z2 z3 y0 y1 y2 y3; have HB := n0_; have BB := n1_; clear n0_ n1_; obtain ⟨z0, z1, z2, z3, -, -, -, -⟩ := cells4 BB.out.1; obtain ⟨y0, y1, y2, y3, -, -, -, -⟩ := cells4 BB.out.2))
  have hw : wrap64 (i + 1) = i + 1 := by
   have := HM0.out
   have := hi.out
   have := C2.out
   unfold wrap64
   omega
  have h1 := hi.out
  have h2 := C2.out
  go_roundg (gk - 1)
  case measure => omega
  case rel => exact ⟨i + 1, by rw [hw], ⟨by omega⟩, ⟨HH.out⟩, ⟨(by repeat (first | (with_reducible first | exact HB.out | apply below_alloc | apply pw_below_drewN | apply below_drew1) | exact HB.out))⟩⟩
theorem relayplain_SameChart.mono : ∀ a b c d e f k, LeO (relayplain_SameChart.f k a b c d e f) (relayplain_SameChart.f (k + 1) a b c d e f) := by
 intro a b c d e f k
 unfold relayplain_SameChart.f
 repeat' first
  | exact api_Link_42.mono _ _ _
  | exact slices_Equal_string_string.mono _ _ _
  | exact relayplain_SameStmts.mono _ _ _
  | exact relayplain_SameExpr.mono _ _ _
  | (refine eqGo_le (fun x y => ?_) _ _; unfold relayplain_SameChart.el58)
  | (refine eqGo_le (fun x y => ?_) _ _; unfold relayplain_SameChart.el67)
  | (refine eqGo_le (fun x y => ?_) _ _; unfold relayplain_SameChart.el70)
  | exact LeO.refl _
  | refine LeO.ite ?_ ?_
  | refine LeO.bind ?_ (fun _ => ?_)
end Go.Proofs.Ytmdkbhbconnmmaa.XSfc
