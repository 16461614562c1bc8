-- WRITTEN BY wip/tools/sfc/all.py
import Derived.Test.YtmdkbhbconnmmaaXSfcK
import Derived.Test.YtmdkbhbconnmmaaXSfcF
import Derived.Test.YtmdkbhbconnmmaaXSfcG
import Derived.Test.YtmdkbhbconnmmaaXSfcQ
namespace Go.Proofs.Ytmdkbhbconnmmaa.XSfc
open Go.RowKit Go.Proofs.YtmdkbhbconnmmaaW.PrintWords Go.Proofs.YtmdkbhbconnmmaaW.PrintLast Go.Proofs.YtmdkbhbconnmmaaW.PrintMore
attribute [local go_sem] max2_int min2_int max_two min_two max_three min_three max_four min_four
set_option linter.unusedVariables false
set_option linter.unusedSimpArgs false
def relaylaw08_SfcSames.T1 : Bool × List (List Nat × List Nat) := (true, [([], []), ([0], [0]), ([], []), ([2, 1], [2]), ([], []), ([], []), ([4, 1, 3, 0, 1, 4, 5], [1, 4]), ([5, 3, 6, 0, 1, 2, 3, 4, 5, 6], [3, 5])])
def relaylaw08_SfcSames.B1 : List Nat := [0, 1, 0, 7, 0, 0, 63, 127]
theorem relaylaw08_SfcSames.tab1 : rtab .any (opsOf Try.f5 1) = relaylaw08_SfcSames.T1 := by kernel_rfl
theorem relaylaw08_SfcSames.bits1 : waitsOk relaylaw08_SfcSames.T1.2 relaylaw08_SfcSames.B1 = true := by kernel_rfl
def relaylaw08_SfcSames.T2 : Bool × List (List Nat × List Nat) := (true, [([], []), ([], []), ([0, 1], [0, 1]), ([], []), ([], []), ([3, 4, 2], [3, 4]), ([2, 5], [2, 5]), ([6, 5], [6]), ([7], [7]), ([7], [7]), ([8, 9, 7, 7], [7, 8, 9]), ([7, 10], [7, 10]), ([11, 10], [11]), ([12], [12]), ([12], [12]), ([13, 14, 12, 12], [12, 13, 14]), ([12, 15], [12, 15]), ([16, 15], [16]), ([17], [17]), ([17], [17]), ([18, 19, 17, 17], [17, 18, 19]), ([17, 20], [17, 20]), ([21, 20, 0, 1, 2, 3, 4, 5, 6, 7, 8, 9, 10, 11, 12, 13, 14, 15, 16, 17, 18, 19, 20, 21], [21])])
def relaylaw08_SfcSames.B2 : List Nat := [0, 0, 3, 0, 0, 31, 63, 127, 255, 255, 1023, 2047, 4095, 8191, 8191, 32767, 65535, 131071, 262143, 262143, 1048575, 2097151, 4194303]
theorem relaylaw08_SfcSames.tab2 : rtab .any (opsOf Try.f5 2) = relaylaw08_SfcSames.T2 := by kernel_rfl
theorem relaylaw08_SfcSames.bits2 : waitsOk relaylaw08_SfcSames.T2.2 relaylaw08_SfcSames.B2 = true := by kernel_rfl
set_option maxHeartbeats 8000000 in
set_option maxRecDepth 100000 in
theorem relaylaw08_SfcSames.calls (k : Nat) (A0 : Option Addr) (c0 : Nat) (l0 : List S58) (A1 : Option Addr) (c1 : Nat) (l1 : List S67) (A2 : Option Addr) (c2 : Nat) (l2 : List S70) (D0 : Option Addr) (e0 : Nat) (m0 : List S58) (D1 : Option Addr) (e1 : Nat) (m1 : List S67) (D2 : Option Addr) (e2 : Nat) (m2 : List S70) (s0 : List S58) (s1 : List S67) (s2 : List S70) (t0 : List S58) (t1 : List S67) (t2 : List S70) (u : Bool) (w : World) (hr0 : Kd.C k58 w A0 l0.length l0) (hc0 : l0.length ≤ c0) (hs0 : Kd.C k58 w D0 m0.length m0) (hd0 : m0.length ≤ e0) (hr1 : Kd.C k67 w A1 l1.length l1) (hc1 : l1.length ≤ c1) (hs1 : Kd.C k67 w D1 m1.length m1) (hd1 : m1.length ≤ e1) (hr2 : Kd.C k70 w A2 l2.length l2) (hc2 : l2.length ≤ c2) (hs2 : Kd.C k70 w D2 m2.length m2) (hd2 : m2.length ≤ e2) (hx : relayplain_Chart.f k l0 l1 l2 = some (s0, s1, s2)) (hy : relayplain_Chart.f k m0 m1 m2 = some (t0, t1, t2)) (g1_ : sfc_Same.f k s0 s1 s2 t0 t1 t2 = some u) (g2_ : relayref08_Same.f k l0 l1 l2 m0 m1 m2 = some u) (g3_ : sfc_Same.f k s0 s1 s2 s0 s1 s2 = some true) (g4_ : relayplain_SameChart.f k s0 s1 s2 l0 l1 l2 = some true) (g5_ : relayplain_SameChart.f k t0 t1 t2 m0 m1 m2 = some true) :
  Calls Try.prog 5 #[.agg #[.slice A0 l0.length c0, .slice A1 l1.length c1, .slice A2 l2.length c2], .agg #[.slice D0 m0.length e0, .slice D1 m1.length e1, .slice D2 m2.length e2]] w fun e w' => e = .returned (.bool true) ∧ Below w.heap.size w w' := by
 have hu34 := Try.underlying34
 have HB := Aside0.mk (Below.refl w.heap.size w)
 have HR0 := Aside0.mk hr0
 have HC0 := Aside0.mk hc0
 have HS0 := Aside0.mk hs0
 have HD0 := Aside0.mk hd0
 have HR1 := Aside0.mk hr1
 have HC1 := Aside0.mk hc1
 have HS1 := Aside0.mk hs1
 have HD1 := Aside0.mk hd1
 have HR2 := Aside0.mk hr2
 have HC2 := Aside0.mk hc2
 have HS2 := Aside0.mk hs2
 have HD2 := Aside0.mk hd2
 have Qhx := Aside0.mk hx
 have Qhy := Aside0.mk hy
 have Qg1_ := Aside0.mk g1_
 have Qg2_ := Aside0.mk g2_
 have Qg3_ := Aside0.mk g3_
 have Qg4_ := Aside0.mk g4_
 have Qg5_ := Aside0.mk g5_
 clear hr0 hr1 hr2 hs0 hs1 hs2 hc0 hc1 hc2 hd0 hd1 hd2 hx hy g1_ g2_ g3_ g4_ g5_
 go_enter Try.func5, Try.ntmps5
 go_upto_region 1 with (first | ((with_reducible refine gate_dst (N := 2) rfl ?_); refine box_event ?hg (N := 2) ?hd (cs := #[.slice A0 l0.length c0, .slice A1 l1.length c1, .slice A2 l2.length c2]) (t := 34) ?hr ?_; (case hd => rfl); (case hg => rfl); (case hr => first | (go_simp; done) | (go_simp; rfl)); intro g1 hg w1 hbox hb; have n0_ := Aside0.mk (below_step (by repeat (first | (with_reducible first | exact HB.out | apply below_alloc | apply pw_below_drewN | apply below_drew1) | exact HB.out)) hb); have G1 := Aside0.mk ((by rw [hg]; exact below_size (by repeat (first | (with_reducible first | exact HB.out | apply below_alloc | apply pw_below_drewN | apply below_drew1) | exact HB.out))) : w.heap.size ≤ g1); have B1 := Aside0.mk hbox; clear HB; have HB := n0_; clear n0_ hb hbox hg) | ((with_reducible refine gate_dst (N := 3) rfl ?_); refine box_event ?hg (N := 3) ?hd (cs := #[.slice D0 m0.length e0, .slice D1 m1.length e1, .slice D2 m2.length e2]) (t := 34) ?hr ?_; (case hd => rfl); (case hg => rfl); (case hr => first | (go_simp; done) | (go_simp; rfl)); intro g2 hg w2 hbox hb; have n0_ := Aside0.mk (below_step (by repeat (first | (with_reducible first | exact HB.out | apply below_alloc | apply pw_below_drewN | apply below_drew1) | exact HB.out)) hb); have n1_ := Aside0.mk (blk_below B1.out hb); have NE1_2 := Aside0.mk ((by rw [hg]; exact Nat.ne_of_lt (blk_lt B1.out)) : g1 ≠ g2); clear B1; have B1 := n1_; clear n1_; have G2 := Aside0.mk ((by rw [hg]; exact below_size (by repeat (first | (with_reducible first | exact HB.out | apply below_alloc | apply pw_below_drewN | apply below_drew1) | exact HB.out))) : w.heap.size ≤ g2); have B2 := Aside0.mk hbox; clear HB; have HB := n0_; clear n0_ hb hbox hg))
 have HW := HB
 clear HB
 have HB := Aside0.mk (Below.refl w2.heap.size w2)
 obtain ⟨q0, q1, q2, -, -, -⟩ := cells3 B1.out
 obtain ⟨q3, q4, q5, -, -, -⟩ := cells3 B2.out
 clear B1 B2 G1 G2 NE1_2
 have n0_ := Aside0.mk (below_drew1 HB.out)
 clear HB
 have HB := n0_
 clear n0_
 refine start_ (n := 8) (S := fun w' => Below w2.heap.size w2 w') (ds := []) #[false, false, false, false, false, false, false, false] (by kernel_rfl) rfl (by kernel_rfl) HB.out (fun _ => ?_)
 refine with_tabW relaylaw08_SfcSames.tab1 relaylaw08_SfcSames.bits1 (fun HT_ HW_ => ?_)
 generalize World.drew _ = W5 at HB ⊢
 refine take_ (i := 0) (N := some 7) (v := ?_) (a' := ?_) #[true, false, false, false, false, false, false, false] rfl rfl (take_ofW HT_.out HW_.out (by kernel_rfl)) (fun _ _ _ h => h) (Or.inl ⟨by rfl, ?_⟩) HB.out ?_ ?_
 rotate_left
 ·
  intro w' hS
  have s0 := lift_ hS q0
  have s1 := lift_ hS q1
  have s2 := lift_ hS q2
  go_simp
  with_reducible rfl
 rotate_left
 ·
  simp only [Act.put, List.setIfInBounds_toArray, List.set_cons_zero, List.set_cons_succ, i64_w, i32_w]
  rfl
 refine take_ (i := 2) (N := some 9) (v := ?_) (a' := ?_) #[true, false, true, false, false, false, false, false] rfl rfl (take_ofW HT_.out HW_.out (by kernel_rfl)) (fun _ _ _ h => h) (Or.inl ⟨by rfl, ?_⟩) HB.out ?_ ?_
 rotate_left
 ·
  intro w' hS
  have s0 := lift_ hS q3
  have s1 := lift_ hS q4
  have s2 := lift_ hS q5
  go_simp
  with_reducible rfl
 rotate_left
 ·
  simp only [Act.put, List.setIfInBounds_toArray, List.set_cons_zero, List.set_cons_succ, i64_w, i32_w]
  rfl
 refine join_ (σ := Nat × Nat × Value × Value × Value × Value × Value × Value) 2 #[true, true, true, true, true, true, false, false] (fun s_ => [(5, .pointer (some ⟨s_.1, 0, none⟩)), (6, .pointer (some ⟨s_.2.1, 0, none⟩)), (8, .agg #[s_.2.2.1, s_.2.2.2.1, s_.2.2.2.2.1]), (10, .agg #[s_.2.2.2.2.2.1, s_.2.2.2.2.2.2.1, s_.2.2.2.2.2.2.2])]) (fun s_ w' => w'.heap[s_.1]? = some (.cells #[.slice none 0 0, .slice none 0 0, .slice none 0 0] 34 (0, 0)) ∧ w'.heap[s_.2.1]? = some (.cells #[.slice none 0 0, .slice none 0 0, .slice none 0 0] 34 (0, 0)) ∧ w2.heap.size ≤ s_.1 ∧ w2.heap.size ≤ s_.2.1 ∧ s_.1 ≠ s_.2.1 ∧ CV w' w2.heap.size (fun k => k ≠ s_.1 ∧ k ≠ s_.2.1) s_.2.2.1 s_.2.2.2.1 s_.2.2.2.2.1 s0 s1 s2 ∧ CV w' w2.heap.size (fun k => k ≠ s_.1 ∧ k ≠ s_.2.1) s_.2.2.2.2.2.1 s_.2.2.2.2.2.2.1 s_.2.2.2.2.2.2.2 t0 t1 t2 ∧ Below w2.heap.size w2 w') ?_ ?_
 rotate_left
 ·
  intro hCont
  refine three_ (i := 1) (j := 4) (k := 5) (Ni := some 8) (Nj := some 5) (Nk := some 6) #[true, true, true, false, false, false, false, false] #[true, false, true, false, true, false, false, false] #[true, false, true, false, false, true, false, false] rfl rfl rfl rfl rfl rfl (three_of HT_.out (by kernel_rfl)) (by decide) (by decide) (by decide) (fun K hK => ?_) (fun K hK => ?_) (fun K hK => ?_)
  ·
   skip
   refine goes_ Try.func12 (by kernel_rfl) rfl #[.agg #[.slice A0 l0.length c0, .slice A1 l1.length c1, .slice A2 l2.length c2]] (by rfl) rfl rfl (by (try simp only [List.map_toArray, List.map_cons, List.map_nil]); first | done | rfl) ?_
   refine (relayplain_Chart.calls k _ _ _ _ _ _ _ _ _ s0 s1 s2 _ (Kd.C_below HR0.out (below_step HW.out HB.out)) HC0.out (Kd.C_below HR1.out (below_step HW.out HB.out)) HC1.out (Kd.C_below HR2.out (below_step HW.out HB.out)) HC2.out Qhx.out).mono ?_
   rintro e w' ⟨x0, x1, x2, rfl, hv, hb⟩
   refine ⟨_, rfl, ?_⟩
   have n1_ := Aside0.mk ((hv).mono (fun _ h => h) (below_size HB.out))
   have VX := n1_
   clear n1_ hv
   have n0_ := Aside0.mk (below_step HB.out hb)
   clear HB hb
   have HB := n0_
   clear n0_
   refine hK.out _ _ HB.out (fun _ => ?_)
   clear hK K
   refine norm_ (a' := ?_) ?_ ?_
   rotate_left
   ·
    show Act.put _ (some 8) _ = _
    simp only [Act.put, List.setIfInBounds_toArray, List.set_cons_zero, List.set_cons_succ, i64_w, i32_w]
    rfl
   refine three_ (i := 3) (j := 4) (k := 5) (Ni := some 10) (Nj := some 5) (Nk := some 6) #[true, true, true, true, false, false, false, false] #[true, true, true, false, true, false, false, false] #[true, true, true, false, false, true, false, false] rfl rfl rfl rfl rfl rfl (three_of HT_.out (by kernel_rfl)) (by decide) (by decide) (by decide) (fun K hK => ?_) (fun K hK => ?_) (fun K hK => ?_)
   ·
    skip
    refine goes_ Try.func12 (by kernel_rfl) rfl #[.agg #[.slice D0 m0.length e0, .slice D1 m1.length e1, .slice D2 m2.length e2]] (by rfl) rfl rfl (by (try simp only [List.map_toArray, List.map_cons, List.map_nil]); first | done | rfl) ?_
    refine (relayplain_Chart.calls k _ _ _ _ _ _ _ _ _ t0 t1 t2 _ (Kd.C_below HS0.out (below_step HW.out HB.out)) HD0.out (Kd.C_below HS1.out (below_step HW.out HB.out)) HD1.out (Kd.C_below HS2.out (below_step HW.out HB.out)) HD2.out Qhy.out).mono ?_
    rintro e w' ⟨y0, y1, y2, rfl, hv, hb⟩
    refine ⟨_, rfl, ?_⟩
    have n1_ := Aside0.mk ((hv).mono (fun _ h => h) (below_size HB.out))
    have n0_ := Aside0.mk (VX.out.below hb)
    clear VX
    have VX := n0_
    clear n0_
    have VY := n1_
    clear n1_ hv
    have n0_ := Aside0.mk (below_step HB.out hb)
    clear HB hb
    have HB := n0_
    clear n0_
    refine hK.out _ _ HB.out (fun _ => ?_)
    clear hK K
    refine norm_ (a' := ?_) ?_ ?_
    rotate_left
    ·
     show Act.put _ (some 10) _ = _
     simp only [Act.put, List.setIfInBounds_toArray, List.set_cons_zero, List.set_cons_succ, i64_w, i32_w]
     rfl
    refine two_ (i := 4) (j := 5) (Ni := some 5) (Nj := some 6) #[true, true, true, true, true, false, false, false] #[true, true, true, true, false, true, false, false] rfl rfl rfl rfl (two_of HT_.out (by kernel_rfl)) (by decide) (by decide) (fun K hK => ?_) (fun K hK => ?_)
    ·
     skip
     refine box_step ?hg (N := 5) ?hd (cs := #[.slice none 0 0, .slice none 0 0, .slice none 0 0]) (t := 34) ?hr ?_; (case hd => rfl); (case hg => rfl); (case hr => first | (go_simp; done) | (go_simp; rfl))
     intro g5 hg W' hbox hb
     have G5 := Aside0.mk ((by rw [hg]; exact below_size HB.out) : w2.heap.size ≤ g5)
     have n0_ := Aside0.mk (VX.out.elder (Nat.le_of_eq hg.symm) hb)
     clear VX
     have VX := n0_
     clear n0_
     have n0_ := Aside0.mk (VY.out.elder (Nat.le_of_eq hg.symm) hb)
     clear VY
     have VY := n0_
     clear n0_
     have B5 := Aside0.mk hbox
     clear hbox hg
     have n0_ := Aside0.mk (below_step HB.out hb)
     clear HB hb
     have HB := n0_
     clear n0_
     refine hK.out _ _ HB.out (fun _ => ?_)
     clear hK K
     refine norm_ (a' := ?_) ?_ ?_
     rotate_left
     ·
      show Act.put _ (some 5) _ = _
      simp only [Act.put, List.setIfInBounds_toArray, List.set_cons_zero, List.set_cons_succ, i64_w, i32_w]
      rfl
     refine one_ (i := 5) (N := some 6) #[true, true, true, true, true, true, false, false] rfl rfl (one_of HT_.out (by kernel_rfl)) (by decide) (fun K hK => ?_)
     refine box_step ?hg (N := 6) ?hd (cs := #[.slice none 0 0, .slice none 0 0, .slice none 0 0]) (t := 34) ?hr ?_; (case hd => rfl); (case hg => rfl); (case hr => first | (go_simp; done) | (go_simp; rfl))
     intro g6 hg W' hbox hb
     have NE := Aside0.mk ((by rw [hg]; exact Nat.ne_of_lt (blk_lt B5.out)) : g5 ≠ g6)
     have G6 := Aside0.mk ((by rw [hg]; exact below_size HB.out) : w2.heap.size ≤ g6)
     have n0_ := Aside0.mk (blk_below B5.out hb)
     clear B5
     have B5 := n0_
     clear n0_
     have n0_ := Aside0.mk (VX.out.elder (Nat.le_of_eq hg.symm) hb)
     clear VX
     have VX := n0_
     clear n0_
     have n0_ := Aside0.mk (VY.out.elder (Nat.le_of_eq hg.symm) hb)
     clear VY
     have VY := n0_
     clear n0_
     have B6 := Aside0.mk hbox
     clear hbox hg
     have n0_ := Aside0.mk (below_step HB.out hb)
     clear HB hb
     have HB := n0_
     clear n0_
     refine hK.out _ _ HB.out (fun _ => ?_)
     clear hK K
     refine norm_ (a' := ?_) ?_ ?_
     rotate_left
     ·
      show Act.put _ (some 6) _ = _
      simp only [Act.put, List.setIfInBounds_toArray, List.set_cons_zero, List.set_cons_succ, i64_w, i32_w]
      rfl
     exact norm_ (by simp only [putAll, Act.put, List.setIfInBounds_toArray, List.set_cons_zero, List.set_cons_succ]) (hCont (g5, g6, x0, x1, x2, y0, y1, y2) _ ⟨B5.out, B6.out, G5.out, G6.out, NE.out, VX.out.mono (fun k h => by simp only [ne_eq, true_and, and_assoc] at h ⊢; omega) (Nat.le_refl _), VY.out.mono (fun k h => by simp only [ne_eq, true_and, and_assoc] at h ⊢; omega) (Nat.le_refl _), HB.out⟩)
    ·
     skip
     refine box_step ?hg (N := 6) ?hd (cs := #[.slice none 0 0, .slice none 0 0, .slice none 0 0]) (t := 34) ?hr ?_; (case hd => rfl); (case hg => rfl); (case hr => first | (go_simp; done) | (go_simp; rfl))
     intro g6 hg W' hbox hb
     have G6 := Aside0.mk ((by rw [hg]; exact below_size HB.out) : w2.heap.size ≤ g6)
     have n0_ := Aside0.mk (VX.out.elder (Nat.le_of_eq hg.symm) hb)
     clear VX
     have VX := n0_
     clear n0_
     have n0_ := Aside0.mk (VY.out.elder (Nat.le_of_eq hg.symm) hb)
     clear VY
     have VY := n0_
     clear n0_
     have B6 := Aside0.mk hbox
     clear hbox hg
     have n0_ := Aside0.mk (below_step HB.out hb)
     clear HB hb
     have HB := n0_
     clear n0_
     refine hK.out _ _ HB.out (fun _ => ?_)
     clear hK K
     refine norm_ (a' := ?_) ?_ ?_
     rotate_left
     ·
      show Act.put _ (some 6) _ = _
      simp only [Act.put, List.setIfInBounds_toArray, List.set_cons_zero, List.set_cons_succ, i64_w, i32_w]
      rfl
     refine one_ (i := 4) (N := some 5) #[true, true, true, true, true, true, false, false] rfl rfl (one_of HT_.out (by kernel_rfl)) (by decide) (fun K hK => ?_)
     refine box_step ?hg (N := 5) ?hd (cs := #[.slice none 0 0, .slice none 0 0, .slice none 0 0]) (t := 34) ?hr ?_; (case hd => rfl); (case hg => rfl); (case hr => first | (go_simp; done) | (go_simp; rfl))
     intro g5 hg W' hbox hb
     have NE := Aside0.mk ((by rw [hg]; exact Nat.ne_of_lt (blk_lt B6.out)) : g6 ≠ g5)
     have G5 := Aside0.mk ((by rw [hg]; exact below_size HB.out) : w2.heap.size ≤ g5)
     have n0_ := Aside0.mk (blk_below B6.out hb)
     clear B6
     have B6 := n0_
     clear n0_
     have n0_ := Aside0.mk (VX.out.elder (Nat.le_of_eq hg.symm) hb)
     clear VX
     have VX := n0_
     clear n0_
     have n0_ := Aside0.mk (VY.out.elder (Nat.le_of_eq hg.symm) hb)
     clear VY
     have VY := n0_
     clear n0_
     have B5 := Aside0.mk hbox
     clear hbox hg
     have n0_ := Aside0.mk (below_step HB.out hb)
     clear HB hb
     have HB := n0_
     clear n0_
     refine hK.out _ _ HB.out (fun _ => ?_)
     clear hK K
     refine norm_ (a' := ?_) ?_ ?_
     rotate_left
     ·
      show Act.put _ (some 5) _ = _
      simp only [Act.put, List.setIfInBounds_toArray, List.set_cons_zero, List.set_cons_succ, i64_w, i32_w]
      rfl
     exact norm_ (by simp only [putAll, Act.put, List.setIfInBounds_toArray, List.set_cons_zero, List.set_cons_succ]) (hCont (g5, g6, x0, x1, x2, y0, y1, y2) _ ⟨B5.out, B6.out, G5.out, G6.out, NE.out.symm, VX.out.mono (fun k h => by simp only [ne_eq, true_and, and_assoc] at h ⊢; omega) (Nat.le_refl _), VY.out.mono (fun k h => by simp only [ne_eq, true_and, and_assoc] at h ⊢; omega) (Nat.le_refl _), HB.out⟩)
   ·
    skip
    refine box_step ?hg (N := 5) ?hd (cs := #[.slice none 0 0, .slice none 0 0, .slice none 0 0]) (t := 34) ?hr ?_; (case hd => rfl); (case hg => rfl); (case hr => first | (go_simp; done) | (go_simp; rfl))
    intro g5 hg W' hbox hb
    have G5 := Aside0.mk ((by rw [hg]; exact below_size HB.out) : w2.heap.size ≤ g5)
    have n0_ := Aside0.mk (VX.out.elder (Nat.le_of_eq hg.symm) hb)
    clear VX
    have VX := n0_
    clear n0_
    have B5 := Aside0.mk hbox
    clear hbox hg
    have n0_ := Aside0.mk (below_step HB.out hb)
    clear HB hb
    have HB := n0_
    clear n0_
    refine hK.out _ _ HB.out (fun _ => ?_)
    clear hK K
    refine norm_ (a' := ?_) ?_ ?_
    rotate_left
    ·
     show Act.put _ (some 5) _ = _
     simp only [Act.put, List.setIfInBounds_toArray, List.set_cons_zero, List.set_cons_succ, i64_w, i32_w]
     rfl
    refine two_ (i := 3) (j := 5) (Ni := some 10) (Nj := some 6) #[true, true, true, true, true, false, false, false] #[true, true, true, false, true, true, false, false] rfl rfl rfl rfl (two_of HT_.out (by kernel_rfl)) (by decide) (by decide) (fun K hK => ?_) (fun K hK => ?_)
    ·
     skip
     refine goes_ Try.func12 (by kernel_rfl) rfl #[.agg #[.slice D0 m0.length e0, .slice D1 m1.length e1, .slice D2 m2.length e2]] (by rfl) rfl rfl (by (try simp only [List.map_toArray, List.map_cons, List.map_nil]); first | done | rfl) ?_
     refine (relayplain_Chart.calls k _ _ _ _ _ _ _ _ _ t0 t1 t2 _ (Kd.C_below HS0.out (below_step HW.out HB.out)) HD0.out (Kd.C_below HS1.out (below_step HW.out HB.out)) HD1.out (Kd.C_below HS2.out (below_step HW.out HB.out)) HD2.out Qhy.out).mono ?_
     rintro e w' ⟨y0, y1, y2, rfl, hv, hb⟩
     refine ⟨_, rfl, ?_⟩
     have n1_ := Aside0.mk (((hv).newb B5.out).mono (fun _ h => h) (below_size HB.out))
     have n0_ := Aside0.mk (blk_below B5.out hb)
     clear B5
     have B5 := n0_
     clear n0_
     have n0_ := Aside0.mk (VX.out.below hb)
     clear VX
     have VX := n0_
     clear n0_
     have VY := n1_
     clear n1_ hv
     have n0_ := Aside0.mk (below_step HB.out hb)
     clear HB hb
     have HB := n0_
     clear n0_
     refine hK.out _ _ HB.out (fun _ => ?_)
     clear hK K
     refine norm_ (a' := ?_) ?_ ?_
     rotate_left
     ·
      show Act.put _ (some 10) _ = _
      simp only [Act.put, List.setIfInBounds_toArray, List.set_cons_zero, List.set_cons_succ, i64_w, i32_w]
      rfl
     refine one_ (i := 5) (N := some 6) #[true, true, true, true, true, true, false, false] rfl rfl (one_of HT_.out (by kernel_rfl)) (by decide) (fun K hK => ?_)
     refine box_step ?hg (N := 6) ?hd (cs := #[.slice none 0 0, .slice none 0 0, .slice none 0 0]) (t := 34) ?hr ?_; (case hd => rfl); (case hg => rfl); (case hr => first | (go_simp; done) | (go_simp; rfl))
     intro g6 hg W' hbox hb
     have NE := Aside0.mk ((by rw [hg]; exact Nat.ne_of_lt (blk_lt B5.out)) : g5 ≠ g6)
     have G6 := Aside0.mk ((by rw [hg]; exact below_size HB.out) : w2.heap.size ≤ g6)
     have n0_ := Aside0.mk (blk_below B5.out hb)
     clear B5
     have B5 := n0_
     clear n0_
     have n0_ := Aside0.mk (VX.out.elder (Nat.le_of_eq hg.symm) hb)
     clear VX
     have VX := n0_
     clear n0_
     have n0_ := Aside0.mk (VY.out.elder (Nat.le_of_eq hg.symm) hb)
     clear VY
     have VY := n0_
     clear n0_
     have B6 := Aside0.mk hbox
     clear hbox hg
     have n0_ := Aside0.mk (below_step HB.out hb)
     clear HB hb
     have HB := n0_
     clear n0_
     refine hK.out _ _ HB.out (fun _ => ?_)
     clear hK K
     refine norm_ (a' := ?_) ?_ ?_
     rotate_left
     ·
      show Act.put _ (some 6) _ = _
      simp only [Act.put, List.setIfInBounds_toArray, List.set_cons_zero, List.set_cons_succ, i64_w, i32_w]
      rfl
     exact norm_ (by simp only [putAll, Act.put, List.setIfInBounds_toArray, List.set_cons_zero, List.set_cons_succ]) (hCont (g5, g6, x0, x1, x2, y0, y1, y2) _ ⟨B5.out, B6.out, G5.out, G6.out, NE.out, VX.out.mono (fun k h => by simp only [ne_eq, true_and, and_assoc] at h ⊢; omega) (Nat.le_refl _), VY.out.mono (fun k h => by simp only [ne_eq, true_and, and_assoc] at h ⊢; omega) (Nat.le_refl _), HB.out⟩)
    ·
     skip
     refine box_step ?hg (N := 6) ?hd (cs := #[.slice none 0 0, .slice none 0 0, .slice none 0 0]) (t := 34) ?hr ?_; (case hd => rfl); (case hg => rfl); (case hr => first | (go_simp; done) | (go_simp; rfl))
     intro g6 hg W' hbox hb
     have NE := Aside0.mk ((by rw [hg]; exact Nat.ne_of_lt (blk_lt B5.out)) : g5 ≠ g6)
     have G6 := Aside0.mk ((by rw [hg]; exact below_size HB.out) : w2.heap.size ≤ g6)
     have n0_ := Aside0.mk (blk_below B5.out hb)
     clear B5
     have B5 := n0_
     clear n0_
     have n0_ := Aside0.mk (VX.out.elder (Nat.le_of_eq hg.symm) hb)
     clear VX
     have VX := n0_
     clear n0_
     have B6 := Aside0.mk hbox
     clear hbox hg
     have n0_ := Aside0.mk (below_step HB.out hb)
     clear HB hb
     have HB := n0_
     clear n0_
     refine hK.out _ _ HB.out (fun _ => ?_)
     clear hK K
     refine norm_ (a' := ?_) ?_ ?_
     rotate_left
     ·
      show Act.put _ (some 6) _ = _
      simp only [Act.put, List.setIfInBounds_toArray, List.set_cons_zero, List.set_cons_succ, i64_w, i32_w]
      rfl
     refine one_ (i := 3) (N := some 10) #[true, true, true, true, true, true, false, false] rfl rfl (one_of HT_.out (by kernel_rfl)) (by decide) (fun K hK => ?_)
     refine goes_ Try.func12 (by kernel_rfl) rfl #[.agg #[.slice D0 m0.length e0, .slice D1 m1.length e1, .slice D2 m2.length e2]] (by rfl) rfl rfl (by (try simp only [List.map_toArray, List.map_cons, List.map_nil]); first | done | rfl) ?_
     refine (relayplain_Chart.calls k _ _ _ _ _ _ _ _ _ t0 t1 t2 _ (Kd.C_below HS0.out (below_step HW.out HB.out)) HD0.out (Kd.C_below HS1.out (below_step HW.out HB.out)) HD1.out (Kd.C_below HS2.out (below_step HW.out HB.out)) HD2.out Qhy.out).mono ?_
     rintro e w' ⟨y0, y1, y2, rfl, hv, hb⟩
     refine ⟨_, rfl, ?_⟩
     have n1_ := Aside0.mk ((((hv).newb B5.out).newb B6.out).mono (fun _ h => h) (below_size HB.out))
     have n0_ := Aside0.mk (blk_below B5.out hb)
     clear B5
     have B5 := n0_
     clear n0_
     have n0_ := Aside0.mk (blk_below B6.out hb)
     clear B6
     have B6 := n0_
     clear n0_
     have n0_ := Aside0.mk (VX.out.below hb)
     clear VX
     have VX := n0_
     clear n0_
     have VY := n1_
     clear n1_ hv
     have n0_ := Aside0.mk (below_step HB.out hb)
     clear HB hb
     have HB := n0_
     clear n0_
     refine hK.out _ _ HB.out (fun _ => ?_)
     clear hK K
     refine norm_ (a' := ?_) ?_ ?_
     rotate_left
     ·
      show Act.put _ (some 10) _ = _
      simp only [Act.put, List.setIfInBounds_toArray, List.set_cons_zero, List.set_cons_succ, i64_w, i32_w]
      rfl
     exact norm_ (by simp only [putAll, Act.put, List.setIfInBounds_toArray, List.set_cons_zero, List.set_cons_succ]) (hCont (g5, g6, x0, x1, x2, y0, y1, y2) _ ⟨B5.out, B6.out, G5.out, G6.out, NE.out, VX.out.mono (fun k h => by simp only [ne_eq, true_and, and_assoc] at h ⊢; omega) (Nat.le_refl _), VY.out.mono (fun k h => by simp only [ne_eq, true_and, and_assoc] at h ⊢; omega) (Nat.le_refl _), HB.out⟩)
   ·
    skip
    refine box_step ?hg (N := 6) ?hd (cs := #[.slice none 0 0, .slice none 0 0, .slice none 0 0]) (t := 34) ?hr ?_; (case hd => rfl); (case hg => rfl); (case hr => first | (go_simp; done) | (go_simp; rfl))
    intro g6 hg W' hbox hb
    have G6 := Aside0.mk ((by rw [hg]; exact below_size HB.out) : w2.heap.size ≤ g6)
    have n0_ := Aside0.mk (VX.out.elder (Nat.le_of_eq hg.symm) hb)
    clear VX
    have VX := n0_
    clear n0_
    have B6 := Aside0.mk hbox
    clear hbox hg
    have n0_ := Aside0.mk (below_step HB.out hb)
    clear HB hb
    have HB := n0_
    clear n0_
    refine hK.out _ _ HB.out (fun _ => ?_)
    clear hK K
    refine norm_ (a' := ?_) ?_ ?_
    rotate_left
    ·
     show Act.put _ (some 6) _ = _
     simp only [Act.put, List.setIfInBounds_toArray, List.set_cons_zero, List.set_cons_succ, i64_w, i32_w]
     rfl
    refine two_ (i := 3) (j := 4) (Ni := some 10) (Nj := some 5) #[true, true, true, true, false, true, false, false] #[true, true, true, false, true, true, false, false] rfl rfl rfl rfl (two_of HT_.out (by kernel_rfl)) (by decide) (by decide) (fun K hK => ?_) (fun K hK => ?_)
    ·
     skip
     refine goes_ Try.func12 (by kernel_rfl) rfl #[.agg #[.slice D0 m0.length e0, .slice D1 m1.length e1, .slice D2 m2.length e2]] (by rfl) rfl rfl (by (try simp only [List.map_toArray, List.map_cons, List.map_nil]); first | done | rfl) ?_
     refine (relayplain_Chart.calls k _ _ _ _ _ _ _ _ _ t0 t1 t2 _ (Kd.C_below HS0.out (below_step HW.out HB.out)) HD0.out (Kd.C_below HS1.out (below_step HW.out HB.out)) HD1.out (Kd.C_below HS2.out (below_step HW.out HB.out)) HD2.out Qhy.out).mono ?_
     rintro e w' ⟨y0, y1, y2, rfl, hv, hb⟩
     refine ⟨_, rfl, ?_⟩
     have n1_ := Aside0.mk (((hv).newb B6.out).mono (fun _ h => h) (below_size HB.out))
     have n0_ := Aside0.mk (blk_below B6.out hb)
     clear B6
     have B6 := n0_
     clear n0_
     have n0_ := Aside0.mk (VX.out.below hb)
     clear VX
     have VX := n0_
     clear n0_
     have VY := n1_
     clear n1_ hv
     have n0_ := Aside0.mk (below_step HB.out hb)
     clear HB hb
     have HB := n0_
     clear n0_
     refine hK.out _ _ HB.out (fun _ => ?_)
     clear hK K
     refine norm_ (a' := ?_) ?_ ?_
     rotate_left
     ·
      show Act.put _ (some 10) _ = _
      simp only [Act.put, List.setIfInBounds_toArray, List.set_cons_zero, List.set_cons_succ, i64_w, i32_w]
      rfl
     refine one_ (i := 4) (N := some 5) #[true, true, true, true, true, true, false, false] rfl rfl (one_of HT_.out (by kernel_rfl)) (by decide) (fun K hK => ?_)
     refine box_step ?hg (N := 5) ?hd (cs := #[.slice none 0 0, .slice none 0 0, .slice none 0 0]) (t := 34) ?hr ?_; (case hd => rfl); (case hg => rfl); (case hr => first | (go_simp; done) | (go_simp; rfl))
     intro g5 hg W' hbox hb
     have NE := Aside0.mk ((by rw [hg]; exact Nat.ne_of_lt (blk_lt B6.out)) : g6 ≠ g5)
     have G5 := Aside0.mk ((by rw [hg]; exact below_size HB.out) : w2.heap.size ≤ g5)
     have n0_ := Aside0.mk (blk_below B6.out hb)
     clear B6
     have B6 := n0_
     clear n0_
     have n0_ := Aside0.mk (VX.out.elder (Nat.le_of_eq hg.symm) hb)
     clear VX
     have VX := n0_
     clear n0_
     have n0_ := Aside0.mk (VY.out.elder (Nat.le_of_eq hg.symm) hb)
     clear VY
     have VY := n0_
     clear n0_
     have B5 := Aside0.mk hbox
     clear hbox hg
     have n0_ := Aside0.mk (below_step HB.out hb)
     clear HB hb
     have HB := n0_
     clear n0_
     refine hK.out _ _ HB.out (fun _ => ?_)
     clear hK K
     refine norm_ (a' := ?_) ?_ ?_
     rotate_left
     ·
      show Act.put _ (some 5) _ = _
      simp only [Act.put, List.setIfInBounds_toArray, List.set_cons_zero, List.set_cons_succ, i64_w, i32_w]
      rfl
     exact norm_ (by simp only [putAll, Act.put, List.setIfInBounds_toArray, List.set_cons_zero, List.set_cons_succ]) (hCont (g5, g6, x0, x1, x2, y0, y1, y2) _ ⟨B5.out, B6.out, G5.out, G6.out, NE.out.symm, VX.out.mono (fun k h => by simp only [ne_eq, true_and, and_assoc] at h ⊢; omega) (Nat.le_refl _), VY.out.mono (fun k h => by simp only [ne_eq, true_and, and_assoc] at h ⊢; omega) (Nat.le_refl _), HB.out⟩)
    ·
     skip
     refine box_step ?hg (N := 5) ?hd (cs := #[.slice none 0 0, .slice none 0 0, .slice none 0 0]) (t := 34) ?hr ?_; (case hd => rfl); (case hg => rfl); (case hr => first | (go_simp; done) | (go_simp; rfl))
     intro g5 hg W' hbox hb
     have NE := Aside0.mk ((by rw [hg]; exact Nat.ne_of_lt (blk_lt B6.out)) : g6 ≠ g5)
     have G5 := Aside0.mk ((by rw [hg]; exact below_size HB.out) : w2.heap.size ≤ g5)
     have n0_ := Aside0.mk (blk_below B6.out hb)
     clear B6
     have B6 := n0_
     clear n0_
     have n0_ := Aside0.mk (VX.out.elder (Nat.le_of_eq hg.symm) hb)
     clear VX
     have VX := n0_
     clear n0_
     have B5 := Aside0.mk hbox
     clear hbox hg
     have n0_ := Aside0.mk (below_step HB.out hb)
     clear HB hb
     have HB := n0_
     clear n0_
     refine hK.out _ _ HB.out (fun _ => ?_)
     clear hK K
     refine norm_ (a' := ?_) ?_ ?_
     rotate_left
     ·
      show Act.put _ (some 5) _ = _
      simp only [Act.put, List.setIfInBounds_toArray, List.set_cons_zero, List.set_cons_succ, i64_w, i32_w]
      rfl
     refine one_ (i := 3) (N := some 10) #[true, true, true, true, true, true, false, false] rfl rfl (one_of HT_.out (by kernel_rfl)) (by decide) (fun K hK => ?_)
     refine goes_ Try.func12 (by kernel_rfl) rfl #[.agg #[.slice D0 m0.length e0, .slice D1 m1.length e1, .slice D2 m2.length e2]] (by rfl) rfl rfl (by (try simp only [List.map_toArray, List.map_cons, List.map_nil]); first | done | rfl) ?_
     refine (relayplain_Chart.calls k _ _ _ _ _ _ _ _ _ t0 t1 t2 _ (Kd.C_below HS0.out (below_step HW.out HB.out)) HD0.out (Kd.C_below HS1.out (below_step HW.out HB.out)) HD1.out (Kd.C_below HS2.out (below_step HW.out HB.out)) HD2.out Qhy.out).mono ?_
     rintro e w' ⟨y0, y1, y2, rfl, hv, hb⟩
     refine ⟨_, rfl, ?_⟩
     have n1_ := Aside0.mk ((((hv).newb B5.out).newb B6.out).mono (fun _ h => h) (below_size HB.out))
     have n0_ := Aside0.mk (blk_below B5.out hb)
     clear B5
     have B5 := n0_
     clear n0_
     have n0_ := Aside0.mk (blk_below B6.out hb)
     clear B6
     have B6 := n0_
     clear n0_
     have n0_ := Aside0.mk (VX.out.below hb)
     clear VX
     have VX := n0_
     clear n0_
     have VY := n1_
     clear n1_ hv
     have n0_ := Aside0.mk (below_step HB.out hb)
     clear HB hb
     have HB := n0_
     clear n0_
     refine hK.out _ _ HB.out (fun _ => ?_)
     clear hK K
     refine norm_ (a' := ?_) ?_ ?_
     rotate_left
     ·
      show Act.put _ (some 10) _ = _
      simp only [Act.put, List.setIfInBounds_toArray, List.set_cons_zero, List.set_cons_succ, i64_w, i32_w]
      rfl
     exact norm_ (by simp only [putAll, Act.put, List.setIfInBounds_toArray, List.set_cons_zero, List.set_cons_succ]) (hCont (g5, g6, x0, x1, x2, y0, y1, y2) _ ⟨B5.out, B6.out, G5.out, G6.out, NE.out.symm, VX.out.mono (fun k h => by simp only [ne_eq, true_and, and_assoc] at h ⊢; omega) (Nat.le_refl _), VY.out.mono (fun k h => by simp only [ne_eq, true_and, and_assoc] at h ⊢; omega) (Nat.le_refl _), HB.out⟩)
  ·
   skip
   refine box_step ?hg (N := 5) ?hd (cs := #[.slice none 0 0, .slice none 0 0, .slice none 0 0]) (t := 34) ?hr ?_; (case hd => rfl); (case hg => rfl); (case hr => first | (go_simp; done) | (go_simp; rfl))
   intro g5 hg W' hbox hb
   have G5 := Aside0.mk ((by rw [hg]; exact below_size HB.out) : w2.heap.size ≤ g5)
   have B5 := Aside0.mk hbox
   clear hbox hg
   have n0_ := Aside0.mk (below_step HB.out hb)
   clear HB hb
   have HB := n0_
   clear n0_
   refine hK.out _ _ HB.out (fun _ => ?_)
   clear hK K
   refine norm_ (a' := ?_) ?_ ?_
   rotate_left
   ·
    show Act.put _ (some 5) _ = _
    simp only [Act.put, List.setIfInBounds_toArray, List.set_cons_zero, List.set_cons_succ, i64_w, i32_w]
    rfl
   refine two_ (i := 1) (j := 5) (Ni := some 8) (Nj := some 6) #[true, true, true, false, true, false, false, false] #[true, false, true, false, true, true, false, false] rfl rfl rfl rfl (two_of HT_.out (by kernel_rfl)) (by decide) (by decide) (fun K hK => ?_) (fun K hK => ?_)
   ·
    skip
    refine goes_ Try.func12 (by kernel_rfl) rfl #[.agg #[.slice A0 l0.length c0, .slice A1 l1.length c1, .slice A2 l2.length c2]] (by rfl) rfl rfl (by (try simp only [List.map_toArray, List.map_cons, List.map_nil]); first | done | rfl) ?_
    refine (relayplain_Chart.calls k _ _ _ _ _ _ _ _ _ s0 s1 s2 _ (Kd.C_below HR0.out (below_step HW.out HB.out)) HC0.out (Kd.C_below HR1.out (below_step HW.out HB.out)) HC1.out (Kd.C_below HR2.out (below_step HW.out HB.out)) HC2.out Qhx.out).mono ?_
    rintro e w' ⟨x0, x1, x2, rfl, hv, hb⟩
    refine ⟨_, rfl, ?_⟩
    have n1_ := Aside0.mk (((hv).newb B5.out).mono (fun _ h => h) (below_size HB.out))
    have n0_ := Aside0.mk (blk_below B5.out hb)
    clear B5
    have B5 := n0_
    clear n0_
    have VX := n1_
    clear n1_ hv
    have n0_ := Aside0.mk (below_step HB.out hb)
    clear HB hb
    have HB := n0_
    clear n0_
    refine hK.out _ _ HB.out (fun _ => ?_)
    clear hK K
    refine norm_ (a' := ?_) ?_ ?_
    rotate_left
    ·
     show Act.put _ (some 8) _ = _
     simp only [Act.put, List.setIfInBounds_toArray, List.set_cons_zero, List.set_cons_succ, i64_w, i32_w]
     rfl
    refine two_ (i := 3) (j := 5) (Ni := some 10) (Nj := some 6) #[true, true, true, true, true, false, false, false] #[true, true, true, false, true, true, false, false] rfl rfl rfl rfl (two_of HT_.out (by kernel_rfl)) (by decide) (by decide) (fun K hK => ?_) (fun K hK => ?_)
    ·
     skip
     refine goes_ Try.func12 (by kernel_rfl) rfl #[.agg #[.slice D0 m0.length e0, .slice D1 m1.length e1, .slice D2 m2.length e2]] (by rfl) rfl rfl (by (try simp only [List.map_toArray, List.map_cons, List.map_nil]); first | done | rfl) ?_
     refine (relayplain_Chart.calls k _ _ _ _ _ _ _ _ _ t0 t1 t2 _ (Kd.C_below HS0.out (below_step HW.out HB.out)) HD0.out (Kd.C_below HS1.out (below_step HW.out HB.out)) HD1.out (Kd.C_below HS2.out (below_step HW.out HB.out)) HD2.out Qhy.out).mono ?_
     rintro e w' ⟨y0, y1, y2, rfl, hv, hb⟩
     refine ⟨_, rfl, ?_⟩
     have n1_ := Aside0.mk (((hv).newb B5.out).mono (fun _ h => h) (below_size HB.out))
     have n0_ := Aside0.mk (blk_below B5.out hb)
     clear B5
     have B5 := n0_
     clear n0_
     have n0_ := Aside0.mk (VX.out.below hb)
     clear VX
     have VX := n0_
     clear n0_
     have VY := n1_
     clear n1_ hv
     have n0_ := Aside0.mk (below_step HB.out hb)
     clear HB hb
     have HB := n0_
     clear n0_
     refine hK.out _ _ HB.out (fun _ => ?_)
     clear hK K
     refine norm_ (a' := ?_) ?_ ?_
     rotate_left
     ·
      show Act.put _ (some 10) _ = _
      simp only [Act.put, List.setIfInBounds_toArray, List.set_cons_zero, List.set_cons_succ, i64_w, i32_w]
      rfl
     refine one_ (i := 5) (N := some 6) #[true, true, true, true, true, true, false, false] rfl rfl (one_of HT_.out (by kernel_rfl)) (by decide) (fun K hK => ?_)
     refine box_step ?hg (N := 6) ?hd (cs := #[.slice none 0 0, .slice none 0 0, .slice none 0 0]) (t := 34) ?hr ?_; (case hd => rfl); (case hg => rfl); (case hr => first | (go_simp; done) | (go_simp; rfl))
     intro g6 hg W' hbox hb
     have NE := Aside0.mk ((by rw [hg]; exact Nat.ne_of_lt (blk_lt B5.out)) : g5 ≠ g6)
     have G6 := Aside0.mk ((by rw [hg]; exact below_size HB.out) : w2.heap.size ≤ g6)
     have n0_ := Aside0.mk (blk_below B5.out hb)
     clear B5
     have B5 := n0_
     clear n0_
     have n0_ := Aside0.mk (VX.out.elder (Nat.le_of_eq hg.symm) hb)
     clear VX
     have VX := n0_
     clear n0_
     have n0_ := Aside0.mk (VY.out.elder (Nat.le_of_eq hg.symm) hb)
     clear VY
     have VY := n0_
     clear n0_
     have B6 := Aside0.mk hbox
     clear hbox hg
     have n0_ := Aside0.mk (below_step HB.out hb)
     clear HB hb
     have HB := n0_
     clear n0_
     refine hK.out _ _ HB.out (fun _ => ?_)
     clear hK K
     refine norm_ (a' := ?_) ?_ ?_
     rotate_left
     ·
      show Act.put _ (some 6) _ = _
      simp only [Act.put, List.setIfInBounds_toArray, List.set_cons_zero, List.set_cons_succ, i64_w, i32_w]
      rfl
     exact norm_ (by simp only [putAll, Act.put, List.setIfInBounds_toArray, List.set_cons_zero, List.set_cons_succ]) (hCont (g5, g6, x0, x1, x2, y0, y1, y2) _ ⟨B5.out, B6.out, G5.out, G6.out, NE.out, VX.out.mono (fun k h => by simp only [ne_eq, true_and, and_assoc] at h ⊢; omega) (Nat.le_refl _), VY.out.mono (fun k h => by simp only [ne_eq, true_and, and_assoc] at h ⊢; omega) (Nat.le_refl _), HB.out⟩)
    ·
     skip
     refine box_step ?hg (N := 6) ?hd (cs := #[.slice none 0 0, .slice none 0 0, .slice none 0 0]) (t := 34) ?hr ?_; (case hd => rfl); (case hg => rfl); (case hr => first | (go_simp; done) | (go_simp; rfl))
     intro g6 hg W' hbox hb
     have NE := Aside0.mk ((by rw [hg]; exact Nat.ne_of_lt (blk_lt B5.out)) : g5 ≠ g6)
     have G6 := Aside0.mk ((by rw [hg]; exact below_size HB.out) : w2.heap.size ≤ g6)
     have n0_ := Aside0.mk (blk_below B5.out hb)
     clear B5
     have B5 := n0_
     clear n0_
     have n0_ := Aside0.mk (VX.out.elder (Nat.le_of_eq hg.symm) hb)
     clear VX
     have VX := n0_
     clear n0_
     have B6 := Aside0.mk hbox
     clear hbox hg
     have n0_ := Aside0.mk (below_step HB.out hb)
     clear HB hb
     have HB := n0_
     clear n0_
     refine hK.out _ _ HB.out (fun _ => ?_)
     clear hK K
     refine norm_ (a' := ?_) ?_ ?_
     rotate_left
     ·
      show Act.put _ (some 6) _ = _
      simp only [Act.put, List.setIfInBounds_toArray, List.set_cons_zero, List.set_cons_succ, i64_w, i32_w]
      rfl
     refine one_ (i := 3) (N := some 10) #[true, true, true, true, true, true, false, false] rfl rfl (one_of HT_.out (by kernel_rfl)) (by decide) (fun K hK => ?_)
     refine goes_ Try.func12 (by kernel_rfl) rfl #[.agg #[.slice D0 m0.length e0, .slice D1 m1.length e1, .slice D2 m2.length e2]] (by rfl) rfl rfl (by (try simp only [List.map_toArray, List.map_cons, List.map_nil]); first | done | rfl) ?_
     refine (relayplain_Chart.calls k _ _ _ _ _ _ _ _ _ t0 t1 t2 _ (Kd.C_below HS0.out (below_step HW.out HB.out)) HD0.out (Kd.C_below HS1.out (below_step HW.out HB.out)) HD1.out (Kd.C_below HS2.out (below_step HW.out HB.out)) HD2.out Qhy.out).mono ?_
     rintro e w' ⟨y0, y1, y2, rfl, hv, hb⟩
     refine ⟨_, rfl, ?_⟩
     have n1_ := Aside0.mk ((((hv).newb B5.out).newb B6.out).mono (fun _ h => h) (below_size HB.out))
     have n0_ := Aside0.mk (blk_below B5.out hb)
     clear B5
     have B5 := n0_
     clear n0_
     have n0_ := Aside0.mk (blk_below B6.out hb)
     clear B6
     have B6 := n0_
     clear n0_
     have n0_ := Aside0.mk (VX.out.below hb)
     clear VX
     have VX := n0_
     clear n0_
     have VY := n1_
     clear n1_ hv
     have n0_ := Aside0.mk (below_step HB.out hb)
     clear HB hb
     have HB := n0_
     clear n0_
     refine hK.out _ _ HB.out (fun _ => ?_)
     clear hK K
     refine norm_ (a' := ?_) ?_ ?_
     rotate_left
     ·
      show Act.put _ (some 10) _ = _
      simp only [Act.put, List.setIfInBounds_toArray, List.set_cons_zero, List.set_cons_succ, i64_w, i32_w]
      rfl
     exact norm_ (by simp only [putAll, Act.put, List.setIfInBounds_toArray, List.set_cons_zero, List.set_cons_succ]) (hCont (g5, g6, x0, x1, x2, y0, y1, y2) _ ⟨B5.out, B6.out, G5.out, G6.out, NE.out, VX.out.mono (fun k h => by simp only [ne_eq, true_and, and_assoc] at h ⊢; omega) (Nat.le_refl _), VY.out.mono (fun k h => by simp only [ne_eq, true_and, and_assoc] at h ⊢; omega) (Nat.le_refl _), HB.out⟩)
   ·
    skip
    refine box_step ?hg (N := 6) ?hd (cs := #[.slice none 0 0, .slice none 0 0, .slice none 0 0]) (t := 34) ?hr ?_; (case hd => rfl); (case hg => rfl); (case hr => first | (go_simp; done) | (go_simp; rfl))
    intro g6 hg W' hbox hb
    have NE := Aside0.mk ((by rw [hg]; exact Nat.ne_of_lt (blk_lt B5.out)) : g5 ≠ g6)
    have G6 := Aside0.mk ((by rw [hg]; exact below_size HB.out) : w2.heap.size ≤ g6)
    have n0_ := Aside0.mk (blk_below B5.out hb)
    clear B5
    have B5 := n0_
    clear n0_
    have B6 := Aside0.mk hbox
    clear hbox hg
    have n0_ := Aside0.mk (below_step HB.out hb)
    clear HB hb
    have HB := n0_
    clear n0_
    refine hK.out _ _ HB.out (fun _ => ?_)
    clear hK K
    refine norm_ (a' := ?_) ?_ ?_
    rotate_left
    ·
     show Act.put _ (some 6) _ = _
     simp only [Act.put, List.setIfInBounds_toArray, List.set_cons_zero, List.set_cons_succ, i64_w, i32_w]
     rfl
    refine one_ (i := 1) (N := some 8) #[true, true, true, false, true, true, false, false] rfl rfl (one_of HT_.out (by kernel_rfl)) (by decide) (fun K hK => ?_)
    refine goes_ Try.func12 (by kernel_rfl) rfl #[.agg #[.slice A0 l0.length c0, .slice A1 l1.length c1, .slice A2 l2.length c2]] (by rfl) rfl rfl (by (try simp only [List.map_toArray, List.map_cons, List.map_nil]); first | done | rfl) ?_
    refine (relayplain_Chart.calls k _ _ _ _ _ _ _ _ _ s0 s1 s2 _ (Kd.C_below HR0.out (below_step HW.out HB.out)) HC0.out (Kd.C_below HR1.out (below_step HW.out HB.out)) HC1.out (Kd.C_below HR2.out (below_step HW.out HB.out)) HC2.out Qhx.out).mono ?_
    rintro e w' ⟨x0, x1, x2, rfl, hv, hb⟩
    refine ⟨_, rfl, ?_⟩
    have n1_ := Aside0.mk ((((hv).newb B5.out).newb B6.out).mono (fun _ h => h) (below_size HB.out))
    have n0_ := Aside0.mk (blk_below B5.out hb)
    clear B5
    have B5 := n0_
    clear n0_
    have n0_ := Aside0.mk (blk_below B6.out hb)
    clear B6
    have B6 := n0_
    clear n0_
    have VX := n1_
    clear n1_ hv
    have n0_ := Aside0.mk (below_step HB.out hb)
    clear HB hb
    have HB := n0_
    clear n0_
    refine hK.out _ _ HB.out (fun _ => ?_)
    clear hK K
    refine norm_ (a' := ?_) ?_ ?_
    rotate_left
    ·
     show Act.put _ (some 8) _ = _
     simp only [Act.put, List.setIfInBounds_toArray, List.set_cons_zero, List.set_cons_succ, i64_w, i32_w]
     rfl
    refine one_ (i := 3) (N := some 10) #[true, true, true, true, true, true, false, false] rfl rfl (one_of HT_.out (by kernel_rfl)) (by decide) (fun K hK => ?_)
    refine goes_ Try.func12 (by kernel_rfl) rfl #[.agg #[.slice D0 m0.length e0, .slice D1 m1.length e1, .slice D2 m2.length e2]] (by rfl) rfl rfl (by (try simp only [List.map_toArray, List.map_cons, List.map_nil]); first | done | rfl) ?_
    refine (relayplain_Chart.calls k _ _ _ _ _ _ _ _ _ t0 t1 t2 _ (Kd.C_below HS0.out (below_step HW.out HB.out)) HD0.out (Kd.C_below HS1.out (below_step HW.out HB.out)) HD1.out (Kd.C_below HS2.out (below_step HW.out HB.out)) HD2.out Qhy.out).mono ?_
    rintro e w' ⟨y0, y1, y2, rfl, hv, hb⟩
    refine ⟨_, rfl, ?_⟩
    have n1_ := Aside0.mk ((((hv).newb B5.out).newb B6.out).mono (fun _ h => h) (below_size HB.out))
    have n0_ := Aside0.mk (blk_below B5.out hb)
    clear B5
    have B5 := n0_
    clear n0_
    have n0_ := Aside0.mk (blk_below B6.out hb)
    clear B6
    have B6 := n0_
    clear n0_
    have n0_ := Aside0.mk (VX.out.below hb)
    clear VX
    have VX := n0_
    clear n0_
    have VY := n1_
    clear n1_ hv
    have n0_ := Aside0.mk (below_step HB.out hb)
    clear HB hb
    have HB := n0_
    clear n0_
    refine hK.out _ _ HB.out (fun _ => ?_)
    clear hK K
    refine norm_ (a' := ?_) ?_ ?_
    rotate_left
    ·
     show Act.put _ (some 10) _ = _
     simp only [Act.put, List.setIfInBounds_toArray, List.set_cons_zero, List.set_cons_succ, i64_w, i32_w]
     rfl
    exact norm_ (by simp only [putAll, Act.put, List.setIfInBounds_toArray, List.set_cons_zero, List.set_cons_succ]) (hCont (g5, g6, x0, x1, x2, y0, y1, y2) _ ⟨B5.out, B6.out, G5.out, G6.out, NE.out, VX.out.mono (fun k h => by simp only [ne_eq, true_and, and_assoc] at h ⊢; omega) (Nat.le_refl _), VY.out.mono (fun k h => by simp only [ne_eq, true_and, and_assoc] at h ⊢; omega) (Nat.le_refl _), HB.out⟩)
  ·
   skip
   refine box_step ?hg (N := 6) ?hd (cs := #[.slice none 0 0, .slice none 0 0, .slice none 0 0]) (t := 34) ?hr ?_; (case hd => rfl); (case hg => rfl); (case hr => first | (go_simp; done) | (go_simp; rfl))
   intro g6 hg W' hbox hb
   have G6 := Aside0.mk ((by rw [hg]; exact below_size HB.out) : w2.heap.size ≤ g6)
   have B6 := Aside0.mk hbox
   clear hbox hg
   have n0_ := Aside0.mk (below_step HB.out hb)
   clear HB hb
   have HB := n0_
   clear n0_
   refine hK.out _ _ HB.out (fun _ => ?_)
   clear hK K
   refine norm_ (a' := ?_) ?_ ?_
   rotate_left
   ·
    show Act.put _ (some 6) _ = _
    simp only [Act.put, List.setIfInBounds_toArray, List.set_cons_zero, List.set_cons_succ, i64_w, i32_w]
    rfl
   refine two_ (i := 1) (j := 4) (Ni := some 8) (Nj := some 5) #[true, true, true, false, false, true, false, false] #[true, false, true, false, true, true, false, false] rfl rfl rfl rfl (two_of HT_.out (by kernel_rfl)) (by decide) (by decide) (fun K hK => ?_) (fun K hK => ?_)
   ·
    skip
    refine goes_ Try.func12 (by kernel_rfl) rfl #[.agg #[.slice A0 l0.length c0, .slice A1 l1.length c1, .slice A2 l2.length c2]] (by rfl) rfl rfl (by (try simp only [List.map_toArray, List.map_cons, List.map_nil]); first | done | rfl) ?_
    refine (relayplain_Chart.calls k _ _ _ _ _ _ _ _ _ s0 s1 s2 _ (Kd.C_below HR0.out (below_step HW.out HB.out)) HC0.out (Kd.C_below HR1.out (below_step HW.out HB.out)) HC1.out (Kd.C_below HR2.out (below_step HW.out HB.out)) HC2.out Qhx.out).mono ?_
    rintro e w' ⟨x0, x1, x2, rfl, hv, hb⟩
    refine ⟨_, rfl, ?_⟩
    have n1_ := Aside0.mk (((hv).newb B6.out).mono (fun _ h => h) (below_size HB.out))
    have n0_ := Aside0.mk (blk_below B6.out hb)
    clear B6
    have B6 := n0_
    clear n0_
    have VX := n1_
    clear n1_ hv
    have n0_ := Aside0.mk (below_step HB.out hb)
    clear HB hb
    have HB := n0_
    clear n0_
    refine hK.out _ _ HB.out (fun _ => ?_)
    clear hK K
    refine norm_ (a' := ?_) ?_ ?_
    rotate_left
    ·
     show Act.put _ (some 8) _ = _
     simp only [Act.put, List.setIfInBounds_toArray, List.set_cons_zero, List.set_cons_succ, i64_w, i32_w]
     rfl
    refine two_ (i := 3) (j := 4) (Ni := some 10) (Nj := some 5) #[true, true, true, true, false, true, false, false] #[true, true, true, false, true, true, false, false] rfl rfl rfl rfl (two_of HT_.out (by kernel_rfl)) (by decide) (by decide) (fun K hK => ?_) (fun K hK => ?_)
    ·
     skip
     refine goes_ Try.func12 (by kernel_rfl) rfl #[.agg #[.slice D0 m0.length e0, .slice D1 m1.length e1, .slice D2 m2.length e2]] (by rfl) rfl rfl (by (try simp only [List.map_toArray, List.map_cons, List.map_nil]); first | done | rfl) ?_
     refine (relayplain_Chart.calls k _ _ _ _ _ _ _ _ _ t0 t1 t2 _ (Kd.C_below HS0.out (below_step HW.out HB.out)) HD0.out (Kd.C_below HS1.out (below_step HW.out HB.out)) HD1.out (Kd.C_below HS2.out (below_step HW.out HB.out)) HD2.out Qhy.out).mono ?_
     rintro e w' ⟨y0, y1, y2, rfl, hv, hb⟩
     refine ⟨_, rfl, ?_⟩
     have n1_ := Aside0.mk (((hv).newb B6.out).mono (fun _ h => h) (below_size HB.out))
     have n0_ := Aside0.mk (blk_below B6.out hb)
     clear B6
     have B6 := n0_
     clear n0_
     have n0_ := Aside0.mk (VX.out.below hb)
     clear VX
     have VX := n0_
     clear n0_
     have VY := n1_
     clear n1_ hv
     have n0_ := Aside0.mk (below_step HB.out hb)
     clear HB hb
     have HB := n0_
     clear n0_
     refine hK.out _ _ HB.out (fun _ => ?_)
     clear hK K
     refine norm_ (a' := ?_) ?_ ?_
     rotate_left
     ·
      show Act.put _ (some 10) _ = _
      simp only [Act.put, List.setIfInBounds_toArray, List.set_cons_zero, List.set_cons_succ, i64_w, i32_w]
      rfl
     refine one_ (i := 4) (N := some 5) #[true, true, true, true, true, true, false, false] rfl rfl (one_of HT_.out (by kernel_rfl)) (by decide) (fun K hK => ?_)
     refine box_step ?hg (N := 5) ?hd (cs := #[.slice none 0 0, .slice none 0 0, .slice none 0 0]) (t := 34) ?hr ?_; (case hd => rfl); (case hg => rfl); (case hr => first | (go_simp; done) | (go_simp; rfl))
     intro g5 hg W' hbox hb
     have NE := Aside0.mk ((by rw [hg]; exact Nat.ne_of_lt (blk_lt B6.out)) : g6 ≠ g5)
     have G5 := Aside0.mk ((by rw [hg]; exact below_size HB.out) : w2.heap.size ≤ g5)
     have n0_ := Aside0.mk (blk_below B6.out hb)
     clear B6
     have B6 := n0_
     clear n0_
     have n0_ := Aside0.mk (VX.out.elder (Nat.le_of_eq hg.symm) hb)
     clear VX
     have VX := n0_
     clear n0_
     have n0_ := Aside0.mk (VY.out.elder (Nat.le_of_eq hg.symm) hb)
     clear VY
     have VY := n0_
     clear n0_
     have B5 := Aside0.mk hbox
     clear hbox hg
     have n0_ := Aside0.mk (below_step HB.out hb)
     clear HB hb
     have HB := n0_
     clear n0_
     refine hK.out _ _ HB.out (fun _ => ?_)
     clear hK K
     refine norm_ (a' := ?_) ?_ ?_
     rotate_left
     ·
      show Act.put _ (some 5) _ = _
      simp only [Act.put, List.setIfInBounds_toArray, List.set_cons_zero, List.set_cons_succ, i64_w, i32_w]
      rfl
     exact norm_ (by simp only [putAll, Act.put, List.setIfInBounds_toArray, List.set_cons_zero, List.set_cons_succ]) (hCont (g5, g6, x0, x1, x2, y0, y1, y2) _ ⟨B5.out, B6.out, G5.out, G6.out, NE.out.symm, VX.out.mono (fun k h => by simp only [ne_eq, true_and, and_assoc] at h ⊢; omega) (Nat.le_refl _), VY.out.mono (fun k h => by simp only [ne_eq, true_and, and_assoc] at h ⊢; omega) (Nat.le_refl _), HB.out⟩)
    ·
     skip
     refine box_step ?hg (N := 5) ?hd (cs := #[.slice none 0 0, .slice none 0 0, .slice none 0 0]) (t := 34) ?hr ?_; (case hd => rfl); (case hg => rfl); (case hr => first | (go_simp; done) | (go_simp; rfl))
     intro g5 hg W' hbox hb
     have NE := Aside0.mk ((by rw [hg]; exact Nat.ne_of_lt (blk_lt B6.out)) : g6 ≠ g5)
     have G5 := Aside0.mk ((by rw [hg]; exact below_size HB.out) : w2.heap.size ≤ g5)
     have n0_ := Aside0.mk (blk_below B6.out hb)
     clear B6
     have B6 := n0_
     clear n0_
     have n0_ := Aside0.mk (VX.out.elder (Nat.le_of_eq hg.symm) hb)
     clear VX
     have VX := n0_
     clear n0_
     have B5 := Aside0.mk hbox
     clear hbox hg
     have n0_ := Aside0.mk (below_step HB.out hb)
     clear HB hb
     have HB := n0_
     clear n0_
     refine hK.out _ _ HB.out (fun _ => ?_)
     clear hK K
     refine norm_ (a' := ?_) ?_ ?_
     rotate_left
     ·
      show Act.put _ (some 5) _ = _
      simp only [Act.put, List.setIfInBounds_toArray, List.set_cons_zero, List.set_cons_succ, i64_w, i32_w]
      rfl
     refine one_ (i := 3) (N := some 10) #[true, true, true, true, true, true, false, false] rfl rfl (one_of HT_.out (by kernel_rfl)) (by decide) (fun K hK => ?_)
     refine goes_ Try.func12 (by kernel_rfl) rfl #[.agg #[.slice D0 m0.length e0, .slice D1 m1.length e1, .slice D2 m2.length e2]] (by rfl) rfl rfl (by (try simp only [List.map_toArray, List.map_cons, List.map_nil]); first | done | rfl) ?_
     refine (relayplain_Chart.calls k _ _ _ _ _ _ _ _ _ t0 t1 t2 _ (Kd.C_below HS0.out (below_step HW.out HB.out)) HD0.out (Kd.C_below HS1.out (below_step HW.out HB.out)) HD1.out (Kd.C_below HS2.out (below_step HW.out HB.out)) HD2.out Qhy.out).mono ?_
     rintro e w' ⟨y0, y1, y2, rfl, hv, hb⟩
     refine ⟨_, rfl, ?_⟩
     have n1_ := Aside0.mk ((((hv).newb B5.out).newb B6.out).mono (fun _ h => h) (below_size HB.out))
     have n0_ := Aside0.mk (blk_below B5.out hb)
     clear B5
     have B5 := n0_
     clear n0_
     have n0_ := Aside0.mk (blk_below B6.out hb)
     clear B6
     have B6 := n0_
     clear n0_
     have n0_ := Aside0.mk (VX.out.below hb)
     clear VX
     have VX := n0_
     clear n0_
     have VY := n1_
     clear n1_ hv
     have n0_ := Aside0.mk (below_step HB.out hb)
     clear HB hb
     have HB := n0_
     clear n0_
     refine hK.out _ _ HB.out (fun _ => ?_)
     clear hK K
     refine norm_ (a' := ?_) ?_ ?_
     rotate_left
     ·
      show Act.put _ (some 10) _ = _
      simp only [Act.put, List.setIfInBounds_toArray, List.set_cons_zero, List.set_cons_succ, i64_w, i32_w]
      rfl
     exact norm_ (by simp only [putAll, Act.put, List.setIfInBounds_toArray, List.set_cons_zero, List.set_cons_succ]) (hCont (g5, g6, x0, x1, x2, y0, y1, y2) _ ⟨B5.out, B6.out, G5.out, G6.out, NE.out.symm, VX.out.mono (fun k h => by simp only [ne_eq, true_and, and_assoc] at h ⊢; omega) (Nat.le_refl _), VY.out.mono (fun k h => by simp only [ne_eq, true_and, and_assoc] at h ⊢; omega) (Nat.le_refl _), HB.out⟩)
   ·
    skip
    refine box_step ?hg (N := 5) ?hd (cs := #[.slice none 0 0, .slice none 0 0, .slice none 0 0]) (t := 34) ?hr ?_; (case hd => rfl); (case hg => rfl); (case hr => first | (go_simp; done) | (go_simp; rfl))
    intro g5 hg W' hbox hb
    have NE := Aside0.mk ((by rw [hg]; exact Nat.ne_of_lt (blk_lt B6.out)) : g6 ≠ g5)
    have G5 := Aside0.mk ((by rw [hg]; exact below_size HB.out) : w2.heap.size ≤ g5)
    have n0_ := Aside0.mk (blk_below B6.out hb)
    clear B6
    have B6 := n0_
    clear n0_
    have B5 := Aside0.mk hbox
    clear hbox hg
    have n0_ := Aside0.mk (below_step HB.out hb)
    clear HB hb
    have HB := n0_
    clear n0_
    refine hK.out _ _ HB.out (fun _ => ?_)
    clear hK K
    refine norm_ (a' := ?_) ?_ ?_
    rotate_left
    ·
     show Act.put _ (some 5) _ = _
     simp only [Act.put, List.setIfInBounds_toArray, List.set_cons_zero, List.set_cons_succ, i64_w, i32_w]
     rfl
    refine one_ (i := 1) (N := some 8) #[true, true, true, false, true, true, false, false] rfl rfl (one_of HT_.out (by kernel_rfl)) (by decide) (fun K hK => ?_)
    refine goes_ Try.func12 (by kernel_rfl) rfl #[.agg #[.slice A0 l0.length c0, .slice A1 l1.length c1, .slice A2 l2.length c2]] (by rfl) rfl rfl (by (try simp only [List.map_toArray, List.map_cons, List.map_nil]); first | done | rfl) ?_
    refine (relayplain_Chart.calls k _ _ _ _ _ _ _ _ _ s0 s1 s2 _ (Kd.C_below HR0.out (below_step HW.out HB.out)) HC0.out (Kd.C_below HR1.out (below_step HW.out HB.out)) HC1.out (Kd.C_below HR2.out (below_step HW.out HB.out)) HC2.out Qhx.out).mono ?_
    rintro e w' ⟨x0, x1, x2, rfl, hv, hb⟩
    refine ⟨_, rfl, ?_⟩
    have n1_ := Aside0.mk ((((hv).newb B5.out).newb B6.out).mono (fun _ h => h) (below_size HB.out))
    have n0_ := Aside0.mk (blk_below B5.out hb)
    clear B5
    have B5 := n0_
    clear n0_
    have n0_ := Aside0.mk (blk_below B6.out hb)
    clear B6
    have B6 := n0_
    clear n0_
    have VX := n1_
    clear n1_ hv
    have n0_ := Aside0.mk (below_step HB.out hb)
    clear HB hb
    have HB := n0_
    clear n0_
    refine hK.out _ _ HB.out (fun _ => ?_)
    clear hK K
    refine norm_ (a' := ?_) ?_ ?_
    rotate_left
    ·
     show Act.put _ (some 8) _ = _
     simp only [Act.put, List.setIfInBounds_toArray, List.set_cons_zero, List.set_cons_succ, i64_w, i32_w]
     rfl
    refine one_ (i := 3) (N := some 10) #[true, true, true, true, true, true, false, false] rfl rfl (one_of HT_.out (by kernel_rfl)) (by decide) (fun K hK => ?_)
    refine goes_ Try.func12 (by kernel_rfl) rfl #[.agg #[.slice D0 m0.length e0, .slice D1 m1.length e1, .slice D2 m2.length e2]] (by rfl) rfl rfl (by (try simp only [List.map_toArray, List.map_cons, List.map_nil]); first | done | rfl) ?_
    refine (relayplain_Chart.calls k _ _ _ _ _ _ _ _ _ t0 t1 t2 _ (Kd.C_below HS0.out (below_step HW.out HB.out)) HD0.out (Kd.C_below HS1.out (below_step HW.out HB.out)) HD1.out (Kd.C_below HS2.out (below_step HW.out HB.out)) HD2.out Qhy.out).mono ?_
    rintro e w' ⟨y0, y1, y2, rfl, hv, hb⟩
    refine ⟨_, rfl, ?_⟩
    have n1_ := Aside0.mk ((((hv).newb B5.out).newb B6.out).mono (fun _ h => h) (below_size HB.out))
    have n0_ := Aside0.mk (blk_below B5.out hb)
    clear B5
    have B5 := n0_
    clear n0_
    have n0_ := Aside0.mk (blk_below B6.out hb)
    clear B6
    have B6 := n0_
    clear n0_
    have n0_ := Aside0.mk (VX.out.below hb)
    clear VX
    have VX := n0_
    clear n0_
    have VY := n1_
    clear n1_ hv
    have n0_ := Aside0.mk (below_step HB.out hb)
    clear HB hb
    have HB := n0_
    clear n0_
    refine hK.out _ _ HB.out (fun _ => ?_)
    clear hK K
    refine norm_ (a' := ?_) ?_ ?_
    rotate_left
    ·
     show Act.put _ (some 10) _ = _
     simp only [Act.put, List.setIfInBounds_toArray, List.set_cons_zero, List.set_cons_succ, i64_w, i32_w]
     rfl
    exact norm_ (by simp only [putAll, Act.put, List.setIfInBounds_toArray, List.set_cons_zero, List.set_cons_succ]) (hCont (g5, g6, x0, x1, x2, y0, y1, y2) _ ⟨B5.out, B6.out, G5.out, G6.out, NE.out.symm, VX.out.mono (fun k h => by simp only [ne_eq, true_and, and_assoc] at h ⊢; omega) (Nat.le_refl _), VY.out.mono (fun k h => by simp only [ne_eq, true_and, and_assoc] at h ⊢; omega) (Nat.le_refl _), HB.out⟩)
 rintro ⟨g5, g6, x0, x1, x2, y0, y1, y2⟩ W6 ⟨h1, h2, h3, h4, h5, h6, h7, h8⟩
 obtain ⟨A0', a0', rfl⟩ := Kd.R_slice h6.r0
 obtain ⟨A1', a1', rfl⟩ := Kd.R_slice h6.r1
 obtain ⟨A2', a2', rfl⟩ := Kd.R_slice h6.r2
 obtain ⟨D0', b0', rfl⟩ := Kd.R_slice h7.r0
 obtain ⟨D1', b1', rfl⟩ := Kd.R_slice h7.r1
 obtain ⟨D2', b2', rfl⟩ := Kd.R_slice h7.r2
 have B5 := Aside0.mk h1
 have B6 := Aside0.mk h2
 have G5 := Aside0.mk h3
 have G6 := Aside0.mk h4
 have NE := Aside0.mk h5
 have VX := Aside0.mk h6
 have VY := Aside0.mk h7
 clear HB
 have HB := Aside0.mk h8
 clear h1 h2 h3 h4 h5 h6 h7 h8
 refine norm_ (a' := ?_) ?_ ?_
 rotate_left
 ·
  simp only [putAll, Act.put, List.setIfInBounds_toArray, List.set_cons_zero, List.set_cons_succ]
  rfl
 refine one_ (i := 6) (N := none) #[true, true, true, true, true, true, true, false] rfl rfl (one_of HT_.out (by kernel_rfl)) (by decide) (fun K hK => ?_)
 refine store_at_any (w0 := w2) (j := 0) (u := .agg #[.slice A0' s0.length a0', .slice A1' s1.length a1', .slice A2' s2.length a2']) (cs' := #[.slice A0' s0.length a0', .slice A1' s1.length a1', .slice A2' s2.length a2']) rfl rfl rfl rfl rfl rfl rfl (by kernel_rfl) rfl B5.out rfl rfl HB.out G5.out ?_
 intro W7 b1 hb1 hs1 hk1
 have n0_ := Aside0.mk ((hk1 g6 NE.out.symm).trans B6.out)
 have n1_ := Aside0.mk (VX.out.store (fun _ h => h.1) hk1)
 have n2_ := Aside0.mk (VY.out.store (fun _ h => h.1) hk1)
 clear B5 B6 VX VY HB hs1 hk1
 have B5 := Aside0.mk b1
 have B6 := n0_
 have VX := n1_
 have VY := n2_
 have HB := Aside0.mk hb1
 clear n0_ n1_ n2_ b1 hb1
 refine hK.out _ _ HB.out (fun _ => ?_)
 clear hK K
 refine one_ (i := 7) (N := none) #[true, true, true, true, true, true, true, true] rfl rfl (one_of HT_.out (by kernel_rfl)) (by decide) (fun K hK => ?_)
 refine store_at_any (w0 := w2) (j := 0) (u := .agg #[.slice D0' t0.length b0', .slice D1' t1.length b1', .slice D2' t2.length b2']) (cs' := #[.slice D0' t0.length b0', .slice D1' t1.length b1', .slice D2' t2.length b2']) rfl rfl rfl rfl rfl rfl rfl (by kernel_rfl) rfl B6.out rfl rfl HB.out G6.out ?_
 intro W7 b1 hb1 hs1 hk1
 have n0_ := Aside0.mk ((hk1 g5 NE.out).trans B5.out)
 have n1_ := Aside0.mk (VX.out.store (fun _ h => h.2) hk1)
 have n2_ := Aside0.mk (VY.out.store (fun _ h => h.2) hk1)
 clear B5 B6 VX VY HB hs1 hk1
 have B6 := Aside0.mk b1
 have B5 := n0_
 have VX := n1_
 have VY := n2_
 have HB := Aside0.mk hb1
 clear n0_ n1_ n2_ b1 hb1
 refine hK.out _ _ HB.out (fun _ => ?_)
 clear hK K
 refine done_ (done_of HT_.out (by kernel_rfl)) ?_
 go_upto_region 2 with (fail)
 have e0_ := lift_ HB.out q0
 have e1_ := lift_ HB.out q1
 have e2_ := lift_ HB.out q2
 have e3_ := lift_ HB.out q3
 have e4_ := lift_ HB.out q4
 have e5_ := lift_ HB.out q5
 obtain ⟨x0, x1, x2, -, -, -⟩ := cells3 B5.out
 obtain ⟨y0, y1, y2, -, -, -⟩ := cells3 B6.out
 obtain ⟨-, Xl0_, Xc0_⟩ := Kd.R_reads' VX.out.r0
 obtain ⟨-, Xl1_, Xc1_⟩ := Kd.R_reads' VX.out.r1
 obtain ⟨-, Xl2_, Xc2_⟩ := Kd.R_reads' VX.out.r2
 obtain ⟨-, Yl0_, Yc0_⟩ := Kd.R_reads' VY.out.r0
 obtain ⟨-, Yl1_, Yc1_⟩ := Kd.R_reads' VY.out.r1
 obtain ⟨-, Yl2_, Yc2_⟩ := Kd.R_reads' VY.out.r2
 have HV := Aside0.mk (below_step HW.out HB.out)
 clear HB HW B5 B6 VX VY q0 q1 q2 q3 q4 q5
 have HB := Aside0.mk (Below.refl W7.heap.size W7)
 have n0_ := Aside0.mk (below_drew1 HB.out)
 clear HB
 have HB := n0_
 clear n0_
 refine start_ (n := 23) (S := fun w' => Below W7.heap.size W7 w') (ds := []) b23_0 (by kernel_rfl) rfl (by kernel_rfl) HB.out (fun _ => ?_)
 refine with_tabW relaylaw08_SfcSames.tab2 relaylaw08_SfcSames.bits2 (fun HT_ HW_ => ?_)
 generalize World.drew _ = W5 at HB ⊢
 refine take_ (i := 0) (N := some 11) (v := ?_) (a' := ?_) b23_1 rfl rfl (take_ofW HT_.out HW_.out (by kernel_rfl)) (fun _ _ _ h => h) (Or.inl ⟨by rfl, ?_⟩) HB.out ?_ ?_
 rotate_left
 ·
  intro w' hS
  have s0 := lift_ hS x0
  have s1 := lift_ hS x1
  have s2 := lift_ hS x2
  go_simp
  with_reducible rfl
 rotate_left
 ·
  simp only [Act.put, List.setIfInBounds_toArray, List.set_cons_zero, List.set_cons_succ, i64_w, i32_w]
  rfl
 refine take_ (i := 1) (N := some 12) (v := ?_) (a' := ?_) b23_3 rfl rfl (take_ofW HT_.out HW_.out (by kernel_rfl)) (fun _ _ _ h => h) (Or.inl ⟨by rfl, ?_⟩) HB.out ?_ ?_
 rotate_left
 ·
  intro w' hS
  have s0 := lift_ hS y0
  have s1 := lift_ hS y1
  have s2 := lift_ hS y2
  go_simp
  with_reducible rfl
 rotate_left
 ·
  simp only [Act.put, List.setIfInBounds_toArray, List.set_cons_zero, List.set_cons_succ, i64_w, i32_w]
  rfl
 refine take_ (i := 3) (N := some 14) (v := ?_) (a' := ?_) b23_b rfl rfl (take_ofW HT_.out HW_.out (by kernel_rfl)) (fun _ _ _ h => h) (Or.inl ⟨by rfl, ?_⟩) HB.out ?_ ?_
 rotate_left
 ·
  intro w' hS
  have s0 := lift_ hS e0_
  have s1 := lift_ hS e1_
  have s2 := lift_ hS e2_
  go_simp
  with_reducible rfl
 rotate_left
 ·
  simp only [Act.put, List.setIfInBounds_toArray, List.set_cons_zero, List.set_cons_succ, i64_w, i32_w]
  rfl
 refine take_ (i := 4) (N := some 15) (v := ?_) (a' := ?_) b23_1b rfl rfl (take_ofW HT_.out HW_.out (by kernel_rfl)) (fun _ _ _ h => h) (Or.inl ⟨by rfl, ?_⟩) HB.out ?_ ?_
 rotate_left
 ·
  intro w' hS
  have s0 := lift_ hS e3_
  have s1 := lift_ hS e4_
  have s2 := lift_ hS e5_
  go_simp
  with_reducible rfl
 rotate_left
 ·
  simp only [Act.put, List.setIfInBounds_toArray, List.set_cons_zero, List.set_cons_succ, i64_w, i32_w]
  rfl
 refine one_ (i := 2) (N := some 13) b23_1f rfl rfl (one_of HT_.out (by kernel_rfl)) (by decide) (fun K hK => ?_)
 refine goes_ Try.func13 (by kernel_rfl) rfl #[.agg #[.slice A0' s0.length a0', .slice A1' s1.length a1', .slice A2' s2.length a2'], .agg #[.slice D0' t0.length b0', .slice D1' t1.length b1', .slice D2' t2.length b2']] (by rfl) rfl rfl (by (try simp only [List.map_toArray, List.map_cons, List.map_nil]); first | done | rfl) ?_
 refine (sfc_Same.calls k _ _ s0 _ _ s1 _ _ s2 _ _ t0 _ _ t1 _ _ t2 u _ (Kd.C_below Xc0_ HB.out) Xl0_ (Kd.C_below Yc0_ HB.out) Yl0_ (Kd.C_below Xc1_ HB.out) Xl1_ (Kd.C_below Yc1_ HB.out) Yl1_ (Kd.C_below Xc2_ HB.out) Xl2_ (Kd.C_below Yc2_ HB.out) Yl2_ Qg1_.out).mono ?_
 rintro e w' ⟨rfl, hb⟩
 refine ⟨_, rfl, ?_⟩
 have n0_ := Aside0.mk (below_step HB.out hb)
 clear HB hb
 have HB := n0_
 clear n0_
 refine hK.out _ _ HB.out (fun _ => ?_)
 clear hK K
 refine norm_ (a' := ?_) ?_ ?_
 rotate_left
 ·
  show Act.put _ (some 13) _ = _
  simp only [Act.put, List.setIfInBounds_toArray, List.set_cons_zero, List.set_cons_succ, i64_w, i32_w]
  rfl
 refine one_ (i := 5) (N := some 16) b23_3f rfl rfl (one_of HT_.out (by kernel_rfl)) (by decide) (fun K hK => ?_)
 refine goes_ Try.func14 (by kernel_rfl) rfl #[.agg #[.slice A0 l0.length c0, .slice A1 l1.length c1, .slice A2 l2.length c2], .agg #[.slice D0 m0.length e0, .slice D1 m1.length e1, .slice D2 m2.length e2]] (by rfl) rfl rfl (by (try simp only [List.map_toArray, List.map_cons, List.map_nil]); first | done | rfl) ?_
 refine (relayref08_Same.calls k _ _ l0 _ _ l1 _ _ l2 _ _ m0 _ _ m1 _ _ m2 u _ (Kd.C_below HR0.out (below_step HV.out HB.out)) HC0.out (Kd.C_below HS0.out (below_step HV.out HB.out)) HD0.out (Kd.C_below HR1.out (below_step HV.out HB.out)) HC1.out (Kd.C_below HS1.out (below_step HV.out HB.out)) HD1.out (Kd.C_below HR2.out (below_step HV.out HB.out)) HC2.out (Kd.C_below HS2.out (below_step HV.out HB.out)) HD2.out Qg2_.out).mono ?_
 rintro e w' ⟨rfl, hb⟩
 refine ⟨_, rfl, ?_⟩
 have n0_ := Aside0.mk (below_step HB.out hb)
 clear HB hb
 have HB := n0_
 clear n0_
 refine hK.out _ _ HB.out (fun _ => ?_)
 clear hK K
 refine norm_ (a' := ?_) ?_ ?_
 rotate_left
 ·
  show Act.put _ (some 16) _ = _
  simp only [Act.put, List.setIfInBounds_toArray, List.set_cons_zero, List.set_cons_succ, i64_w, i32_w]
  rfl
 refine pure_ (i := 6) (N := some 17) (v := ?_) (a' := ?_) b23_7f rfl rfl (any_of HT_.out (by kernel_rfl)) (fun _ _ _ h => h) (Or.inl ⟨by rfl, ?_⟩) ?_ ?_
 rotate_left
 ·
  intro w'
  go_simp
  with_reducible rfl
 rotate_left
 ·
  simp only [Act.put, List.setIfInBounds_toArray, List.set_cons_zero, List.set_cons_succ, i64_w, i32_w]
  rfl
 refine pure_ (i := 7) (N := some 18) (v := ?_) (a' := ?_) b23_ff rfl rfl (any_of HT_.out (by kernel_rfl)) (fun _ _ _ h => h) (Or.inl ⟨by rfl, ?_⟩) ?_ ?_
 rotate_left
 ·
  intro w'
  go_simp
  with_reducible rfl
 rotate_left
 ·
  simp only [Act.put, List.setIfInBounds_toArray, List.set_cons_zero, List.set_cons_succ, i64_w, i32_w]
  rfl
 refine take_ (i := 8) (N := some 19) (v := ?_) (a' := ?_) b23_1ff rfl rfl (take_ofW HT_.out HW_.out (by kernel_rfl)) (fun _ _ _ h => h) (Or.inl ⟨by rfl, ?_⟩) HB.out ?_ ?_
 rotate_left
 ·
  intro w' hS
  have s0 := lift_ hS x0
  have s1 := lift_ hS x1
  have s2 := lift_ hS x2
  go_simp
  with_reducible rfl
 rotate_left
 ·
  simp only [Act.put, List.setIfInBounds_toArray, List.set_cons_zero, List.set_cons_succ, i64_w, i32_w]
  rfl
 refine take_ (i := 9) (N := some 20) (v := ?_) (a' := ?_) b23_3ff rfl rfl (take_ofW HT_.out HW_.out (by kernel_rfl)) (fun _ _ _ h => h) (Or.inl ⟨by rfl, ?_⟩) HB.out ?_ ?_
 rotate_left
 ·
  intro w' hS
  have s0 := lift_ hS x0
  have s1 := lift_ hS x1
  have s2 := lift_ hS x2
  go_simp
  with_reducible rfl
 rotate_left
 ·
  simp only [Act.put, List.setIfInBounds_toArray, List.set_cons_zero, List.set_cons_succ, i64_w, i32_w]
  rfl
 refine one_ (i := 10) (N := some 21) b23_7ff rfl rfl (one_of HT_.out (by kernel_rfl)) (by decide) (fun K hK => ?_)
 refine goes_ Try.func13 (by kernel_rfl) rfl #[.agg #[.slice A0' s0.length a0', .slice A1' s1.length a1', .slice A2' s2.length a2'], .agg #[.slice A0' s0.length a0', .slice A1' s1.length a1', .slice A2' s2.length a2']] (by rfl) rfl rfl (by (try simp only [List.map_toArray, List.map_cons, List.map_nil]); first | done | rfl) ?_
 refine (sfc_Same.calls k _ _ s0 _ _ s1 _ _ s2 _ _ s0 _ _ s1 _ _ s2 true _ (Kd.C_below Xc0_ HB.out) Xl0_ (Kd.C_below Xc0_ HB.out) Xl0_ (Kd.C_below Xc1_ HB.out) Xl1_ (Kd.C_below Xc1_ HB.out) Xl1_ (Kd.C_below Xc2_ HB.out) Xl2_ (Kd.C_below Xc2_ HB.out) Xl2_ Qg3_.out).mono ?_
 rintro e w' ⟨rfl, hb⟩
 refine ⟨_, rfl, ?_⟩
 have n0_ := Aside0.mk (below_step HB.out hb)
 clear HB hb
 have HB := n0_
 clear n0_
 refine hK.out _ _ HB.out (fun _ => ?_)
 clear hK K
 refine norm_ (a' := ?_) ?_ ?_
 rotate_left
 ·
  show Act.put _ (some 21) _ = _
  simp only [Act.put, List.setIfInBounds_toArray, List.set_cons_zero, List.set_cons_succ, i64_w, i32_w]
  rfl
 refine pure_ (i := 11) (N := some 22) (v := ?_) (a' := ?_) b23_fff rfl rfl (any_of HT_.out (by kernel_rfl)) (fun _ _ _ h => h) (Or.inl ⟨by rfl, ?_⟩) ?_ ?_
 rotate_left
 ·
  intro w'
  go_simp
  with_reducible rfl
 rotate_left
 ·
  simp only [Act.put, List.setIfInBounds_toArray, List.set_cons_zero, List.set_cons_succ, i64_w, i32_w]
  rfl
 refine pure_ (i := 12) (N := some 23) (v := ?_) (a' := ?_) b23_1fff rfl rfl (any_of HT_.out (by kernel_rfl)) (fun _ _ _ h => h) (Or.inl ⟨by rfl, ?_⟩) ?_ ?_
 rotate_left
 ·
  intro w'
  go_simp
  with_reducible rfl
 rotate_left
 ·
  simp only [Act.put, List.setIfInBounds_toArray, List.set_cons_zero, List.set_cons_succ, i64_w, i32_w]
  rfl
 refine take_ (i := 13) (N := some 24) (v := ?_) (a' := ?_) b23_3fff rfl rfl (take_ofW HT_.out HW_.out (by kernel_rfl)) (fun _ _ _ h => h) (Or.inl ⟨by rfl, ?_⟩) HB.out ?_ ?_
 rotate_left
 ·
  intro w' hS
  have s0 := lift_ hS x0
  have s1 := lift_ hS x1
  have s2 := lift_ hS x2
  go_simp
  with_reducible rfl
 rotate_left
 ·
  simp only [Act.put, List.setIfInBounds_toArray, List.set_cons_zero, List.set_cons_succ, i64_w, i32_w]
  rfl
 refine take_ (i := 14) (N := some 25) (v := ?_) (a' := ?_) b23_7fff rfl rfl (take_ofW HT_.out HW_.out (by kernel_rfl)) (fun _ _ _ h => h) (Or.inl ⟨by rfl, ?_⟩) HB.out ?_ ?_
 rotate_left
 ·
  intro w' hS
  have s0 := lift_ hS e0_
  have s1 := lift_ hS e1_
  have s2 := lift_ hS e2_
  go_simp
  with_reducible rfl
 rotate_left
 ·
  simp only [Act.put, List.setIfInBounds_toArray, List.set_cons_zero, List.set_cons_succ, i64_w, i32_w]
  rfl
 refine one_ (i := 15) (N := some 26) b23_ffff rfl rfl (one_of HT_.out (by kernel_rfl)) (by decide) (fun K hK => ?_)
 refine goes_ Try.func15 (by kernel_rfl) rfl #[.agg #[.slice A0' s0.length a0', .slice A1' s1.length a1', .slice A2' s2.length a2'], .agg #[.slice A0 l0.length c0, .slice A1 l1.length c1, .slice A2 l2.length c2]] (by rfl) rfl rfl (by (try simp only [List.map_toArray, List.map_cons, List.map_nil]); first | done | rfl) ?_
 refine (relayplain_SameChart.calls k _ _ s0 _ _ s1 _ _ s2 _ _ l0 _ _ l1 _ _ l2 true _ (Kd.C_below Xc0_ HB.out) Xl0_ (Kd.C_below HR0.out (below_step HV.out HB.out)) HC0.out (Kd.C_below Xc1_ HB.out) Xl1_ (Kd.C_below HR1.out (below_step HV.out HB.out)) HC1.out (Kd.C_below Xc2_ HB.out) Xl2_ (Kd.C_below HR2.out (below_step HV.out HB.out)) HC2.out Qg4_.out).mono ?_
 rintro e w' ⟨rfl, hb⟩
 refine ⟨_, rfl, ?_⟩
 have n0_ := Aside0.mk (below_step HB.out hb)
 clear HB hb
 have HB := n0_
 clear n0_
 refine hK.out _ _ HB.out (fun _ => ?_)
 clear hK K
 refine norm_ (a' := ?_) ?_ ?_
 rotate_left
 ·
  show Act.put _ (some 26) _ = _
  simp only [Act.put, List.setIfInBounds_toArray, List.set_cons_zero, List.set_cons_succ, i64_w, i32_w]
  rfl
 refine pure_ (i := 16) (N := some 27) (v := ?_) (a' := ?_) b23_1ffff rfl rfl (any_of HT_.out (by kernel_rfl)) (fun _ _ _ h => h) (Or.inl ⟨by rfl, ?_⟩) ?_ ?_
 rotate_left
 ·
  intro w'
  go_simp
  with_reducible rfl
 rotate_left
 ·
  simp only [Act.put, List.setIfInBounds_toArray, List.set_cons_zero, List.set_cons_succ, i64_w, i32_w]
  rfl
 refine pure_ (i := 17) (N := some 28) (v := ?_) (a' := ?_) b23_3ffff rfl rfl (any_of HT_.out (by kernel_rfl)) (fun _ _ _ h => h) (Or.inl ⟨by rfl, ?_⟩) ?_ ?_
 rotate_left
 ·
  intro w'
  go_simp
  with_reducible rfl
 rotate_left
 ·
  simp only [Act.put, List.setIfInBounds_toArray, List.set_cons_zero, List.set_cons_succ, i64_w, i32_w]
  rfl
 refine take_ (i := 18) (N := some 29) (v := ?_) (a' := ?_) b23_7ffff rfl rfl (take_ofW HT_.out HW_.out (by kernel_rfl)) (fun _ _ _ h => h) (Or.inl ⟨by rfl, ?_⟩) HB.out ?_ ?_
 rotate_left
 ·
  intro w' hS
  have s0 := lift_ hS y0
  have s1 := lift_ hS y1
  have s2 := lift_ hS y2
  go_simp
  with_reducible rfl
 rotate_left
 ·
  simp only [Act.put, List.setIfInBounds_toArray, List.set_cons_zero, List.set_cons_succ, i64_w, i32_w]
  rfl
 refine take_ (i := 19) (N := some 30) (v := ?_) (a' := ?_) b23_fffff rfl rfl (take_ofW HT_.out HW_.out (by kernel_rfl)) (fun _ _ _ h => h) (Or.inl ⟨by rfl, ?_⟩) HB.out ?_ ?_
 rotate_left
 ·
  intro w' hS
  have s0 := lift_ hS e3_
  have s1 := lift_ hS e4_
  have s2 := lift_ hS e5_
  go_simp
  with_reducible rfl
 rotate_left
 ·
  simp only [Act.put, List.setIfInBounds_toArray, List.set_cons_zero, List.set_cons_succ, i64_w, i32_w]
  rfl
 refine one_ (i := 20) (N := some 31) b23_1fffff rfl rfl (one_of HT_.out (by kernel_rfl)) (by decide) (fun K hK => ?_)
 refine goes_ Try.func15 (by kernel_rfl) rfl #[.agg #[.slice D0' t0.length b0', .slice D1' t1.length b1', .slice D2' t2.length b2'], .agg #[.slice D0 m0.length e0, .slice D1 m1.length e1, .slice D2 m2.length e2]] (by rfl) rfl rfl (by (try simp only [List.map_toArray, List.map_cons, List.map_nil]); first | done | rfl) ?_
 refine (relayplain_SameChart.calls k _ _ t0 _ _ t1 _ _ t2 _ _ m0 _ _ m1 _ _ m2 true _ (Kd.C_below Yc0_ HB.out) Yl0_ (Kd.C_below HS0.out (below_step HV.out HB.out)) HD0.out (Kd.C_below Yc1_ HB.out) Yl1_ (Kd.C_below HS1.out (below_step HV.out HB.out)) HD1.out (Kd.C_below Yc2_ HB.out) Yl2_ (Kd.C_below HS2.out (below_step HV.out HB.out)) HD2.out Qg5_.out).mono ?_
 rintro e w' ⟨rfl, hb⟩
 refine ⟨_, rfl, ?_⟩
 have n0_ := Aside0.mk (below_step HB.out hb)
 clear HB hb
 have HB := n0_
 clear n0_
 refine hK.out _ _ HB.out (fun _ => ?_)
 clear hK K
 refine norm_ (a' := ?_) ?_ ?_
 rotate_left
 ·
  show Act.put _ (some 31) _ = _
  simp only [Act.put, List.setIfInBounds_toArray, List.set_cons_zero, List.set_cons_succ, i64_w, i32_w]
  rfl
 refine pure_ (i := 21) (N := some 32) (v := ?_) (a' := ?_) b23_3fffff rfl rfl (any_of HT_.out (by kernel_rfl)) (fun _ _ _ h => h) (Or.inl ⟨by rfl, ?_⟩) ?_ ?_
 rotate_left
 ·
  intro w'
  go_simp
  with_reducible rfl
 rotate_left
 ·
  simp only [Act.put, List.setIfInBounds_toArray, List.set_cons_zero, List.set_cons_succ, i64_w, i32_w]
  rfl
 refine pure_ (i := 22) (N := some 4) (v := ?_) (a' := ?_) b23_7fffff rfl rfl (any_of HT_.out (by kernel_rfl)) (fun _ _ _ h => h) (Or.inl ⟨by rfl, ?_⟩) ?_ ?_
 rotate_left
 ·
  intro w'
  go_simp
  with_reducible rfl
 rotate_left
 ·
  simp only [Act.put, List.setIfInBounds_toArray, List.set_cons_zero, List.set_cons_succ, i64_w, i32_w]
  rfl
 refine done_ (done_of HT_.out (by kernel_rfl)) ?_
 go_wp2
 go_ret
 exact ⟨rfl, below_step HV.out HB.out⟩
end Go.Proofs.Ytmdkbhbconnmmaa.XSfc
