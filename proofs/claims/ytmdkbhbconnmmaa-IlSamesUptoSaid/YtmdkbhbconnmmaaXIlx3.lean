-- WRITTEN BY wip/tools/xprint.py out of the translation: the kit's print with this work's hooks.
import Derived.Test.YtmdkbhbconnmmaaXIlx0
import Derived.Test.YtmdkbhbconnmmaaXIlx2
namespace Go.Proofs.Ytmdkbhbconnmmaa.XIl
open Go.RowKit Go.Proofs.YtmdkbhbconnmmaaW.PrintWords Go.Proofs.YtmdkbhbconnmmaaW.PrintLast Go.Proofs.YtmdkbhbconnmmaaW.PrintMore
attribute [local go_sem] max2_int min2_int max_two min_two max_three min_three max_four min_four   -- for this text's walks alone
set_option linter.unusedVariables false
set_option linter.unusedSimpArgs false

/-! ### relaylaw06_copied: function 16 -/
def relaylaw06_copied.l0 : Nat → List (S81) → List (S81) → Int → Int → Option ((List (S81)))
 | 0, _, _, _, _ => none
 | k + 1, x3, x6, x7, x8 => if x8 < x7 then (if 0 ≤ x8 then (if x8 < (x6.length : Int) then ((relayplain_Exprs.f k ((rd_T81 x6 x8).f7)).bind fun t103 => ((relayplain_Exprs.f k ((rd_T81 x6 x8).f9)).bind fun t106 => ((slices_Clone_string_string.f ((rd_T81 x6 x8).f8)).bind fun t109 => ((slices_Clone_string_string.f ((rd_T81 x6 x8).f10)).bind fun t112 => (if x3.length < 879609302220 then (relaylaw06_copied.l0 k (x3 ++ [(⟨(rd_T81 x6 x8).f0, (rd_T81 x6 x8).f1, (rd_T81 x6 x8).f2, (rd_T81 x6 x8).f3, (rd_T81 x6 x8).f4, (rd_T81 x6 x8).f5, (rd_T81 x6 x8).f6, t103, t109, t106, t112⟩ : S81)]) x6 x7 (wrap64 (x8 + 1))) else (none)))))) else (none)) else (none)) else (some x3)
def relaylaw06_copied.f (k : Nat) (l0 : List (S81)) : Option ((List (S81))) := relaylaw06_copied.l0 k ([] : List (S81)) l0 (l0.length : Int) 0
theorem relaylaw06_copied.mono_l : ∀ k, (∀ y0 y1 y2 y3, LeO (relaylaw06_copied.l0 k y0 y1 y2 y3) (relaylaw06_copied.l0 (k + 1) y0 y1 y2 y3))
 | 0 => fun _ _ _ _ r h => by simp [relaylaw06_copied.l0] at h
 | k + 1 => by
  have ih0 := relaylaw06_copied.mono_l k
  · intro y0 y1 y2 y3
    unfold relaylaw06_copied.l0
    repeat' first
    | (with_reducible exact ih0 _ _ _ _)
    | (with_reducible exact relayplain_Exprs.mono _ _)
    | (with_reducible exact LeO.refl _)
    | (with_reducible exact LeO.none _)
    | (with_reducible refine LeO.ite ?_ ?_)
    | (with_reducible refine LeO.bind ?_ (fun _ => ?_))
    | exact ih0 _ _ _ _
    | exact relayplain_Exprs.mono _ _
    | exact LeO.none _
    | refine LeO.ite ?_ ?_
    | refine LeO.bind ?_ (fun _ => ?_)
theorem relaylaw06_copied.mono : ∀ a0 k, LeO (relaylaw06_copied.f k a0) (relaylaw06_copied.f (k + 1) a0) := by
 intro a0 k
 have ih0 := relaylaw06_copied.mono_l k
 unfold relaylaw06_copied.f
 repeat' first
  | (with_reducible exact ih0 _ _ _ _)
  | (with_reducible exact relayplain_Exprs.mono _ _)
  | (with_reducible exact LeO.refl _)
  | (with_reducible exact LeO.none _)
  | (with_reducible refine LeO.ite ?_ ?_)
  | (with_reducible refine LeO.bind ?_ (fun _ => ?_))
  | exact ih0 _ _ _ _
  | exact relayplain_Exprs.mono _ _
  | exact LeO.none _
  | refine LeO.ite ?_ ?_
  | refine LeO.bind ?_ (fun _ => ?_)
def relaylaw06_copied.T5 : Bool × List (List Nat × List Nat) := (true, [([], []), ([0], [0]), ([1], [1]), ([], []), ([3], [3]), ([4, 2], [4]), ([0, 1, 2, 3, 4], []), ([6, 2, 5, 0, 1, 2, 3, 4], [2, 6]), ([0, 1, 2, 3, 4, 5, 6, 7], []), ([8, 5, 7, 0, 1, 2, 3, 4, 5, 6, 7], [5, 8])])
def relaylaw06_copied.B5 : List Nat := [0, 1, 3, 0, 8, 31, 31, 127, 255, 511]
theorem relaylaw06_copied.tab5 : rtab .any (opsOf Try.f16 5) = relaylaw06_copied.T5 := by kernel_rfl
theorem relaylaw06_copied.bits5 : waitsOk relaylaw06_copied.T5.2 relaylaw06_copied.B5 = true := by kernel_rfl
def relaylaw06_copied.T6 : Bool × List (List Nat × List Nat) := (true, [([], []), ([0], [0]), ([1], [1]), ([], []), ([3], [3]), ([4, 2], [4]), ([0, 1, 2, 3, 4], []), ([6, 2, 5, 0, 1, 2, 3, 4], [2, 6]), ([0, 1, 2, 3, 4, 5, 6, 7], []), ([8, 5, 7, 0, 1, 2, 3, 4, 5, 6, 7], [5, 8])])
def relaylaw06_copied.B6 : List Nat := [0, 1, 3, 0, 8, 31, 31, 127, 255, 511]
theorem relaylaw06_copied.tab6 : rtab .any (opsOf Try.f16 6) = relaylaw06_copied.T6 := by kernel_rfl
theorem relaylaw06_copied.bits6 : waitsOk relaylaw06_copied.T6.2 relaylaw06_copied.B6 = true := by kernel_rfl
set_option maxHeartbeats 8000000 in
set_option maxRecDepth 100000 in
theorem relaylaw06_copied.calls (k : Nat) (A0 : Option Addr) (c0 : Nat) (l0 : List (S81)) (r : List (S81)) (w : World) (hr0 : Kd.C k81 w A0 l0.length l0) (hc0 : l0.length ≤ c0) (h : relaylaw06_copied.f k l0 = some r) :
 Calls Try.prog 16 #[.slice A0 l0.length c0] w fun e w' => ∃ v0_ : Value, e = .returned (v0_) ∧ Kd.R k81 81 w' w.heap.size (fun _ => True) v0_ r ∧ Below w.heap.size w w' := by
 have hu81 := Try.underlying81
 have HR0 := Aside0.mk hr0
 have HC0 := Aside0.mk hc0
 clear hr0 hc0
 have HB := Aside0.mk (Below.refl w.heap.size w)
 have H : (relaylaw06_copied.l0 k ([] : List (S81)) l0 (l0.length : Int) 0) = some r := h
 clear h
 have H' := Aside0.mk H
 clear H
 go_enter Try.func16, Try.ntmps16
 go_wp2
 go_loopg [3, 8] k (fun kq v3 v8 w' => ∃ (x3_1 : List (S81)) (x8_1 : Int), v8 = .int .i64 x8_1 ∧ Aside0 (relaylaw06_copied.l0 kq x3_1 l0 (l0.length : Int) x8_1 = some r) ∧ Aside0 (kq ≤ k) ∧ Aside0 (Kd.R k81 81 w' w.heap.size (fun _ => True) v3 x3_1) ∧ Aside0 (Below w.heap.size w w'))
 case atStart => exact ⟨(([] : List (S81))), (0), (by first | rfl | (simp; done) | (simp [*]; done) | (simp [*, bne]; done)), H', ⟨Nat.le_refl _⟩, ⟨by first | exact Kd.R_nil _ _ _ _ _ | exact Kd.N_nil _ _ _ _ _ | exact Kd.V_nil _ _ _ _ _ | exact Kd.Q_nil _ _ _ _ _ | exact Kd.S_nil _ _ _ _ _⟩, ⟨by repeat (first | (with_reducible first | exact HB.out | apply below_alloc | apply pw_below_drewN | apply below_drew1) | exact HB.out)⟩⟩
 case round =>
  clear H'
  try clear c1
  obtain ⟨x3_1, x8_1, rfl, HA, HK1, HO_3, HB⟩ := hrel
  cases gk with
  | zero => exact absurd HA.out (by simp [relaylaw06_copied.l0])
  | succ k1 =>
   have H := HA.out
   clear HA
   simp only [relaylaw06_copied.l0] at H
   by_cases c2 : x8_1 < (l0.length : Int)
   · rw [if_pos c2] at H
     have c2b0 : decide (x8_1 < (l0.length : Int)) = true := decide_eq_true c2
     clear c2
     by_cases c3 : 0 ≤ x8_1
     · rw [if_pos c3] at H
       have c3b0 : decide (0 ≤ x8_1) = true := decide_eq_true c3
       clear c3
       by_cases c4 : x8_1 < (l0.length : Int)
       · rw [if_pos c4] at H
         have c4b0 : decide (x8_1 < (l0.length : Int)) = true := decide_eq_true c4
         clear c4
         replace H := Option.bind_eq_some_iff.mp H
         obtain ⟨t103, A50, H⟩ := H
         replace H : ((relayplain_Exprs.f k1 ((rd_T81 l0 x8_1).f9)).bind fun t106 => ((slices_Clone_string_string.f ((rd_T81 l0 x8_1).f8)).bind fun t109 => ((slices_Clone_string_string.f ((rd_T81 l0 x8_1).f10)).bind fun t112 => (if x3_1.length < 879609302220 then (relaylaw06_copied.l0 k1 (x3_1 ++ [(⟨(rd_T81 l0 x8_1).f0, (rd_T81 l0 x8_1).f1, (rd_T81 l0 x8_1).f2, (rd_T81 l0 x8_1).f3, (rd_T81 l0 x8_1).f4, (rd_T81 l0 x8_1).f5, (rd_T81 l0 x8_1).f6, t103, t109, t106, t112⟩ : S81)]) l0 (l0.length : Int) (wrap64 (x8_1 + 1))) else (none))))) = some r := H
         have A5 := Aside0.mk A50
         clear A50
         replace H := Option.bind_eq_some_iff.mp H
         obtain ⟨t106, A60, H⟩ := H
         replace H : ((slices_Clone_string_string.f ((rd_T81 l0 x8_1).f8)).bind fun t109 => ((slices_Clone_string_string.f ((rd_T81 l0 x8_1).f10)).bind fun t112 => (if x3_1.length < 879609302220 then (relaylaw06_copied.l0 k1 (x3_1 ++ [(⟨(rd_T81 l0 x8_1).f0, (rd_T81 l0 x8_1).f1, (rd_T81 l0 x8_1).f2, (rd_T81 l0 x8_1).f3, (rd_T81 l0 x8_1).f4, (rd_T81 l0 x8_1).f5, (rd_T81 l0 x8_1).f6, t103, t109, t106, t112⟩ : S81)]) l0 (l0.length : Int) (wrap64 (x8_1 + 1))) else (none)))) = some r := H
         have A6 := Aside0.mk A60
         clear A60
         replace H := Option.bind_eq_some_iff.mp H
         obtain ⟨t109, A70, H⟩ := H
         replace H : ((slices_Clone_string_string.f ((rd_T81 l0 x8_1).f10)).bind fun t112 => (if x3_1.length < 879609302220 then (relaylaw06_copied.l0 k1 (x3_1 ++ [(⟨(rd_T81 l0 x8_1).f0, (rd_T81 l0 x8_1).f1, (rd_T81 l0 x8_1).f2, (rd_T81 l0 x8_1).f3, (rd_T81 l0 x8_1).f4, (rd_T81 l0 x8_1).f5, (rd_T81 l0 x8_1).f6, t103, t109, t106, t112⟩ : S81)]) l0 (l0.length : Int) (wrap64 (x8_1 + 1))) else (none))) = some r := H
         have A7 := Aside0.mk A70
         clear A70
         replace H := Option.bind_eq_some_iff.mp H
         obtain ⟨t112, A80, H⟩ := H
         replace H : (if x3_1.length < 879609302220 then (relaylaw06_copied.l0 k1 (x3_1 ++ [(⟨(rd_T81 l0 x8_1).f0, (rd_T81 l0 x8_1).f1, (rd_T81 l0 x8_1).f2, (rd_T81 l0 x8_1).f3, (rd_T81 l0 x8_1).f4, (rd_T81 l0 x8_1).f5, (rd_T81 l0 x8_1).f6, t103, t109, t106, t112⟩ : S81)]) l0 (l0.length : Int) (wrap64 (x8_1 + 1))) else (none)) = some r := H
         have A8 := Aside0.mk A80
         clear A80
         by_cases c9 : x3_1.length < 879609302220
         · rw [if_pos c9] at H
           have LMc9 := Aside0.mk c9
           clear c9
           obtain ⟨y115, hy115⟩ : ∃ y_ : List (S81), y_ = (x3_1 ++ [(⟨(rd_T81 l0 x8_1).f0, (rd_T81 l0 x8_1).f1, (rd_T81 l0 x8_1).f2, (rd_T81 l0 x8_1).f3, (rd_T81 l0 x8_1).f4, (rd_T81 l0 x8_1).f5, (rd_T81 l0 x8_1).f6, t103, t109, t106, t112⟩ : S81)]) := ⟨_, rfl⟩
           replace H : (relaylaw06_copied.l0 k1 y115 l0 (l0.length : Int) (wrap64 (x8_1 + 1))) = some r := by first | (rw [hy115]; with_reducible exact H) | (have H2_ := (Option.bind_some _ _).symm.trans H; rw [hy115]; with_reducible exact H2_) | (have H2_ := (Option.bind_some _ _).symm.trans H; with_reducible exact H2_) | with_reducible exact H | (rw [hy115]; exact H) | exact H
           have Ny115 := Aside0.mk hy115
           clear hy115
           have H' := Aside0.mk H
           clear H
           have p101 : 0 ≤ (x8_1 : Int) := of_decide_eq_true (by first | (with_reducible assumption) | assumption)
           have q101 : x8_1 < (l0.length : Int) := of_decide_eq_true (by first | (with_reducible assumption) | assumption)
           obtain ⟨ad101, A101_7, c101_7, A101_8, c101_8, A101_9, c101_9, A101_10, c101_10, e101, hx101_0, hx101_1, hx101_2, hx101_3, hx101_4, hx101_5, hx101_6, hx101_7, hx101_8, hx101_9, hx101_10, hl101_7, hi101_7, hl101_8, hi101_8, hl101_9, hi101_9, hl101_10, hi101_10⟩ := at_T81 HR0.out x8_1 p101 q101
           cases e101
           replace hx101_0 := (HB.out.cell (World.block_lt_of_cell? w _ hx101_0)).trans hx101_0
           replace hx101_1 := (HB.out.cell (World.block_lt_of_cell? w _ hx101_1)).trans hx101_1
           replace hx101_2 := (HB.out.cell (World.block_lt_of_cell? w _ hx101_2)).trans hx101_2
           replace hx101_3 := (HB.out.cell (World.block_lt_of_cell? w _ hx101_3)).trans hx101_3
           replace hx101_4 := (HB.out.cell (World.block_lt_of_cell? w _ hx101_4)).trans hx101_4
           replace hx101_5 := (HB.out.cell (World.block_lt_of_cell? w _ hx101_5)).trans hx101_5
           replace hx101_6 := (HB.out.cell (World.block_lt_of_cell? w _ hx101_6)).trans hx101_6
           replace hx101_7 := (HB.out.cell (World.block_lt_of_cell? w _ hx101_7)).trans hx101_7
           replace hx101_8 := (HB.out.cell (World.block_lt_of_cell? w _ hx101_8)).trans hx101_8
           replace hx101_9 := (HB.out.cell (World.block_lt_of_cell? w _ hx101_9)).trans hx101_9
           replace hx101_10 := (HB.out.cell (World.block_lt_of_cell? w _ hx101_10)).trans hx101_10
           have HR101_7 := Aside0.mk hi101_7
           have HC101_7 := Aside0.mk hl101_7
           clear hi101_7 hl101_7
           have HR101_8 := Aside0.mk hi101_8
           have HC101_8 := Aside0.mk hl101_8
           clear hi101_8 hl101_8
           have HR101_9 := Aside0.mk hi101_9
           have HC101_9 := Aside0.mk hl101_9
           clear hi101_9 hl101_9
           have HR101_10 := Aside0.mk hi101_10
           have HC101_10 := Aside0.mk hl101_10
           clear hi101_10 hl101_10
           replace p101 := eq_true p101
           replace q101 := eq_true q101
           try go_wp2_with (first | ((with_reducible refine gate_dst (N := 5) rfl ?_); refine box_event ?hg (N := 5) ?hd (cs := #[.int .i64 0, .string (⟨#[]⟩ : ByteArray), .string (⟨#[]⟩ : ByteArray), .bool false, .bool false, .bool false, .string (⟨#[]⟩ : ByteArray), .slice none 0 0, .slice none 0 0, .slice none 0 0, .slice none 0 0]) (t := 81) ?hr ?_; (case hd => rfl); (case hg => rfl); (case hr => first | (go_simp; done) | (go_simp; rfl)); intro gb102 hg w10 hbox hb; have n0_ := Aside0.mk (Kd.R_below (Kd.R_elderB (by (with_reducible repeat (first | apply Kd.R_alloc | apply Kd.R_drewN | apply Kd.R_drew)); exact HO_3.out) gb102 (Nat.le_of_eq hg.symm)) hb); have n1_ := Aside0.mk (below_step (by repeat (first | (with_reducible first | exact HB.out | apply below_alloc | apply pw_below_drewN | apply below_drew1) | exact HB.out)) hb); have n2_ := Aside0.mk (hbox); have n3_ := Aside0.mk ((by rw [hg]; exact (below_size (by repeat (first | (with_reducible first | exact HB.out | apply below_alloc | apply pw_below_drewN | apply below_drew1) | exact HB.out))) : w.heap.size ≤ gb102)); have n4_ := Aside0.mk ((by rw [hg]; exact (below_size (by repeat (first | (with_reducible first | exact HB.out | apply below_alloc | apply pw_below_drewN | apply below_drew1) | exact HB.out))) : w.heap.size ≤ gb102)); clear HO_3; clear HB; have HO_3 := n0_; have HB := n1_; have BK102 := n2_; have GW102 := n3_; have GE102 := n4_; clear n0_ n1_ n2_ n3_ n4_; clear hb hbox hg; obtain ⟨_, _, _, _, _, _, _, _, _, _, _, _, _, _, _, _, _, _, _, _, _, _⟩ := cells11 BK102.out))
           have n0_ : Aside0 (Kd.R k81 81 (((((((((((w10.setCell ⟨gb102, 0, none⟩ (.int .i64 ((rd_T81 l0 x8_1).f0))).setCell ⟨gb102, 1, none⟩ (.string ((rd_T81 l0 x8_1).f1))).setCell ⟨gb102, 2, none⟩ (.string ((rd_T81 l0 x8_1).f2))).setCell ⟨gb102, 3, none⟩ (.bool ((rd_T81 l0 x8_1).f3))).setCell ⟨gb102, 4, none⟩ (.bool ((rd_T81 l0 x8_1).f4))).setCell ⟨gb102, 5, none⟩ (.bool ((rd_T81 l0 x8_1).f5))).setCell ⟨gb102, 6, none⟩ (.string ((rd_T81 l0 x8_1).f6))).setCell ⟨gb102, 7, none⟩ (.slice A101_7 ((rd_T81 l0 x8_1).f7).length c101_7)).setCell ⟨gb102, 8, none⟩ (.slice A101_8 ((rd_T81 l0 x8_1).f8).length c101_8)).setCell ⟨gb102, 9, none⟩ (.slice A101_9 ((rd_T81 l0 x8_1).f9).length c101_9)).setCell ⟨gb102, 10, none⟩ (.slice A101_10 ((rd_T81 l0 x8_1).f10).length c101_10)) w.heap.size (fun k_ => k_ ≠ gb102) u3 x3_1) := ⟨by (with_reducible repeat (first | apply Kd.R_alloc | apply Kd.R_drewN | apply Kd.R_drew)); exact Kd.R_mono (Kd.R_far (p := ⟨gb102, 10, none⟩) (Kd.R_far (p := ⟨gb102, 9, none⟩) (Kd.R_far (p := ⟨gb102, 8, none⟩) (Kd.R_far (p := ⟨gb102, 7, none⟩) (Kd.R_far (p := ⟨gb102, 6, none⟩) (Kd.R_far (p := ⟨gb102, 5, none⟩) (Kd.R_far (p := ⟨gb102, 4, none⟩) (Kd.R_far (p := ⟨gb102, 3, none⟩) (Kd.R_far (p := ⟨gb102, 2, none⟩) (Kd.R_far (p := ⟨gb102, 1, none⟩) (Kd.R_far (p := ⟨gb102, 0, none⟩) (Kd.R_mono HO_3.out (fun k_ hk => (⟨hk, hk.2⟩ : _ ∧ k_ ≠ gb102))) (fun _ hk => hk.2) (.int .i64 ((rd_T81 l0 x8_1).f0))) (fun _ hk => hk.2) (.string ((rd_T81 l0 x8_1).f1))) (fun _ hk => hk.2) (.string ((rd_T81 l0 x8_1).f2))) (fun _ hk => hk.2) (.bool ((rd_T81 l0 x8_1).f3))) (fun _ hk => hk.2) (.bool ((rd_T81 l0 x8_1).f4))) (fun _ hk => hk.2) (.bool ((rd_T81 l0 x8_1).f5))) (fun _ hk => hk.2) (.string ((rd_T81 l0 x8_1).f6))) (fun _ hk => hk.2) (.slice A101_7 ((rd_T81 l0 x8_1).f7).length c101_7)) (fun _ hk => hk.2) (.slice A101_8 ((rd_T81 l0 x8_1).f8).length c101_8)) (fun _ hk => hk.2) (.slice A101_9 ((rd_T81 l0 x8_1).f9).length c101_9)) (fun _ hk => hk.2) (.slice A101_10 ((rd_T81 l0 x8_1).f10).length c101_10)) (fun _ hk => hk.1.2)⟩
           have n1_ : Aside0 ((((((((((((w10.setCell ⟨gb102, 0, none⟩ (.int .i64 ((rd_T81 l0 x8_1).f0))).setCell ⟨gb102, 1, none⟩ (.string ((rd_T81 l0 x8_1).f1))).setCell ⟨gb102, 2, none⟩ (.string ((rd_T81 l0 x8_1).f2))).setCell ⟨gb102, 3, none⟩ (.bool ((rd_T81 l0 x8_1).f3))).setCell ⟨gb102, 4, none⟩ (.bool ((rd_T81 l0 x8_1).f4))).setCell ⟨gb102, 5, none⟩ (.bool ((rd_T81 l0 x8_1).f5))).setCell ⟨gb102, 6, none⟩ (.string ((rd_T81 l0 x8_1).f6))).setCell ⟨gb102, 7, none⟩ (.slice A101_7 ((rd_T81 l0 x8_1).f7).length c101_7)).setCell ⟨gb102, 8, none⟩ (.slice A101_8 ((rd_T81 l0 x8_1).f8).length c101_8)).setCell ⟨gb102, 9, none⟩ (.slice A101_9 ((rd_T81 l0 x8_1).f9).length c101_9)).setCell ⟨gb102, 10, none⟩ (.slice A101_10 ((rd_T81 l0 x8_1).f10).length c101_10)).heap[gb102]? = some (.cells #[.int .i64 ((rd_T81 l0 x8_1).f0), .string ((rd_T81 l0 x8_1).f1), .string ((rd_T81 l0 x8_1).f2), .bool ((rd_T81 l0 x8_1).f3), .bool ((rd_T81 l0 x8_1).f4), .bool ((rd_T81 l0 x8_1).f5), .string ((rd_T81 l0 x8_1).f6), .slice A101_7 ((rd_T81 l0 x8_1).f7).length c101_7, .slice A101_8 ((rd_T81 l0 x8_1).f8).length c101_8, .slice A101_9 ((rd_T81 l0 x8_1).f9).length c101_9, .slice A101_10 ((rd_T81 l0 x8_1).f10).length c101_10] 81 (0, 0))) := ⟨by (with_reducible repeat (first | refine blk_drewN ?_ _ | refine blk_drew ?_ | refine blk_alloc ?_ _)); apply put11; (with_reducible repeat (first | refine blk_drewN ?_ _ | refine blk_drew ?_ | refine blk_alloc ?_ _)); exact BK102.out⟩
           have n2_ : Aside0 (Below w.heap.size w (((((((((((w10.setCell ⟨gb102, 0, none⟩ (.int .i64 ((rd_T81 l0 x8_1).f0))).setCell ⟨gb102, 1, none⟩ (.string ((rd_T81 l0 x8_1).f1))).setCell ⟨gb102, 2, none⟩ (.string ((rd_T81 l0 x8_1).f2))).setCell ⟨gb102, 3, none⟩ (.bool ((rd_T81 l0 x8_1).f3))).setCell ⟨gb102, 4, none⟩ (.bool ((rd_T81 l0 x8_1).f4))).setCell ⟨gb102, 5, none⟩ (.bool ((rd_T81 l0 x8_1).f5))).setCell ⟨gb102, 6, none⟩ (.string ((rd_T81 l0 x8_1).f6))).setCell ⟨gb102, 7, none⟩ (.slice A101_7 ((rd_T81 l0 x8_1).f7).length c101_7)).setCell ⟨gb102, 8, none⟩ (.slice A101_8 ((rd_T81 l0 x8_1).f8).length c101_8)).setCell ⟨gb102, 9, none⟩ (.slice A101_9 ((rd_T81 l0 x8_1).f9).length c101_9)).setCell ⟨gb102, 10, none⟩ (.slice A101_10 ((rd_T81 l0 x8_1).f10).length c101_10))) := ⟨by repeat (first | (with_reducible first | exact HB.out | apply below_alloc | apply pw_below_drewN | apply below_drew1 | refine below_set ?_ GE102.out) | exact HB.out)⟩
           (try clear HO_3)
           (try clear BK102)
           (try clear HB)
           generalize (((((((((((w10.setCell ⟨gb102, 0, none⟩ (.int .i64 ((rd_T81 l0 x8_1).f0))).setCell ⟨gb102, 1, none⟩ (.string ((rd_T81 l0 x8_1).f1))).setCell ⟨gb102, 2, none⟩ (.string ((rd_T81 l0 x8_1).f2))).setCell ⟨gb102, 3, none⟩ (.bool ((rd_T81 l0 x8_1).f3))).setCell ⟨gb102, 4, none⟩ (.bool ((rd_T81 l0 x8_1).f4))).setCell ⟨gb102, 5, none⟩ (.bool ((rd_T81 l0 x8_1).f5))).setCell ⟨gb102, 6, none⟩ (.string ((rd_T81 l0 x8_1).f6))).setCell ⟨gb102, 7, none⟩ (.slice A101_7 ((rd_T81 l0 x8_1).f7).length c101_7)).setCell ⟨gb102, 8, none⟩ (.slice A101_8 ((rd_T81 l0 x8_1).f8).length c101_8)).setCell ⟨gb102, 9, none⟩ (.slice A101_9 ((rd_T81 l0 x8_1).f9).length c101_9)).setCell ⟨gb102, 10, none⟩ (.slice A101_10 ((rd_T81 l0 x8_1).f10).length c101_10)) = w12 at n0_ n1_ n2_ ⊢
           have HO_3 := n0_
           have BK102 := n1_
           have HB := n2_
           clear n0_ n1_ n2_
           have n0_ := Aside0.mk (Kd.R_drew HO_3.out)
           have n1_ := Aside0.mk (blk_drew BK102.out)
           have n2_ := Aside0.mk (below_drew1 HB.out)
           clear HO_3 BK102 HB
           have HO_3 := n0_
           have BK102 := n1_
           have HB := n2_
           clear n0_ n1_ n2_
           refine start_ (n := 10) (S := fun w' => w'.cell? ⟨gb102, 0, none⟩ = some (.int .i64 ((rd_T81 l0 x8_1).f0)) ∧ w'.cell? ⟨gb102, 1, none⟩ = some (.string ((rd_T81 l0 x8_1).f1)) ∧ w'.cell? ⟨gb102, 2, none⟩ = some (.string ((rd_T81 l0 x8_1).f2)) ∧ w'.cell? ⟨gb102, 3, none⟩ = some (.bool ((rd_T81 l0 x8_1).f3)) ∧ w'.cell? ⟨gb102, 4, none⟩ = some (.bool ((rd_T81 l0 x8_1).f4)) ∧ w'.cell? ⟨gb102, 5, none⟩ = some (.bool ((rd_T81 l0 x8_1).f5)) ∧ w'.cell? ⟨gb102, 6, none⟩ = some (.string ((rd_T81 l0 x8_1).f6)) ∧ w'.cell? ⟨gb102, 7, none⟩ = some (.slice A101_7 ((rd_T81 l0 x8_1).f7).length c101_7) ∧ w'.cell? ⟨gb102, 8, none⟩ = some (.slice A101_8 ((rd_T81 l0 x8_1).f8).length c101_8) ∧ w'.cell? ⟨gb102, 9, none⟩ = some (.slice A101_9 ((rd_T81 l0 x8_1).f9).length c101_9) ∧ w'.cell? ⟨gb102, 10, none⟩ = some (.slice A101_10 ((rd_T81 l0 x8_1).f10).length c101_10)) (ds := [7, 9]) #[false, false, false, false, false, false, false, false, false, false] (by kernel_rfl) rfl rfl (held11 BK102.out) (fun hHeld => ?_); refine with_tabW relaylaw06_copied.tab5 relaylaw06_copied.bits5 (fun HT_ HW_ => ?_)
           generalize w12.drew = w13 at HO_3 BK102 HB hHeld ⊢
           refine pure_ (i := 0) (N := some 12) (v := ?_) (a' := ?_) #[true, false, false, false, false, false, false, false, false, false] rfl rfl (any_of HT_.out (by kernel_rfl)) (fun _ _ _ h => h) (Or.inl ⟨by rfl, ?_⟩) ?_ ?_
           rotate_left
           · intro w'
             go_simp
             with_reducible rfl
           rotate_left
           · simp only [Act.put, List.setIfInBounds_toArray, List.set_cons_zero, List.set_cons_succ, i64_w, i32_w]
             rfl
           refine pure_ (i := 3) (N := some 15) (v := ?_) (a' := ?_) #[true, false, false, true, false, false, false, false, false, false] rfl rfl (any_of HT_.out (by kernel_rfl)) (fun _ _ _ h => h) (Or.inl ⟨by rfl, ?_⟩) ?_ ?_
           rotate_left
           · intro w'
             go_simp
             with_reducible rfl
           rotate_left
           · simp only [Act.put, List.setIfInBounds_toArray, List.set_cons_zero, List.set_cons_succ, i64_w, i32_w]
             rfl
           refine take_ (i := 1) (N := some 13) (v := ?_) (a' := ?_) #[true, true, false, true, false, false, false, false, false, false] rfl rfl (take_ofW HT_.out HW_.out (by kernel_rfl)) (fun _ _ _ h => h) (Or.inl ⟨by rfl, ?_⟩) hHeld ?_ ?_
           rotate_left
           · rintro w' ⟨s0, s1, s2, s3, s4, s5, s6, s7, s8, s9, s10⟩
             go_simp
             with_reducible rfl
           rotate_left
           · simp only [Act.put, List.setIfInBounds_toArray, List.set_cons_zero, List.set_cons_succ, i64_w, i32_w]
             rfl
           refine take_ (i := 4) (N := some 16) (v := ?_) (a' := ?_) #[true, true, false, true, true, false, false, false, false, false] rfl rfl (take_ofW HT_.out HW_.out (by kernel_rfl)) (fun _ _ _ h => h) (Or.inl ⟨by rfl, ?_⟩) hHeld ?_ ?_
           rotate_left
           · rintro w' ⟨s0, s1, s2, s3, s4, s5, s6, s7, s8, s9, s10⟩
             go_simp
             with_reducible rfl
           rotate_left
           · simp only [Act.put, List.setIfInBounds_toArray, List.set_cons_zero, List.set_cons_succ, i64_w, i32_w]
             rfl
           refine one_ (i := 2) (N := some 14) #[true, true, true, true, true, false, false, false, false, false] rfl rfl (one_of HT_.out (by kernel_rfl)) (by decide) (fun K hK => ?_)
           refine goes_ Try.func25 (by kernel_rfl) rfl #[.slice A101_7 ((rd_T81 l0 x8_1).f7).length c101_7] (by rfl) rfl rfl (by (try simp only [List.map_toArray, List.map_cons, List.map_nil]); first | done | rfl | (simp only [List.length_drop, List.length_take]; rfl)) ?_
           with_reducible refine (relayplain_Exprs.calls k1 _ _ ((rd_T81 l0 x8_1).f7) t103 _ ?side1 ?side2 A5.out).mono ?_
           (case side1 => repeat (first | exact (Kd.C_below HR101_7.out HB.out) | (with_reducible refine Kd.C_alloc ?_ _) | (with_reducible refine Kd.C_drewN ?_ _) | (with_reducible refine Kd.C_drew ?_)))
           (case side2 => exact HC101_7.out)
           rintro e w14 ⟨v104, rfl, ho0, hb⟩
           refine ⟨_, rfl, ?_⟩
           have n0_ := Aside0.mk (Kd.R_elder' (by (with_reducible repeat (first | apply Kd.R_alloc | apply Kd.R_drewN | apply Kd.R_drew)); exact HO_3.out) (Kd.R_base ho0) hb)
           have n1_ := Aside0.mk (Kd.R_lower ho0 (below_size (by repeat (first | (with_reducible first | exact HB.out | apply below_alloc | apply pw_below_drewN | apply below_drew1 | refine below_set ?_ GE102.out) | exact HB.out))))
           have n2_ := Aside0.mk (blk_below (g := gb102) (by (with_reducible repeat (first | refine blk_drewN ?_ _ | refine blk_drew ?_ | refine blk_alloc ?_ _)); exact BK102.out) hb)
           have n3_ := Aside0.mk (below_step (by repeat (first | (with_reducible first | exact HB.out | apply below_alloc | apply pw_below_drewN | apply below_drew1 | refine below_set ?_ GE102.out) | exact HB.out)) hb)
           clear HO_3 BK102 HB
           have HO_3 := n0_
           have HO105 := n1_
           have BK102 := n2_
           have HB := n3_
           clear n0_ n1_ n2_ n3_
           (try clear hb)
           (try clear hb2)
           (try clear hk)
           (try clear hi)
           (try clear ho0)
           refine hK.out _ _ (held11 BK102.out) (fun hHeld => ?_)
           clear hK K
           refine norm_ (a' := ?_) ?_ ?_
           rotate_left
           · show Act.put _ (some 14) _ = _
             simp only [Act.put, List.setIfInBounds_toArray, List.set_cons_zero, List.set_cons_succ, i64_w, i32_w]
             rfl
           refine pure_ (i := 6) (N := some 18) (v := ?_) (a' := ?_) #[true, true, true, true, true, false, true, false, false, false] rfl rfl (any_of HT_.out (by kernel_rfl)) (fun _ _ _ h => h) (Or.inl ⟨by rfl, ?_⟩) ?_ ?_
           rotate_left
           · intro w'
             go_simp
             with_reducible rfl
           rotate_left
           · simp only [Act.put, List.setIfInBounds_toArray, List.set_cons_zero, List.set_cons_succ, i64_w, i32_w]
             rfl
           refine one_ (i := 5) (N := some 17) #[true, true, true, true, true, true, true, false, false, false] rfl rfl (one_of HT_.out (by kernel_rfl)) (by decide) (fun K hK => ?_)
           refine goes_ Try.func25 (by kernel_rfl) rfl #[.slice A101_9 ((rd_T81 l0 x8_1).f9).length c101_9] (by rfl) rfl rfl (by (try simp only [List.map_toArray, List.map_cons, List.map_nil]); first | done | rfl | (simp only [List.length_drop, List.length_take]; rfl)) ?_
           with_reducible refine (relayplain_Exprs.calls k1 _ _ ((rd_T81 l0 x8_1).f9) t106 _ ?side1 ?side2 A6.out).mono ?_
           (case side1 => repeat (first | exact (Kd.C_below HR101_9.out HB.out) | (with_reducible refine Kd.C_alloc ?_ _) | (with_reducible refine Kd.C_drewN ?_ _) | (with_reducible refine Kd.C_drew ?_)))
           (case side2 => exact HC101_9.out)
           rintro e w15 ⟨v107, rfl, ho0, hb⟩
           refine ⟨_, rfl, ?_⟩
           have n0_ := Aside0.mk (Kd.R_elder' (by (with_reducible repeat (first | apply Kd.R_alloc | apply Kd.R_drewN | apply Kd.R_drew)); exact HO_3.out) (Kd.R_base ho0) hb)
           have n1_ := Aside0.mk (Kd.R_elder' (by (with_reducible repeat (first | apply Kd.R_alloc | apply Kd.R_drewN | apply Kd.R_drew)); exact HO105.out) (Kd.R_base ho0) hb)
           have n2_ := Aside0.mk (Kd.R_lower (Kd.R_new' ho0 (Kd.R_lt (by (with_reducible repeat (first | apply Kd.R_alloc | apply Kd.R_drewN | apply Kd.R_drew)); exact HO105.out))) (below_size (by repeat (first | (with_reducible first | exact HB.out | apply below_alloc | apply pw_below_drewN | apply below_drew1 | refine below_set ?_ GE102.out) | exact HB.out))))
           have n3_ := Aside0.mk (blk_below (g := gb102) (by (with_reducible repeat (first | refine blk_drewN ?_ _ | refine blk_drew ?_ | refine blk_alloc ?_ _)); exact BK102.out) hb)
           have n4_ := Aside0.mk (below_step (by repeat (first | (with_reducible first | exact HB.out | apply below_alloc | apply pw_below_drewN | apply below_drew1 | refine below_set ?_ GE102.out) | exact HB.out)) hb)
           clear HO_3 HO105 BK102 HB
           have HO_3 := n0_
           have HO105 := n1_
           have HO108 := n2_
           have BK102 := n3_
           have HB := n4_
           clear n0_ n1_ n2_ n3_ n4_
           (try clear hb)
           (try clear hb2)
           (try clear hk)
           (try clear hi)
           (try clear ho0)
           obtain ⟨Ao16, co16, eo16⟩ := Kd.R_slice HO105.out
           (first | subst eo16 | (injection eo16 with f1_ f2_ f3_; have f4_ := f1_.symm; have f5_ := f3_.symm; clear f1_ f2_ f3_; subst f4_; subst f5_))
           obtain ⟨Ao18, co18, eo18⟩ := Kd.R_slice HO108.out
           (first | subst eo18 | (injection eo18 with f1_ f2_ f3_; have f4_ := f1_.symm; have f5_ := f3_.symm; clear f1_ f2_ f3_; subst f4_; subst f5_))
           refine hK.out _ _ (held11 BK102.out) (fun hHeld => ?_)
           clear hK K
           refine norm_ (a' := ?_) ?_ ?_
           rotate_left
           · show Act.put _ (some 17) _ = _
             simp only [Act.put, List.setIfInBounds_toArray, List.set_cons_zero, List.set_cons_succ, i64_w, i32_w]
             rfl
           refine last_ (i := 7) (N := none) #[true, true, true, true, true, true, true, true, false, false] rfl rfl (one_of HT_.out (by kernel_rfl)) (by decide) (fun K hK => ?_)
           have hs17 : w15.cell? ⟨gb102, 7, none⟩ = some (.slice A101_7 ((rd_T81 l0 x8_1).f7).length c101_7) := (blk_cell BK102.out 7).trans rfl
           have hfs17 := blk_frozen BK102.out 7
           refine skip_ (w1 := ?_) (by rfl) rfl ?_ ?_
           rotate_left
           · go_simp
             rfl
           refine hK.out _ _ ?_
           clear hK K
           refine pure_ (i := 8) (N := some 19) (v := ?_) (a' := ?_) #[true, true, true, true, true, true, true, true, true, false] rfl rfl (any_of HT_.out (by kernel_rfl)) (fun _ _ _ h => h) (Or.inl ⟨by rfl, ?_⟩) ?_ ?_
           rotate_left
           · intro w'
             go_simp
             with_reducible rfl
           rotate_left
           · simp only [Act.put, List.setIfInBounds_toArray, List.set_cons_zero, List.set_cons_succ, i64_w, i32_w]
             rfl
           refine last_ (i := 9) (N := none) #[true, true, true, true, true, true, true, true, true, true] rfl rfl (one_of HT_.out (by kernel_rfl)) (by decide) (fun K hK => ?_)
           have hs19 : w15.cell? ⟨gb102, 9, none⟩ = some (.slice A101_9 ((rd_T81 l0 x8_1).f9).length c101_9) := (blk_cell BK102.out 9).trans rfl
           have hfs19 := blk_frozen BK102.out 9
           refine skip_ (w1 := ?_) (by rfl) rfl ?_ ?_
           rotate_left
           · go_simp
             rfl
           refine hK.out _ _ ?_
           clear hK K
           refine done_ (done_of HT_.out (by kernel_rfl)) ?_
           try go_wp2
           have n0_ : Aside0 (Kd.R k81 81 ((w15.setCell ⟨gb102, 7, none⟩ (.slice Ao16 t103.length co16)).setCell ⟨gb102, 9, none⟩ (.slice Ao18 t106.length co18)) w.heap.size (fun k_ => some k_ ≠ (.slice Ao16 t103.length co16 : Value).ownBlock ∧ some k_ ≠ (.slice Ao18 t106.length co18 : Value).ownBlock ∧ k_ ≠ gb102) u3 x3_1) := ⟨by (with_reducible repeat (first | apply Kd.R_alloc | apply Kd.R_drewN | apply Kd.R_drew)); exact Kd.R_mono (Kd.R_far (p := ⟨gb102, 9, none⟩) (Kd.R_far (p := ⟨gb102, 7, none⟩) (Kd.R_mono HO_3.out (fun k_ hk => (⟨hk, hk.1.1⟩ : _ ∧ k_ ≠ gb102))) (fun _ hk => hk.2) (.slice Ao16 t103.length co16)) (fun _ hk => hk.2) (.slice Ao18 t106.length co18)) (fun _ hk => ⟨hk.1.1.2, ⟨hk.1.2, hk.1.1.1⟩⟩)⟩
           have n1_ : Aside0 (Kd.R k65 65 ((w15.setCell ⟨gb102, 7, none⟩ (.slice Ao16 t103.length co16)).setCell ⟨gb102, 9, none⟩ (.slice Ao18 t106.length co18)) w.heap.size (fun k_ => some k_ ≠ (.slice Ao18 t106.length co18 : Value).ownBlock) (.slice Ao16 t103.length co16) t103) := ⟨by (with_reducible repeat (first | apply Kd.R_alloc | apply Kd.R_drewN | apply Kd.R_drew)); exact Kd.R_mono (Kd.R_far (p := ⟨gb102, 9, none⟩) (Kd.R_far (p := ⟨gb102, 7, none⟩) (Kd.R_types HO105.out BK102.out (by decide)) (fun _ hk => hk.2) (.slice Ao16 t103.length co16)) (fun _ hk => hk.2) (.slice Ao18 t106.length co18)) (fun _ hk => hk.1.2)⟩
           have n2_ : Aside0 (Kd.R k65 65 ((w15.setCell ⟨gb102, 7, none⟩ (.slice Ao16 t103.length co16)).setCell ⟨gb102, 9, none⟩ (.slice Ao18 t106.length co18)) w.heap.size (fun k_ => some k_ ≠ (.slice Ao16 t103.length co16 : Value).ownBlock) (.slice Ao18 t106.length co18) t106) := ⟨by (with_reducible repeat (first | apply Kd.R_alloc | apply Kd.R_drewN | apply Kd.R_drew)); exact Kd.R_mono (Kd.R_far (p := ⟨gb102, 9, none⟩) (Kd.R_far (p := ⟨gb102, 7, none⟩) (Kd.R_types HO108.out BK102.out (by decide)) (fun _ hk => hk.2) (.slice Ao16 t103.length co16)) (fun _ hk => hk.2) (.slice Ao18 t106.length co18)) (fun _ hk => hk.1.2)⟩
           have n3_ : Aside0 (((w15.setCell ⟨gb102, 7, none⟩ (.slice Ao16 t103.length co16)).setCell ⟨gb102, 9, none⟩ (.slice Ao18 t106.length co18)).heap[gb102]? = some (.cells #[.int .i64 ((rd_T81 l0 x8_1).f0), .string ((rd_T81 l0 x8_1).f1), .string ((rd_T81 l0 x8_1).f2), .bool ((rd_T81 l0 x8_1).f3), .bool ((rd_T81 l0 x8_1).f4), .bool ((rd_T81 l0 x8_1).f5), .string ((rd_T81 l0 x8_1).f6), .slice Ao16 t103.length co16, .slice A101_8 ((rd_T81 l0 x8_1).f8).length c101_8, .slice Ao18 t106.length co18, .slice A101_10 ((rd_T81 l0 x8_1).f10).length c101_10] 81 (0, 0))) := ⟨by (with_reducible repeat (first | refine blk_drewN ?_ _ | refine blk_drew ?_ | refine blk_alloc ?_ _)); refine blk_put (cs := #[.int .i64 ((rd_T81 l0 x8_1).f0), .string ((rd_T81 l0 x8_1).f1), .string ((rd_T81 l0 x8_1).f2), .bool ((rd_T81 l0 x8_1).f3), .bool ((rd_T81 l0 x8_1).f4), .bool ((rd_T81 l0 x8_1).f5), .string ((rd_T81 l0 x8_1).f6), .slice Ao16 t103.length co16, .slice A101_8 ((rd_T81 l0 x8_1).f8).length c101_8, .slice A101_9 ((rd_T81 l0 x8_1).f9).length c101_9, .slice A101_10 ((rd_T81 l0 x8_1).f10).length c101_10]) ?_ 9 _ rfl; (with_reducible repeat (first | refine blk_drewN ?_ _ | refine blk_drew ?_ | refine blk_alloc ?_ _)); refine blk_put (cs := #[.int .i64 ((rd_T81 l0 x8_1).f0), .string ((rd_T81 l0 x8_1).f1), .string ((rd_T81 l0 x8_1).f2), .bool ((rd_T81 l0 x8_1).f3), .bool ((rd_T81 l0 x8_1).f4), .bool ((rd_T81 l0 x8_1).f5), .string ((rd_T81 l0 x8_1).f6), .slice A101_7 ((rd_T81 l0 x8_1).f7).length c101_7, .slice A101_8 ((rd_T81 l0 x8_1).f8).length c101_8, .slice A101_9 ((rd_T81 l0 x8_1).f9).length c101_9, .slice A101_10 ((rd_T81 l0 x8_1).f10).length c101_10]) ?_ 7 _ rfl; (with_reducible repeat (first | refine blk_drewN ?_ _ | refine blk_drew ?_ | refine blk_alloc ?_ _)); exact BK102.out⟩
           have n4_ : Aside0 (Below w.heap.size w ((w15.setCell ⟨gb102, 7, none⟩ (.slice Ao16 t103.length co16)).setCell ⟨gb102, 9, none⟩ (.slice Ao18 t106.length co18))) := ⟨by repeat (first | (with_reducible first | exact HB.out | apply below_alloc | apply pw_below_drewN | apply below_drew1 | refine below_set ?_ GE102.out) | exact HB.out)⟩
           (try clear HO_3)
           (try clear HO105)
           (try clear HO108)
           (try clear BK102)
           (try clear HB)
           generalize ((w15.setCell ⟨gb102, 7, none⟩ (.slice Ao16 t103.length co16)).setCell ⟨gb102, 9, none⟩ (.slice Ao18 t106.length co18)) = w20 at n0_ n1_ n2_ n3_ n4_ ⊢
           have HO_3 := n0_
           have HO105 := n1_
           have HO108 := n2_
           have BK102 := n3_
           have HB := n4_
           clear n0_ n1_ n2_ n3_ n4_
           have n0_ := Aside0.mk (Kd.R_drew HO_3.out)
           have n1_ := Aside0.mk (Kd.R_drew HO105.out)
           have n2_ := Aside0.mk (Kd.R_drew HO108.out)
           have n3_ := Aside0.mk (blk_drew BK102.out)
           have n4_ := Aside0.mk (below_drew1 HB.out)
           clear HO_3 HO105 HO108 BK102 HB
           have HO_3 := n0_
           have HO105 := n1_
           have HO108 := n2_
           have BK102 := n3_
           have HB := n4_
           clear n0_ n1_ n2_ n3_ n4_
           refine start_ (n := 10) (S := fun w' => w'.cell? ⟨gb102, 0, none⟩ = some (.int .i64 ((rd_T81 l0 x8_1).f0)) ∧ w'.cell? ⟨gb102, 1, none⟩ = some (.string ((rd_T81 l0 x8_1).f1)) ∧ w'.cell? ⟨gb102, 2, none⟩ = some (.string ((rd_T81 l0 x8_1).f2)) ∧ w'.cell? ⟨gb102, 3, none⟩ = some (.bool ((rd_T81 l0 x8_1).f3)) ∧ w'.cell? ⟨gb102, 4, none⟩ = some (.bool ((rd_T81 l0 x8_1).f4)) ∧ w'.cell? ⟨gb102, 5, none⟩ = some (.bool ((rd_T81 l0 x8_1).f5)) ∧ w'.cell? ⟨gb102, 6, none⟩ = some (.string ((rd_T81 l0 x8_1).f6)) ∧ w'.cell? ⟨gb102, 7, none⟩ = some (.slice Ao16 t103.length co16) ∧ w'.cell? ⟨gb102, 8, none⟩ = some (.slice A101_8 ((rd_T81 l0 x8_1).f8).length c101_8) ∧ w'.cell? ⟨gb102, 9, none⟩ = some (.slice Ao18 t106.length co18) ∧ w'.cell? ⟨gb102, 10, none⟩ = some (.slice A101_10 ((rd_T81 l0 x8_1).f10).length c101_10)) (ds := [7, 9]) #[false, false, false, false, false, false, false, false, false, false] (by kernel_rfl) rfl rfl (held11 BK102.out) (fun hHeld => ?_); refine with_tabW relaylaw06_copied.tab6 relaylaw06_copied.bits6 (fun HT_ HW_ => ?_)
           generalize w20.drew = w21 at HO_3 HO105 HO108 BK102 HB hHeld ⊢
           refine pure_ (i := 0) (N := some 20) (v := ?_) (a' := ?_) #[true, false, false, false, false, false, false, false, false, false] rfl rfl (any_of HT_.out (by kernel_rfl)) (fun _ _ _ h => h) (Or.inl ⟨by rfl, ?_⟩) ?_ ?_
           rotate_left
           · intro w'
             go_simp
             with_reducible rfl
           rotate_left
           · simp only [Act.put, List.setIfInBounds_toArray, List.set_cons_zero, List.set_cons_succ, i64_w, i32_w]
             rfl
           refine pure_ (i := 3) (N := some 23) (v := ?_) (a' := ?_) #[true, false, false, true, false, false, false, false, false, false] rfl rfl (any_of HT_.out (by kernel_rfl)) (fun _ _ _ h => h) (Or.inl ⟨by rfl, ?_⟩) ?_ ?_
           rotate_left
           · intro w'
             go_simp
             with_reducible rfl
           rotate_left
           · simp only [Act.put, List.setIfInBounds_toArray, List.set_cons_zero, List.set_cons_succ, i64_w, i32_w]
             rfl
           refine take_ (i := 1) (N := some 21) (v := ?_) (a' := ?_) #[true, true, false, true, false, false, false, false, false, false] rfl rfl (take_ofW HT_.out HW_.out (by kernel_rfl)) (fun _ _ _ h => h) (Or.inl ⟨by rfl, ?_⟩) hHeld ?_ ?_
           rotate_left
           · rintro w' ⟨s0, s1, s2, s3, s4, s5, s6, s7, s8, s9, s10⟩
             go_simp
             with_reducible rfl
           rotate_left
           · simp only [Act.put, List.setIfInBounds_toArray, List.set_cons_zero, List.set_cons_succ, i64_w, i32_w]
             rfl
           refine take_ (i := 4) (N := some 24) (v := ?_) (a' := ?_) #[true, true, false, true, true, false, false, false, false, false] rfl rfl (take_ofW HT_.out HW_.out (by kernel_rfl)) (fun _ _ _ h => h) (Or.inl ⟨by rfl, ?_⟩) hHeld ?_ ?_
           rotate_left
           · rintro w' ⟨s0, s1, s2, s3, s4, s5, s6, s7, s8, s9, s10⟩
             go_simp
             with_reducible rfl
           rotate_left
           · simp only [Act.put, List.setIfInBounds_toArray, List.set_cons_zero, List.set_cons_succ, i64_w, i32_w]
             rfl
           refine one_ (i := 2) (N := some 22) #[true, true, true, true, true, false, false, false, false, false] rfl rfl (one_of HT_.out (by kernel_rfl)) (by decide) (fun K hK => ?_)
           refine goes_ Try.func26 (by kernel_rfl) rfl #[.slice A101_8 ((rd_T81 l0 x8_1).f8).length c101_8] (by rfl) rfl rfl (by (try simp only [List.map_toArray, List.map_cons, List.map_nil]); first | done | rfl | (simp only [List.length_drop, List.length_take]; rfl)) ?_
           with_reducible refine (slices_Clone_string_string.calls _ _ ((rd_T81 l0 x8_1).f8) t109 _ ?side1 ?side2 A7.out).mono ?_
           (case side1 => repeat (first | exact (Kd.C_below HR101_8.out HB.out) | (with_reducible refine Kd.C_alloc ?_ _) | (with_reducible refine Kd.C_drewN ?_ _) | (with_reducible refine Kd.C_drew ?_)))
           (case side2 => exact HC101_8.out)
           rintro e w22 ⟨v110, rfl, ho0, hb⟩
           refine ⟨_, rfl, ?_⟩
           have n0_ := Aside0.mk (Kd.R_elder' (by (with_reducible repeat (first | apply Kd.R_alloc | apply Kd.R_drewN | apply Kd.R_drew)); exact HO_3.out) (Kd.R_base ho0) hb)
           have n1_ := Aside0.mk (Kd.R_elder' (by (with_reducible repeat (first | apply Kd.R_alloc | apply Kd.R_drewN | apply Kd.R_drew)); exact HO105.out) (Kd.R_base ho0) hb)
           have n2_ := Aside0.mk (Kd.R_elder' (by (with_reducible repeat (first | apply Kd.R_alloc | apply Kd.R_drewN | apply Kd.R_drew)); exact HO108.out) (Kd.R_base ho0) hb)
           have n3_ := Aside0.mk (Kd.R_lower ho0 (below_size (by repeat (first | (with_reducible first | exact HB.out | apply below_alloc | apply pw_below_drewN | apply below_drew1 | refine below_set ?_ GE102.out) | exact HB.out))))
           have n4_ := Aside0.mk (blk_below (g := gb102) (by (with_reducible repeat (first | refine blk_drewN ?_ _ | refine blk_drew ?_ | refine blk_alloc ?_ _)); exact BK102.out) hb)
           have n5_ := Aside0.mk (below_step (by repeat (first | (with_reducible first | exact HB.out | apply below_alloc | apply pw_below_drewN | apply below_drew1 | refine below_set ?_ GE102.out) | exact HB.out)) hb)
           clear HO_3 HO105 HO108 BK102 HB
           have HO_3 := n0_
           have HO105 := n1_
           have HO108 := n2_
           have HO111 := n3_
           have BK102 := n4_
           have HB := n5_
           clear n0_ n1_ n2_ n3_ n4_ n5_
           (try clear hb)
           (try clear hb2)
           (try clear hk)
           (try clear hi)
           (try clear ho0)
           refine hK.out _ _ (held11 BK102.out) (fun hHeld => ?_)
           clear hK K
           refine norm_ (a' := ?_) ?_ ?_
           rotate_left
           · show Act.put _ (some 22) _ = _
             simp only [Act.put, List.setIfInBounds_toArray, List.set_cons_zero, List.set_cons_succ, i64_w, i32_w]
             rfl
           refine pure_ (i := 6) (N := some 26) (v := ?_) (a' := ?_) #[true, true, true, true, true, false, true, false, false, false] rfl rfl (any_of HT_.out (by kernel_rfl)) (fun _ _ _ h => h) (Or.inl ⟨by rfl, ?_⟩) ?_ ?_
           rotate_left
           · intro w'
             go_simp
             with_reducible rfl
           rotate_left
           · simp only [Act.put, List.setIfInBounds_toArray, List.set_cons_zero, List.set_cons_succ, i64_w, i32_w]
             rfl
           refine one_ (i := 5) (N := some 25) #[true, true, true, true, true, true, true, false, false, false] rfl rfl (one_of HT_.out (by kernel_rfl)) (by decide) (fun K hK => ?_)
           refine goes_ Try.func26 (by kernel_rfl) rfl #[.slice A101_10 ((rd_T81 l0 x8_1).f10).length c101_10] (by rfl) rfl rfl (by (try simp only [List.map_toArray, List.map_cons, List.map_nil]); first | done | rfl | (simp only [List.length_drop, List.length_take]; rfl)) ?_
           with_reducible refine (slices_Clone_string_string.calls _ _ ((rd_T81 l0 x8_1).f10) t112 _ ?side1 ?side2 A8.out).mono ?_
           (case side1 => repeat (first | exact (Kd.C_below HR101_10.out HB.out) | (with_reducible refine Kd.C_alloc ?_ _) | (with_reducible refine Kd.C_drewN ?_ _) | (with_reducible refine Kd.C_drew ?_)))
           (case side2 => exact HC101_10.out)
           rintro e w23 ⟨v113, rfl, ho0, hb⟩
           refine ⟨_, rfl, ?_⟩
           have n0_ := Aside0.mk (Kd.R_elder' (by (with_reducible repeat (first | apply Kd.R_alloc | apply Kd.R_drewN | apply Kd.R_drew)); exact HO_3.out) (Kd.R_base ho0) hb)
           have n1_ := Aside0.mk (Kd.R_elder' (by (with_reducible repeat (first | apply Kd.R_alloc | apply Kd.R_drewN | apply Kd.R_drew)); exact HO105.out) (Kd.R_base ho0) hb)
           have n2_ := Aside0.mk (Kd.R_elder' (by (with_reducible repeat (first | apply Kd.R_alloc | apply Kd.R_drewN | apply Kd.R_drew)); exact HO108.out) (Kd.R_base ho0) hb)
           have n3_ := Aside0.mk (Kd.R_elder' (by (with_reducible repeat (first | apply Kd.R_alloc | apply Kd.R_drewN | apply Kd.R_drew)); exact HO111.out) (Kd.R_base ho0) hb)
           have n4_ := Aside0.mk (Kd.R_lower (Kd.R_new' ho0 (Kd.R_lt (by (with_reducible repeat (first | apply Kd.R_alloc | apply Kd.R_drewN | apply Kd.R_drew)); exact HO111.out))) (below_size (by repeat (first | (with_reducible first | exact HB.out | apply below_alloc | apply pw_below_drewN | apply below_drew1 | refine below_set ?_ GE102.out) | exact HB.out))))
           have n5_ := Aside0.mk (blk_below (g := gb102) (by (with_reducible repeat (first | refine blk_drewN ?_ _ | refine blk_drew ?_ | refine blk_alloc ?_ _)); exact BK102.out) hb)
           have n6_ := Aside0.mk (below_step (by repeat (first | (with_reducible first | exact HB.out | apply below_alloc | apply pw_below_drewN | apply below_drew1 | refine below_set ?_ GE102.out) | exact HB.out)) hb)
           clear HO_3 HO105 HO108 HO111 BK102 HB
           have HO_3 := n0_
           have HO105 := n1_
           have HO108 := n2_
           have HO111 := n3_
           have HO114 := n4_
           have BK102 := n5_
           have HB := n6_
           clear n0_ n1_ n2_ n3_ n4_ n5_ n6_
           (try clear hb)
           (try clear hb2)
           (try clear hk)
           (try clear hi)
           (try clear ho0)
           obtain ⟨Ao24, co24, eo24⟩ := Kd.R_slice HO111.out
           (first | subst eo24 | (injection eo24 with f1_ f2_ f3_; have f4_ := f1_.symm; have f5_ := f3_.symm; clear f1_ f2_ f3_; subst f4_; subst f5_))
           obtain ⟨Ao26, co26, eo26⟩ := Kd.R_slice HO114.out
           (first | subst eo26 | (injection eo26 with f1_ f2_ f3_; have f4_ := f1_.symm; have f5_ := f3_.symm; clear f1_ f2_ f3_; subst f4_; subst f5_))
           refine hK.out _ _ (held11 BK102.out) (fun hHeld => ?_)
           clear hK K
           refine norm_ (a' := ?_) ?_ ?_
           rotate_left
           · show Act.put _ (some 25) _ = _
             simp only [Act.put, List.setIfInBounds_toArray, List.set_cons_zero, List.set_cons_succ, i64_w, i32_w]
             rfl
           refine last_ (i := 7) (N := none) #[true, true, true, true, true, true, true, true, false, false] rfl rfl (one_of HT_.out (by kernel_rfl)) (by decide) (fun K hK => ?_)
           have hs25 : w23.cell? ⟨gb102, 8, none⟩ = some (.slice A101_8 ((rd_T81 l0 x8_1).f8).length c101_8) := (blk_cell BK102.out 8).trans rfl
           have hfs25 := blk_frozen BK102.out 8
           refine skip_ (w1 := ?_) (by rfl) rfl ?_ ?_
           rotate_left
           · go_simp
             rfl
           refine hK.out _ _ ?_
           clear hK K
           refine pure_ (i := 8) (N := some 27) (v := ?_) (a' := ?_) #[true, true, true, true, true, true, true, true, true, false] rfl rfl (any_of HT_.out (by kernel_rfl)) (fun _ _ _ h => h) (Or.inl ⟨by rfl, ?_⟩) ?_ ?_
           rotate_left
           · intro w'
             go_simp
             with_reducible rfl
           rotate_left
           · simp only [Act.put, List.setIfInBounds_toArray, List.set_cons_zero, List.set_cons_succ, i64_w, i32_w]
             rfl
           refine last_ (i := 9) (N := none) #[true, true, true, true, true, true, true, true, true, true] rfl rfl (one_of HT_.out (by kernel_rfl)) (by decide) (fun K hK => ?_)
           have hs27 : w23.cell? ⟨gb102, 10, none⟩ = some (.slice A101_10 ((rd_T81 l0 x8_1).f10).length c101_10) := (blk_cell BK102.out 10).trans rfl
           have hfs27 := blk_frozen BK102.out 10
           refine skip_ (w1 := ?_) (by rfl) rfl ?_ ?_
           rotate_left
           · go_simp
             rfl
           refine hK.out _ _ ?_
           clear hK K
           refine done_ (done_of HT_.out (by kernel_rfl)) ?_
           have n0_ : Aside0 (Kd.R k81 81 ((w23.setCell ⟨gb102, 8, none⟩ (.slice Ao24 t109.length co24)).setCell ⟨gb102, 10, none⟩ (.slice Ao26 t112.length co26)) w.heap.size (fun k_ => some k_ ≠ (.slice Ao16 t103.length co16 : Value).ownBlock ∧ some k_ ≠ (.slice Ao18 t106.length co18 : Value).ownBlock ∧ some k_ ≠ (.slice Ao24 t109.length co24 : Value).ownBlock ∧ some k_ ≠ (.slice Ao26 t112.length co26 : Value).ownBlock ∧ k_ ≠ gb102) u3 x3_1) := ⟨by (with_reducible repeat (first | apply Kd.R_alloc | apply Kd.R_drewN | apply Kd.R_drew)); exact Kd.R_mono (Kd.R_far (p := ⟨gb102, 10, none⟩) (Kd.R_far (p := ⟨gb102, 8, none⟩) (Kd.R_mono HO_3.out (fun k_ hk => (⟨hk, hk.1.1.2.2⟩ : _ ∧ k_ ≠ gb102))) (fun _ hk => hk.2) (.slice Ao24 t109.length co24)) (fun _ hk => hk.2) (.slice Ao26 t112.length co26)) (fun _ hk => ⟨hk.1.1.1.1, ⟨hk.1.1.1.2.1, ⟨hk.1.1.2, ⟨hk.1.2, hk.1.1.1.2.2⟩⟩⟩⟩)⟩
           have n1_ : Aside0 (Kd.R k65 65 ((w23.setCell ⟨gb102, 8, none⟩ (.slice Ao24 t109.length co24)).setCell ⟨gb102, 10, none⟩ (.slice Ao26 t112.length co26)) w.heap.size (fun k_ => some k_ ≠ (.slice Ao18 t106.length co18 : Value).ownBlock ∧ some k_ ≠ (.slice Ao24 t109.length co24 : Value).ownBlock ∧ some k_ ≠ (.slice Ao26 t112.length co26 : Value).ownBlock) (.slice Ao16 t103.length co16) t103) := ⟨by (with_reducible repeat (first | apply Kd.R_alloc | apply Kd.R_drewN | apply Kd.R_drew)); exact Kd.R_mono (Kd.R_far (p := ⟨gb102, 10, none⟩) (Kd.R_far (p := ⟨gb102, 8, none⟩) (Kd.R_types HO105.out BK102.out (by decide)) (fun _ hk => hk.2) (.slice Ao24 t109.length co24)) (fun _ hk => hk.2) (.slice Ao26 t112.length co26)) (fun _ hk => ⟨hk.1.1.1, ⟨hk.1.1.2, hk.1.2⟩⟩)⟩
           have n2_ : Aside0 (Kd.R k65 65 ((w23.setCell ⟨gb102, 8, none⟩ (.slice Ao24 t109.length co24)).setCell ⟨gb102, 10, none⟩ (.slice Ao26 t112.length co26)) w.heap.size (fun k_ => some k_ ≠ (.slice Ao16 t103.length co16 : Value).ownBlock ∧ some k_ ≠ (.slice Ao24 t109.length co24 : Value).ownBlock ∧ some k_ ≠ (.slice Ao26 t112.length co26 : Value).ownBlock) (.slice Ao18 t106.length co18) t106) := ⟨by (with_reducible repeat (first | apply Kd.R_alloc | apply Kd.R_drewN | apply Kd.R_drew)); exact Kd.R_mono (Kd.R_far (p := ⟨gb102, 10, none⟩) (Kd.R_far (p := ⟨gb102, 8, none⟩) (Kd.R_types HO108.out BK102.out (by decide)) (fun _ hk => hk.2) (.slice Ao24 t109.length co24)) (fun _ hk => hk.2) (.slice Ao26 t112.length co26)) (fun _ hk => ⟨hk.1.1.1, ⟨hk.1.1.2, hk.1.2⟩⟩)⟩
           have n3_ : Aside0 (Kd.R Kd.string 9 ((w23.setCell ⟨gb102, 8, none⟩ (.slice Ao24 t109.length co24)).setCell ⟨gb102, 10, none⟩ (.slice Ao26 t112.length co26)) w.heap.size (fun k_ => some k_ ≠ (.slice Ao26 t112.length co26 : Value).ownBlock) (.slice Ao24 t109.length co24) t109) := ⟨by (with_reducible repeat (first | apply Kd.R_alloc | apply Kd.R_drewN | apply Kd.R_drew)); exact Kd.R_mono (Kd.R_far (p := ⟨gb102, 10, none⟩) (Kd.R_far (p := ⟨gb102, 8, none⟩) (Kd.R_types HO111.out BK102.out (by decide)) (fun _ hk => hk.2) (.slice Ao24 t109.length co24)) (fun _ hk => hk.2) (.slice Ao26 t112.length co26)) (fun _ hk => hk.1.2)⟩
           have n4_ : Aside0 (Kd.R Kd.string 9 ((w23.setCell ⟨gb102, 8, none⟩ (.slice Ao24 t109.length co24)).setCell ⟨gb102, 10, none⟩ (.slice Ao26 t112.length co26)) w.heap.size (fun k_ => some k_ ≠ (.slice Ao24 t109.length co24 : Value).ownBlock) (.slice Ao26 t112.length co26) t112) := ⟨by (with_reducible repeat (first | apply Kd.R_alloc | apply Kd.R_drewN | apply Kd.R_drew)); exact Kd.R_mono (Kd.R_far (p := ⟨gb102, 10, none⟩) (Kd.R_far (p := ⟨gb102, 8, none⟩) (Kd.R_types HO114.out BK102.out (by decide)) (fun _ hk => hk.2) (.slice Ao24 t109.length co24)) (fun _ hk => hk.2) (.slice Ao26 t112.length co26)) (fun _ hk => hk.1.2)⟩
           have n5_ : Aside0 (((w23.setCell ⟨gb102, 8, none⟩ (.slice Ao24 t109.length co24)).setCell ⟨gb102, 10, none⟩ (.slice Ao26 t112.length co26)).heap[gb102]? = some (.cells #[.int .i64 ((rd_T81 l0 x8_1).f0), .string ((rd_T81 l0 x8_1).f1), .string ((rd_T81 l0 x8_1).f2), .bool ((rd_T81 l0 x8_1).f3), .bool ((rd_T81 l0 x8_1).f4), .bool ((rd_T81 l0 x8_1).f5), .string ((rd_T81 l0 x8_1).f6), .slice Ao16 t103.length co16, .slice Ao24 t109.length co24, .slice Ao18 t106.length co18, .slice Ao26 t112.length co26] 81 (0, 0))) := ⟨by (with_reducible repeat (first | refine blk_drewN ?_ _ | refine blk_drew ?_ | refine blk_alloc ?_ _)); refine blk_put (cs := #[.int .i64 ((rd_T81 l0 x8_1).f0), .string ((rd_T81 l0 x8_1).f1), .string ((rd_T81 l0 x8_1).f2), .bool ((rd_T81 l0 x8_1).f3), .bool ((rd_T81 l0 x8_1).f4), .bool ((rd_T81 l0 x8_1).f5), .string ((rd_T81 l0 x8_1).f6), .slice Ao16 t103.length co16, .slice Ao24 t109.length co24, .slice Ao18 t106.length co18, .slice A101_10 ((rd_T81 l0 x8_1).f10).length c101_10]) ?_ 10 _ rfl; (with_reducible repeat (first | refine blk_drewN ?_ _ | refine blk_drew ?_ | refine blk_alloc ?_ _)); refine blk_put (cs := #[.int .i64 ((rd_T81 l0 x8_1).f0), .string ((rd_T81 l0 x8_1).f1), .string ((rd_T81 l0 x8_1).f2), .bool ((rd_T81 l0 x8_1).f3), .bool ((rd_T81 l0 x8_1).f4), .bool ((rd_T81 l0 x8_1).f5), .string ((rd_T81 l0 x8_1).f6), .slice Ao16 t103.length co16, .slice A101_8 ((rd_T81 l0 x8_1).f8).length c101_8, .slice Ao18 t106.length co18, .slice A101_10 ((rd_T81 l0 x8_1).f10).length c101_10]) ?_ 8 _ rfl; (with_reducible repeat (first | refine blk_drewN ?_ _ | refine blk_drew ?_ | refine blk_alloc ?_ _)); exact BK102.out⟩
           have n6_ : Aside0 (Below w.heap.size w ((w23.setCell ⟨gb102, 8, none⟩ (.slice Ao24 t109.length co24)).setCell ⟨gb102, 10, none⟩ (.slice Ao26 t112.length co26))) := ⟨by repeat (first | (with_reducible first | exact HB.out | apply below_alloc | apply pw_below_drewN | apply below_drew1 | refine below_set ?_ GE102.out) | exact HB.out)⟩
           (try clear HO_3)
           (try clear HO105)
           (try clear HO108)
           (try clear HO111)
           (try clear HO114)
           (try clear BK102)
           (try clear HB)
           generalize ((w23.setCell ⟨gb102, 8, none⟩ (.slice Ao24 t109.length co24)).setCell ⟨gb102, 10, none⟩ (.slice Ao26 t112.length co26)) = w28 at n0_ n1_ n2_ n3_ n4_ n5_ n6_ ⊢
           have HO_3 := n0_
           have HO105 := n1_
           have HO108 := n2_
           have HO111 := n3_
           have HO114 := n4_
           have BK102 := n5_
           have HB := n6_
           clear n0_ n1_ n2_ n3_ n4_ n5_ n6_
           obtain ⟨_, _, _, _, _, _, _, _, _, _, _, _, _, _, _, _, _, _, _, _, _, _⟩ := cells11 BK102.out
           try go_wp2_with (first | ((with_reducible refine gate_builtin (b := .append) (xs := #[.tmp 28, .tmp 30]) rfl ?_); at_builtin; refine Kd.R_append k81 (w0 := w) w.heap.size rfl (.tmp 28) (.tmp 30) 37 81 (.agg #[(.int .i64 0), (.string ⟨#[]⟩), (.string ⟨#[]⟩), (.bool false), (.bool false), (.bool false), (.string ⟨#[]⟩), (.slice none 0 0), (.slice none 0 0), (.slice none 0 0), (.slice none 0 0)]) 160 rfl Try.underlying37 info81 rfl (by decide) (by omega) u3 x3_1 (⟨(rd_T81 l0 x8_1).f0, (rd_T81 l0 x8_1).f1, (rd_T81 l0 x8_1).f2, (rd_T81 l0 x8_1).f3, (rd_T81 l0 x8_1).f4, (rd_T81 l0 x8_1).f5, (rd_T81 l0 x8_1).f6, t103, t109, t106, t112⟩ : S81) [.int .i64 ((rd_T81 l0 x8_1).f0), .string ((rd_T81 l0 x8_1).f1), .string ((rd_T81 l0 x8_1).f2), .bool ((rd_T81 l0 x8_1).f3), .bool ((rd_T81 l0 x8_1).f4), .bool ((rd_T81 l0 x8_1).f5), .string ((rd_T81 l0 x8_1).f6), .slice Ao16 t103.length co16, .slice Ao24 t109.length co24, .slice Ao18 t106.length co18, .slice Ao26 t112.length co26] (fun k_ => k_ ≠ gb102) (fun k_ => ((fun k_ => k_ ≠ gb102)) k_ ∧ some k_ ≠ (u3 : Value).ownBlock) rfl rfl ?aP (fun _ hk => hk) ?aF ?aO ?aB ?aS ?aL ?_; (case aP => exact k81_mkM _ _ _ (⟨(rd_T81 l0 x8_1).f0, (rd_T81 l0 x8_1).f1, (rd_T81 l0 x8_1).f2, (rd_T81 l0 x8_1).f3, (rd_T81 l0 x8_1).f4, (rd_T81 l0 x8_1).f5, (rd_T81 l0 x8_1).f6, t103, t109, t106, t112⟩ : S81) (Kd.R_mono (Kd.R_types (Kd.R_apart' (HO105.out) (Kd.R_typed HO_3.out) (by decide)) BK102.out (by decide)) (fun k_ hk => ⟨hk.2, hk.1.2⟩)) (Kd.R_mono (Kd.R_types (Kd.R_apart' (HO111.out) (Kd.R_typed HO_3.out) (by decide)) BK102.out (by decide)) (fun k_ hk => ⟨hk.2, hk.1.2⟩)) (Kd.R_mono (Kd.R_types (Kd.R_apart' (HO108.out) (Kd.R_typed HO_3.out) (by decide)) BK102.out (by decide)) (fun k_ hk => ⟨hk.2, hk.1.2⟩)) (Kd.R_mono (Kd.R_types (Kd.R_apart' (HO114.out) (Kd.R_typed HO_3.out) (by decide)) BK102.out (by decide)) (fun k_ hk => ⟨hk.2, hk.1.2⟩))); (case aB => exact (by repeat (first | (with_reducible first | exact HB.out | apply below_alloc | apply pw_below_drewN | apply below_drew1 | refine below_set ?_ GE102.out) | exact HB.out))); (case aF => exact (fun k_ hk => Kd.freshB (g := gb102) (o := .cells #[.int .i64 ((rd_T81 l0 x8_1).f0), .string ((rd_T81 l0 x8_1).f1), .string ((rd_T81 l0 x8_1).f2), .bool ((rd_T81 l0 x8_1).f3), .bool ((rd_T81 l0 x8_1).f4), .bool ((rd_T81 l0 x8_1).f5), .string ((rd_T81 l0 x8_1).f6), .slice Ao16 t103.length co16, .slice Ao24 t109.length co24, .slice Ao18 t106.length co18, .slice Ao26 t112.length co26] 81 (0, 0)) (by (with_reducible repeat (first | refine blk_drewN ?_ _ | refine blk_drew ?_ | refine blk_alloc ?_ _)); exact BK102.out) k_ hk)); (case aO => exact (by (with_reducible repeat (first | apply Kd.R_alloc | apply Kd.R_drewN | apply Kd.R_drew)); exact Kd.R_mono HO_3.out (fun _ hk => hk.2.2.2.2))); (case aS => exact (below_size (by repeat (first | (with_reducible first | exact HB.out | apply below_alloc | apply pw_below_drewN | apply below_drew1 | refine below_set ?_ GE102.out) | exact HB.out)))); (case aL => have := LMc9.out; omega); intro v116 w30 ho hb hg hat; rw [← Ny115.out] at ho; have n0_ := Aside0.mk (blk_grown (g := gb102) (o := .cells #[.int .i64 ((rd_T81 l0 x8_1).f0), .string ((rd_T81 l0 x8_1).f1), .string ((rd_T81 l0 x8_1).f2), .bool ((rd_T81 l0 x8_1).f3), .bool ((rd_T81 l0 x8_1).f4), .bool ((rd_T81 l0 x8_1).f5), .string ((rd_T81 l0 x8_1).f6), .slice Ao16 t103.length co16, .slice Ao24 t109.length co24, .slice Ao18 t106.length co18, .slice Ao26 t112.length co26] 81 (0, 0)) (by (with_reducible repeat (first | refine blk_drewN ?_ _ | refine blk_drew ?_ | refine blk_alloc ?_ _)); exact BK102.out) hg (Kd.R_away HO_3.out (fun _ hk => hk.2.2.2.2))); have n1_ := Aside0.mk (hb); have n2_ := Aside0.mk (ho); clear BK102; clear HB; clear HO_3; clear HO105; clear HO108; clear HO111; clear HO114; have BK102 := n0_; have HB := n1_; have HO117 := n2_; clear n0_ n1_ n2_; clear ho hb hg hat))
           go_roundg k1
           case measure => have := HK1.out; omega
           case rel => exact ⟨(y115), (wrap64 (x8_1 + 1)), (by first | rfl | (simp; done) | (simp [*]; done) | (simp [*, bne]; done)), H', ⟨by have := HK1.out; omega⟩, ⟨by (with_reducible repeat (first | apply Kd.R_alloc | apply Kd.R_drewN | apply Kd.R_drew)); exact Kd.R_mono HO117.out (fun _ hk => trivial)⟩, ⟨by repeat (first | (with_reducible first | exact HB.out | apply below_alloc | apply pw_below_drewN | apply below_drew1 | refine below_set ?_ GE102.out) | exact HB.out)⟩⟩
         · rw [if_neg c9] at H
           exact absurd H (by simp)
       · rw [if_neg c4] at H
         exact absurd H (by simp)
     · rw [if_neg c3] at H
       exact absurd H (by simp)
   · rw [if_neg c2] at H
     have c2b0 : decide (x8_1 < (l0.length : Int)) = false := decide_eq_false c2
     clear c2
     obtain rfl := Option.some.inj H
     go_wp2
     go_ret
     exact ⟨_, by first | rfl | (simp [errW_none, errW_some] <;> rfl) | (simp [*, errW_none, errW_some] <;> rfl), by (with_reducible repeat (first | apply Kd.R_alloc | apply Kd.R_drewN | apply Kd.R_drew)); exact HO_3.out, by repeat (first | (with_reducible first | exact HB.out | apply below_alloc | apply pw_below_drewN | apply below_drew1) | exact HB.out)⟩

end Go.Proofs.Ytmdkbhbconnmmaa.XIl
