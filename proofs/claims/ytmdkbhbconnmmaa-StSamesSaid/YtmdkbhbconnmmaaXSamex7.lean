-- WRITTEN BY wip/tools/xprint.py out of the translation: the kit's print with this work's hooks.
import Derived.Test.YtmdkbhbconnmmaaXSamex0
import Derived.Test.YtmdkbhbconnmmaaXSamex2
import Derived.Test.YtmdkbhbconnmmaaXSamex6
namespace Go.Proofs.Ytmdkbhbconnmmaa.XSame
open Go.RowKit Go.Proofs.YtmdkbhbconnmmaaW.PrintWords Go.Proofs.YtmdkbhbconnmmaaW.PrintLast Go.Proofs.YtmdkbhbconnmmaaW.PrintMore
attribute [local go_sem] max2_int min2_int max_two min_two max_three min_three max_four min_four   -- for this text's walks alone
set_option linter.unusedVariables false
set_option linter.unusedSimpArgs false

/-! ### relayplain_Stmts: function 10 -/
mutual
def relayplain_Stmts.l0 : Nat → List (S46) → List (S46) → Int → Int → Option ((List (S46)))
  | 0, _, _, _, _ => none
  | k + 1, x3, x6, x7, x8 => if x8 < x7 then (if 0 ≤ x8 then (if x8 < (x6.length : Int) then ((relayplain_Exprs.f k ((rd_T46 x6 x8).f4)).bind fun t107 => ((relayplain_Exprs.f k ((rd_T46 x6 x8).f6)).bind fun t110 => ((slices_Clone_string_string.f ((rd_T46 x6 x8).f5)).bind fun t113 => ((slices_Clone_string_string.f ((rd_T46 x6 x8).f7)).bind fun t116 => ((api_Range_27.f ((rd_T46 x6 x8).f8)).bind fun t119 => ((relayplain_Stmts.f k ((rd_T46 x6 x8).f9)).bind fun t122 => ((relayplain_Stmts.f k ((rd_T46 x6 x8).f10)).bind fun t125 => (if x3.length < 606627104979 then (relayplain_Stmts.l0 k (x3 ++ [(⟨(rd_T46 x6 x8).f0, (rd_T46 x6 x8).f1, (rd_T46 x6 x8).f2, (rd_T46 x6 x8).f3, t107, t113, t110, t116, t119, t122, t125, (rd_T46 x6 x8).f11, (rd_T46 x6 x8).f12, (rd_T46 x6 x8).f13⟩ : S46)]) x6 x7 (wrap64 (x8 + 1))) else (none))))))))) else (none)) else (none)) else (some x3)
def relayplain_Stmts.f : Nat → List (S46) → Option ((List (S46)))
  | 0, _ => none
  | k + 1, l0 => relayplain_Stmts.l0 k ([] : List (S46)) l0 (l0.length : Int) 0
end
theorem relayplain_Stmts.mono_l : ∀ k, (∀ y0, LeO (relayplain_Stmts.f k y0) (relayplain_Stmts.f (k + 1) y0)) ∧ (∀ y0 y1 y2 y3, LeO (relayplain_Stmts.l0 k y0 y1 y2 y3) (relayplain_Stmts.l0 (k + 1) y0 y1 y2 y3))
  | 0 => ⟨fun _ r h => by simp [relayplain_Stmts.f] at h, fun _ _ _ _ r h => by simp [relayplain_Stmts.l0] at h⟩
  | k + 1 => by
    obtain ⟨ih0, ih1⟩ := relayplain_Stmts.mono_l k
    refine ⟨?_, ?_⟩
    · intro y0
      unfold relayplain_Stmts.f
      repeat' first
      | (with_reducible exact ih0 _)
      | (with_reducible exact ih1 _ _ _ _)
      | (with_reducible exact relayplain_Exprs.mono _ _)
      | (with_reducible exact LeO.refl _)
      | (with_reducible exact LeO.none _)
      | (with_reducible refine LeO.ite ?_ ?_)
      | (with_reducible refine LeO.bind ?_ (fun _ => ?_))
      | exact ih0 _
      | exact ih1 _ _ _ _
      | exact relayplain_Exprs.mono _ _
      | exact LeO.none _
      | refine LeO.ite ?_ ?_
      | refine LeO.bind ?_ (fun _ => ?_)
    · intro y0 y1 y2 y3
      unfold relayplain_Stmts.l0
      repeat' first
      | (with_reducible exact ih0 _)
      | (with_reducible exact ih1 _ _ _ _)
      | (with_reducible exact relayplain_Exprs.mono _ _)
      | (with_reducible exact LeO.refl _)
      | (with_reducible exact LeO.none _)
      | (with_reducible refine LeO.ite ?_ ?_)
      | (with_reducible refine LeO.bind ?_ (fun _ => ?_))
      | exact ih0 _
      | exact ih1 _ _ _ _
      | exact relayplain_Exprs.mono _ _
      | exact LeO.none _
      | refine LeO.ite ?_ ?_
      | refine LeO.bind ?_ (fun _ => ?_)
theorem relayplain_Stmts.mono : ∀ a0 k, LeO (relayplain_Stmts.f k a0) (relayplain_Stmts.f (k + 1) a0) := by
  intro a0 k
  obtain ⟨ih0, ih1⟩ := relayplain_Stmts.mono_l k
  exact ih0 a0
def relayplain_Stmts.T5 : Bool × List (List Nat × List Nat) := (true, [([], []), ([0], [0]), ([1], [1]), ([], []), ([3], [3]), ([4, 2], [4]), ([0, 1, 2, 3, 4], []), ([6, 2, 5, 0, 1, 2, 3, 4], [2, 6]), ([0, 1, 2, 3, 4, 5, 6, 7], []), ([8, 5, 7, 0, 1, 2, 3, 4, 5, 6, 7], [5, 8])])
def relayplain_Stmts.B5 : List Nat := [0, 1, 3, 0, 8, 31, 31, 127, 255, 511]
theorem relayplain_Stmts.tab5 : rtab .any (opsOf Try.f10 5) = relayplain_Stmts.T5 := by kernel_rfl
theorem relayplain_Stmts.bits5 : waitsOk relayplain_Stmts.T5.2 relayplain_Stmts.B5 = true := by kernel_rfl
def relayplain_Stmts.T6 : Bool × List (List Nat × List Nat) := (true, [([], []), ([0], [0]), ([1], [1]), ([], []), ([3], [3]), ([4, 2], [4]), ([], []), ([6], [6]), ([7, 5], [7]), ([0, 1, 2, 3, 4, 6, 7], []), ([9, 2, 8, 0, 1, 2, 3, 4, 6, 7], [2, 9]), ([0, 1, 2, 3, 4, 5, 6, 7, 9, 10], []), ([11, 5, 10, 0, 1, 2, 3, 4, 5, 6, 7, 9, 10], [5, 11]), ([0, 1, 2, 3, 4, 5, 6, 7, 8, 9, 10, 11, 12], []), ([13, 8, 12, 0, 1, 2, 3, 4, 5, 6, 7, 8, 9, 10, 11, 12], [8, 13])])
def relayplain_Stmts.B6 : List Nat := [0, 1, 3, 0, 8, 31, 0, 64, 255, 223, 1023, 2047, 4095, 8191, 16383]
theorem relayplain_Stmts.tab6 : rtab .any (opsOf Try.f10 6) = relayplain_Stmts.T6 := by kernel_rfl
theorem relayplain_Stmts.bits6 : waitsOk relayplain_Stmts.T6.2 relayplain_Stmts.B6 = true := by kernel_rfl
def relayplain_Stmts.T7 : Bool × List (List Nat × List Nat) := (true, [([], []), ([0], [0]), ([1], [1]), ([], []), ([3], [3]), ([4, 2], [4]), ([0, 1, 2, 3, 4], []), ([6, 2, 5, 0, 1, 2, 3, 4], [2, 6]), ([0, 1, 2, 3, 4, 5, 6, 7], []), ([8, 5, 7, 0, 1, 2, 3, 4, 5, 6, 7], [5, 8])])
def relayplain_Stmts.B7 : List Nat := [0, 1, 3, 0, 8, 31, 31, 127, 255, 511]
theorem relayplain_Stmts.tab7 : rtab .any (opsOf Try.f10 7) = relayplain_Stmts.T7 := by kernel_rfl
theorem relayplain_Stmts.bits7 : waitsOk relayplain_Stmts.T7.2 relayplain_Stmts.B7 = true := by kernel_rfl
set_option maxHeartbeats 8000000 in
set_option maxRecDepth 100000 in
theorem relayplain_Stmts.calls (k : Nat) : ∀ (A0 : Option Addr) (c0 : Nat) (l0 : List (S46)) (r : List (S46)) (w : World) (hr0 : Kd.C k46 w A0 l0.length l0) (hc0 : l0.length ≤ c0) (h : relayplain_Stmts.f k l0 = some r),
    Calls Try.prog 10 #[.slice A0 l0.length c0] w fun e w' => ∃ v0_ : Value, e = .returned (v0_) ∧ Kd.R k46 46 w' w.heap.size (fun _ => True) v0_ r ∧ Below w.heap.size w w' := by
  induction k using Nat.strongRecOn with
  | _ k ih =>
  intro A0 c0 l0 r w hr0 hc0 h
  cases k with
  | zero => exact absurd h (by simp [relayplain_Stmts.f])
  | succ k =>
  simp only [relayplain_Stmts.f] at h
  have hu46 := Try.underlying46
  have HR0 := Aside0.mk hr0
  have HC0 := Aside0.mk hc0
  clear hr0 hc0
  have HB := Aside0.mk (Below.refl w.heap.size w)
  have H : (relayplain_Stmts.l0 k ([] : List (S46)) l0 (l0.length : Int) 0) = some r := h
  clear h
  have H' := Aside0.mk H
  clear H
  go_enter Try.func10, Try.ntmps10
  go_wp2
  go_loopg [3, 8] k (fun kq v3 v8 w' => ∃ (x3_1 : List (S46)) (x8_1 : Int), v8 = .int .i64 x8_1 ∧ Aside0 (relayplain_Stmts.l0 kq x3_1 l0 (l0.length : Int) x8_1 = some r) ∧ Aside0 (kq ≤ k) ∧ Aside0 (Kd.R k46 46 w' w.heap.size (fun _ => True) v3 x3_1) ∧ Aside0 (Below w.heap.size w w'))
  case atStart => exact ⟨(([] : List (S46))), (0), (by first | rfl | (simp; done) | (simp [*]; done) | (simp [*, bne]; done)), H', ⟨Nat.le_refl _⟩, ⟨by first | exact Kd.R_nil _ _ _ _ _ | exact Kd.N_nil _ _ _ _ _ | exact Kd.V_nil _ _ _ _ _ | exact Kd.Q_nil _ _ _ _ _ | exact Kd.S_nil _ _ _ _ _⟩, ⟨by repeat (first | (with_reducible first | exact HB.out | apply below_alloc | apply pw_below_drewN | apply below_drew1) | exact HB.out)⟩⟩
  case round =>
    clear H'
    try clear c1
    obtain ⟨x3_1, x8_1, rfl, HA, HK1, HO_3, HB⟩ := hrel
    cases gk with
    | zero => exact absurd HA.out (by simp [relayplain_Stmts.l0])
    | succ k1 =>
      have H := HA.out
      clear HA
      simp only [relayplain_Stmts.l0] at H
      by_cases c2 : x8_1 < (l0.length : Int)
      · rw [if_pos c2] at H
        have c2b0 : decide (x8_1 < (l0.length : Int)) = true := decide_eq_true c2
        clear c2
        by_cases c3 : 0 ≤ x8_1
        · rw [if_pos c3] at H
          have c3b0 : decide (0 ≤ x8_1) = true := decide_eq_true c3
          clear c3
          by_cases c4 : x8_1 < (l0.length : Int)
          · rw [if_pos c4] at H
            have c4b0 : decide (x8_1 < (l0.length : Int)) = true := decide_eq_true c4
            clear c4
            replace H := Option.bind_eq_some_iff.mp H
            obtain ⟨t107, A50, H⟩ := H
            replace H : ((relayplain_Exprs.f k1 ((rd_T46 l0 x8_1).f6)).bind fun t110 => ((slices_Clone_string_string.f ((rd_T46 l0 x8_1).f5)).bind fun t113 => ((slices_Clone_string_string.f ((rd_T46 l0 x8_1).f7)).bind fun t116 => ((api_Range_27.f ((rd_T46 l0 x8_1).f8)).bind fun t119 => ((relayplain_Stmts.f k1 ((rd_T46 l0 x8_1).f9)).bind fun t122 => ((relayplain_Stmts.f k1 ((rd_T46 l0 x8_1).f10)).bind fun t125 => (if x3_1.length < 606627104979 then (relayplain_Stmts.l0 k1 (x3_1 ++ [(⟨(rd_T46 l0 x8_1).f0, (rd_T46 l0 x8_1).f1, (rd_T46 l0 x8_1).f2, (rd_T46 l0 x8_1).f3, t107, t113, t110, t116, t119, t122, t125, (rd_T46 l0 x8_1).f11, (rd_T46 l0 x8_1).f12, (rd_T46 l0 x8_1).f13⟩ : S46)]) l0 (l0.length : Int) (wrap64 (x8_1 + 1))) else (none)))))))) = some r := H
            have A5 := Aside0.mk A50
            clear A50
            replace H := Option.bind_eq_some_iff.mp H
            obtain ⟨t110, A60, H⟩ := H
            replace H : ((slices_Clone_string_string.f ((rd_T46 l0 x8_1).f5)).bind fun t113 => ((slices_Clone_string_string.f ((rd_T46 l0 x8_1).f7)).bind fun t116 => ((api_Range_27.f ((rd_T46 l0 x8_1).f8)).bind fun t119 => ((relayplain_Stmts.f k1 ((rd_T46 l0 x8_1).f9)).bind fun t122 => ((relayplain_Stmts.f k1 ((rd_T46 l0 x8_1).f10)).bind fun t125 => (if x3_1.length < 606627104979 then (relayplain_Stmts.l0 k1 (x3_1 ++ [(⟨(rd_T46 l0 x8_1).f0, (rd_T46 l0 x8_1).f1, (rd_T46 l0 x8_1).f2, (rd_T46 l0 x8_1).f3, t107, t113, t110, t116, t119, t122, t125, (rd_T46 l0 x8_1).f11, (rd_T46 l0 x8_1).f12, (rd_T46 l0 x8_1).f13⟩ : S46)]) l0 (l0.length : Int) (wrap64 (x8_1 + 1))) else (none))))))) = some r := H
            have A6 := Aside0.mk A60
            clear A60
            replace H := Option.bind_eq_some_iff.mp H
            obtain ⟨t113, A70, H⟩ := H
            replace H : ((slices_Clone_string_string.f ((rd_T46 l0 x8_1).f7)).bind fun t116 => ((api_Range_27.f ((rd_T46 l0 x8_1).f8)).bind fun t119 => ((relayplain_Stmts.f k1 ((rd_T46 l0 x8_1).f9)).bind fun t122 => ((relayplain_Stmts.f k1 ((rd_T46 l0 x8_1).f10)).bind fun t125 => (if x3_1.length < 606627104979 then (relayplain_Stmts.l0 k1 (x3_1 ++ [(⟨(rd_T46 l0 x8_1).f0, (rd_T46 l0 x8_1).f1, (rd_T46 l0 x8_1).f2, (rd_T46 l0 x8_1).f3, t107, t113, t110, t116, t119, t122, t125, (rd_T46 l0 x8_1).f11, (rd_T46 l0 x8_1).f12, (rd_T46 l0 x8_1).f13⟩ : S46)]) l0 (l0.length : Int) (wrap64 (x8_1 + 1))) else (none)))))) = some r := H
            have A7 := Aside0.mk A70
            clear A70
            replace H := Option.bind_eq_some_iff.mp H
            obtain ⟨t116, A80, H⟩ := H
            replace H : ((api_Range_27.f ((rd_T46 l0 x8_1).f8)).bind fun t119 => ((relayplain_Stmts.f k1 ((rd_T46 l0 x8_1).f9)).bind fun t122 => ((relayplain_Stmts.f k1 ((rd_T46 l0 x8_1).f10)).bind fun t125 => (if x3_1.length < 606627104979 then (relayplain_Stmts.l0 k1 (x3_1 ++ [(⟨(rd_T46 l0 x8_1).f0, (rd_T46 l0 x8_1).f1, (rd_T46 l0 x8_1).f2, (rd_T46 l0 x8_1).f3, t107, t113, t110, t116, t119, t122, t125, (rd_T46 l0 x8_1).f11, (rd_T46 l0 x8_1).f12, (rd_T46 l0 x8_1).f13⟩ : S46)]) l0 (l0.length : Int) (wrap64 (x8_1 + 1))) else (none))))) = some r := H
            have A8 := Aside0.mk A80
            clear A80
            replace H := Option.bind_eq_some_iff.mp H
            obtain ⟨t119, A90, H⟩ := H
            replace H : ((relayplain_Stmts.f k1 ((rd_T46 l0 x8_1).f9)).bind fun t122 => ((relayplain_Stmts.f k1 ((rd_T46 l0 x8_1).f10)).bind fun t125 => (if x3_1.length < 606627104979 then (relayplain_Stmts.l0 k1 (x3_1 ++ [(⟨(rd_T46 l0 x8_1).f0, (rd_T46 l0 x8_1).f1, (rd_T46 l0 x8_1).f2, (rd_T46 l0 x8_1).f3, t107, t113, t110, t116, t119, t122, t125, (rd_T46 l0 x8_1).f11, (rd_T46 l0 x8_1).f12, (rd_T46 l0 x8_1).f13⟩ : S46)]) l0 (l0.length : Int) (wrap64 (x8_1 + 1))) else (none)))) = some r := H
            have A9 := Aside0.mk A90
            clear A90
            replace H := Option.bind_eq_some_iff.mp H
            obtain ⟨t122, A100, H⟩ := H
            replace H : ((relayplain_Stmts.f k1 ((rd_T46 l0 x8_1).f10)).bind fun t125 => (if x3_1.length < 606627104979 then (relayplain_Stmts.l0 k1 (x3_1 ++ [(⟨(rd_T46 l0 x8_1).f0, (rd_T46 l0 x8_1).f1, (rd_T46 l0 x8_1).f2, (rd_T46 l0 x8_1).f3, t107, t113, t110, t116, t119, t122, t125, (rd_T46 l0 x8_1).f11, (rd_T46 l0 x8_1).f12, (rd_T46 l0 x8_1).f13⟩ : S46)]) l0 (l0.length : Int) (wrap64 (x8_1 + 1))) else (none))) = some r := H
            have A10 := Aside0.mk A100
            clear A100
            replace H := Option.bind_eq_some_iff.mp H
            obtain ⟨t125, A110, H⟩ := H
            replace H : (if x3_1.length < 606627104979 then (relayplain_Stmts.l0 k1 (x3_1 ++ [(⟨(rd_T46 l0 x8_1).f0, (rd_T46 l0 x8_1).f1, (rd_T46 l0 x8_1).f2, (rd_T46 l0 x8_1).f3, t107, t113, t110, t116, t119, t122, t125, (rd_T46 l0 x8_1).f11, (rd_T46 l0 x8_1).f12, (rd_T46 l0 x8_1).f13⟩ : S46)]) l0 (l0.length : Int) (wrap64 (x8_1 + 1))) else (none)) = some r := H
            have A11 := Aside0.mk A110
            clear A110
            by_cases c12 : x3_1.length < 606627104979
            · rw [if_pos c12] at H
              have LMc12 := Aside0.mk c12
              clear c12
              obtain ⟨y128, hy128⟩ : ∃ y_ : List (S46), y_ = (x3_1 ++ [(⟨(rd_T46 l0 x8_1).f0, (rd_T46 l0 x8_1).f1, (rd_T46 l0 x8_1).f2, (rd_T46 l0 x8_1).f3, t107, t113, t110, t116, t119, t122, t125, (rd_T46 l0 x8_1).f11, (rd_T46 l0 x8_1).f12, (rd_T46 l0 x8_1).f13⟩ : S46)]) := ⟨_, rfl⟩
              replace H : (relayplain_Stmts.l0 k1 y128 l0 (l0.length : Int) (wrap64 (x8_1 + 1))) = some r := by first | (rw [hy128]; with_reducible exact H) | (have H2_ := (Option.bind_some _ _).symm.trans H; rw [hy128]; with_reducible exact H2_) | (have H2_ := (Option.bind_some _ _).symm.trans H; with_reducible exact H2_) | with_reducible exact H | (rw [hy128]; exact H) | exact H
              have Ny128 := Aside0.mk hy128
              clear hy128
              have H' := Aside0.mk H
              clear H
              have p105 : 0 ≤ (x8_1 : Int) := of_decide_eq_true (by first | (with_reducible assumption) | assumption)
              have q105 : x8_1 < (l0.length : Int) := of_decide_eq_true (by first | (with_reducible assumption) | assumption)
              obtain ⟨ad105, A105_4, c105_4, A105_5, c105_5, A105_6, c105_6, A105_7, c105_7, A105_8, c105_8, A105_9, c105_9, A105_10, c105_10, e105, hx105_0, hx105_1, hx105_2, hx105_3, hx105_4, hx105_5, hx105_6, hx105_7, hx105_8, hx105_9, hx105_10, hx105_11, hx105_12, hx105_13, hl105_4, hi105_4, hl105_5, hi105_5, hl105_6, hi105_6, hl105_7, hi105_7, hl105_8, hi105_8, hl105_9, hi105_9, hl105_10, hi105_10⟩ := at_T46 HR0.out x8_1 p105 q105
              cases e105
              replace hx105_0 := (HB.out.cell (World.block_lt_of_cell? w _ hx105_0)).trans hx105_0
              replace hx105_1 := (HB.out.cell (World.block_lt_of_cell? w _ hx105_1)).trans hx105_1
              replace hx105_2 := (HB.out.cell (World.block_lt_of_cell? w _ hx105_2)).trans hx105_2
              replace hx105_3 := (HB.out.cell (World.block_lt_of_cell? w _ hx105_3)).trans hx105_3
              replace hx105_4 := (HB.out.cell (World.block_lt_of_cell? w _ hx105_4)).trans hx105_4
              replace hx105_5 := (HB.out.cell (World.block_lt_of_cell? w _ hx105_5)).trans hx105_5
              replace hx105_6 := (HB.out.cell (World.block_lt_of_cell? w _ hx105_6)).trans hx105_6
              replace hx105_7 := (HB.out.cell (World.block_lt_of_cell? w _ hx105_7)).trans hx105_7
              replace hx105_8 := (HB.out.cell (World.block_lt_of_cell? w _ hx105_8)).trans hx105_8
              replace hx105_9 := (HB.out.cell (World.block_lt_of_cell? w _ hx105_9)).trans hx105_9
              replace hx105_10 := (HB.out.cell (World.block_lt_of_cell? w _ hx105_10)).trans hx105_10
              replace hx105_11 := (HB.out.cell (World.block_lt_of_cell? w _ hx105_11)).trans hx105_11
              replace hx105_12 := (HB.out.cell (World.block_lt_of_cell? w _ hx105_12)).trans hx105_12
              replace hx105_13 := (HB.out.cell (World.block_lt_of_cell? w _ hx105_13)).trans hx105_13
              have HR105_4 := Aside0.mk hi105_4
              have HC105_4 := Aside0.mk hl105_4
              clear hi105_4 hl105_4
              have HR105_5 := Aside0.mk hi105_5
              have HC105_5 := Aside0.mk hl105_5
              clear hi105_5 hl105_5
              have HR105_6 := Aside0.mk hi105_6
              have HC105_6 := Aside0.mk hl105_6
              clear hi105_6 hl105_6
              have HR105_7 := Aside0.mk hi105_7
              have HC105_7 := Aside0.mk hl105_7
              clear hi105_7 hl105_7
              have HR105_8 := Aside0.mk hi105_8
              have HC105_8 := Aside0.mk hl105_8
              clear hi105_8 hl105_8
              have HR105_9 := Aside0.mk hi105_9
              have HC105_9 := Aside0.mk hl105_9
              clear hi105_9 hl105_9
              have HR105_10 := Aside0.mk hi105_10
              have HC105_10 := Aside0.mk hl105_10
              clear hi105_10 hl105_10
              replace p105 := eq_true p105
              replace q105 := eq_true q105
              try go_wp2_with (first | ((with_reducible refine gate_dst (N := 5) rfl ?_); refine box_event ?hg (N := 5) ?hd (cs := #[.int .i64 0, .int .i64 0, .string (⟨#[]⟩ : ByteArray), .int .i64 0, .slice none 0 0, .slice none 0 0, .slice none 0 0, .slice none 0 0, .slice none 0 0, .slice none 0 0, .slice none 0 0, .int .u8 0, .int .i64 0, .int .i64 0]) (t := 46) ?hr ?_; (case hd => rfl); (case hg => rfl); (case hr => first | (go_simp; done) | (go_simp; rfl)); intro gb106 hg w13 hbox hb; have n0_ := Aside0.mk (Kd.R_below (Kd.R_elderB (by (with_reducible repeat (first | apply Kd.R_alloc | apply Kd.R_drewN | apply Kd.R_drew)); exact HO_3.out) gb106 (Nat.le_of_eq hg.symm)) hb); have n1_ := Aside0.mk (below_step (by repeat (first | (with_reducible first | exact HB.out | apply below_alloc | apply pw_below_drewN | apply below_drew1) | exact HB.out)) hb); have n2_ := Aside0.mk (hbox); have n3_ := Aside0.mk ((by rw [hg]; exact (below_size (by repeat (first | (with_reducible first | exact HB.out | apply below_alloc | apply pw_below_drewN | apply below_drew1) | exact HB.out))) : w.heap.size ≤ gb106)); have n4_ := Aside0.mk ((by rw [hg]; exact (below_size (by repeat (first | (with_reducible first | exact HB.out | apply below_alloc | apply pw_below_drewN | apply below_drew1) | exact HB.out))) : w.heap.size ≤ gb106)); clear HO_3; clear HB; have HO_3 := n0_; have HB := n1_; have BK106 := n2_; have GW106 := n3_; have GE106 := n4_; clear n0_ n1_ n2_ n3_ n4_; clear hb hbox hg; have hcz14_0 : w13.cell? ⟨gb106, 0, none⟩ = some (.int .i64 0) := (blk_cell BK106.out 0).trans rfl; have hcz14_1 : w13.cell? ⟨gb106, 1, none⟩ = some (.int .i64 0) := (blk_cell BK106.out 1).trans rfl; have hcz14_2 : w13.cell? ⟨gb106, 2, none⟩ = some (.string (⟨#[]⟩ : ByteArray)) := (blk_cell BK106.out 2).trans rfl; have hcz14_3 : w13.cell? ⟨gb106, 3, none⟩ = some (.int .i64 0) := (blk_cell BK106.out 3).trans rfl; have hcz14_4 : w13.cell? ⟨gb106, 4, none⟩ = some (.slice none 0 0) := (blk_cell BK106.out 4).trans rfl; have hcz14_5 : w13.cell? ⟨gb106, 5, none⟩ = some (.slice none 0 0) := (blk_cell BK106.out 5).trans rfl; have hcz14_6 : w13.cell? ⟨gb106, 6, none⟩ = some (.slice none 0 0) := (blk_cell BK106.out 6).trans rfl; have hcz14_7 : w13.cell? ⟨gb106, 7, none⟩ = some (.slice none 0 0) := (blk_cell BK106.out 7).trans rfl; have hcz14_8 : w13.cell? ⟨gb106, 8, none⟩ = some (.slice none 0 0) := (blk_cell BK106.out 8).trans rfl; have hcz14_9 : w13.cell? ⟨gb106, 9, none⟩ = some (.slice none 0 0) := (blk_cell BK106.out 9).trans rfl; have hcz14_10 : w13.cell? ⟨gb106, 10, none⟩ = some (.slice none 0 0) := (blk_cell BK106.out 10).trans rfl; have hcz14_11 : w13.cell? ⟨gb106, 11, none⟩ = some (.int .u8 0) := (blk_cell BK106.out 11).trans rfl; have hcz14_12 : w13.cell? ⟨gb106, 12, none⟩ = some (.int .i64 0) := (blk_cell BK106.out 12).trans rfl; have hcz14_13 : w13.cell? ⟨gb106, 13, none⟩ = some (.int .i64 0) := (blk_cell BK106.out 13).trans rfl; have hfz14_0 := blk_frozen BK106.out 0; have hfz14_1 := blk_frozen BK106.out 1; have hfz14_2 := blk_frozen BK106.out 2; have hfz14_3 := blk_frozen BK106.out 3; have hfz14_4 := blk_frozen BK106.out 4; have hfz14_5 := blk_frozen BK106.out 5; have hfz14_6 := blk_frozen BK106.out 6; have hfz14_7 := blk_frozen BK106.out 7; have hfz14_8 := blk_frozen BK106.out 8; have hfz14_9 := blk_frozen BK106.out 9; have hfz14_10 := blk_frozen BK106.out 10; have hfz14_11 := blk_frozen BK106.out 11; have hfz14_12 := blk_frozen BK106.out 12; have hfz14_13 := blk_frozen BK106.out 13))
              have n0_ : Aside0 (Kd.R k46 46 ((((((((((((((w13.setCell ⟨gb106, 0, none⟩ (.int .i64 ((rd_T46 l0 x8_1).f0))).setCell ⟨gb106, 1, none⟩ (.int .i64 ((rd_T46 l0 x8_1).f1))).setCell ⟨gb106, 2, none⟩ (.string ((rd_T46 l0 x8_1).f2))).setCell ⟨gb106, 3, none⟩ (.int .i64 ((rd_T46 l0 x8_1).f3))).setCell ⟨gb106, 4, none⟩ (.slice A105_4 ((rd_T46 l0 x8_1).f4).length c105_4)).setCell ⟨gb106, 5, none⟩ (.slice A105_5 ((rd_T46 l0 x8_1).f5).length c105_5)).setCell ⟨gb106, 6, none⟩ (.slice A105_6 ((rd_T46 l0 x8_1).f6).length c105_6)).setCell ⟨gb106, 7, none⟩ (.slice A105_7 ((rd_T46 l0 x8_1).f7).length c105_7)).setCell ⟨gb106, 8, none⟩ (.slice A105_8 ((rd_T46 l0 x8_1).f8).length c105_8)).setCell ⟨gb106, 9, none⟩ (.slice A105_9 ((rd_T46 l0 x8_1).f9).length c105_9)).setCell ⟨gb106, 10, none⟩ (.slice A105_10 ((rd_T46 l0 x8_1).f10).length c105_10)).setCell ⟨gb106, 11, none⟩ (.int .u8 ((rd_T46 l0 x8_1).f11))).setCell ⟨gb106, 12, none⟩ (.int .i64 ((rd_T46 l0 x8_1).f12))).setCell ⟨gb106, 13, none⟩ (.int .i64 ((rd_T46 l0 x8_1).f13))) w.heap.size (fun k_ => k_ ≠ gb106) u3 x3_1) := ⟨by (with_reducible repeat (first | apply Kd.R_alloc | apply Kd.R_drewN | apply Kd.R_drew)); exact Kd.R_mono (Kd.R_far (p := ⟨gb106, 13, none⟩) (Kd.R_far (p := ⟨gb106, 12, none⟩) (Kd.R_far (p := ⟨gb106, 11, none⟩) (Kd.R_far (p := ⟨gb106, 10, none⟩) (Kd.R_far (p := ⟨gb106, 9, none⟩) (Kd.R_far (p := ⟨gb106, 8, none⟩) (Kd.R_far (p := ⟨gb106, 7, none⟩) (Kd.R_far (p := ⟨gb106, 6, none⟩) (Kd.R_far (p := ⟨gb106, 5, none⟩) (Kd.R_far (p := ⟨gb106, 4, none⟩) (Kd.R_far (p := ⟨gb106, 3, none⟩) (Kd.R_far (p := ⟨gb106, 2, none⟩) (Kd.R_far (p := ⟨gb106, 1, none⟩) (Kd.R_far (p := ⟨gb106, 0, none⟩) (Kd.R_mono HO_3.out (fun k_ hk => (⟨hk, hk.2⟩ : _ ∧ k_ ≠ gb106))) (fun _ hk => hk.2) (.int .i64 ((rd_T46 l0 x8_1).f0))) (fun _ hk => hk.2) (.int .i64 ((rd_T46 l0 x8_1).f1))) (fun _ hk => hk.2) (.string ((rd_T46 l0 x8_1).f2))) (fun _ hk => hk.2) (.int .i64 ((rd_T46 l0 x8_1).f3))) (fun _ hk => hk.2) (.slice A105_4 ((rd_T46 l0 x8_1).f4).length c105_4)) (fun _ hk => hk.2) (.slice A105_5 ((rd_T46 l0 x8_1).f5).length c105_5)) (fun _ hk => hk.2) (.slice A105_6 ((rd_T46 l0 x8_1).f6).length c105_6)) (fun _ hk => hk.2) (.slice A105_7 ((rd_T46 l0 x8_1).f7).length c105_7)) (fun _ hk => hk.2) (.slice A105_8 ((rd_T46 l0 x8_1).f8).length c105_8)) (fun _ hk => hk.2) (.slice A105_9 ((rd_T46 l0 x8_1).f9).length c105_9)) (fun _ hk => hk.2) (.slice A105_10 ((rd_T46 l0 x8_1).f10).length c105_10)) (fun _ hk => hk.2) (.int .u8 ((rd_T46 l0 x8_1).f11))) (fun _ hk => hk.2) (.int .i64 ((rd_T46 l0 x8_1).f12))) (fun _ hk => hk.2) (.int .i64 ((rd_T46 l0 x8_1).f13))) (fun _ hk => hk.1.2)⟩
              have n1_ : Aside0 (((((((((((((((w13.setCell ⟨gb106, 0, none⟩ (.int .i64 ((rd_T46 l0 x8_1).f0))).setCell ⟨gb106, 1, none⟩ (.int .i64 ((rd_T46 l0 x8_1).f1))).setCell ⟨gb106, 2, none⟩ (.string ((rd_T46 l0 x8_1).f2))).setCell ⟨gb106, 3, none⟩ (.int .i64 ((rd_T46 l0 x8_1).f3))).setCell ⟨gb106, 4, none⟩ (.slice A105_4 ((rd_T46 l0 x8_1).f4).length c105_4)).setCell ⟨gb106, 5, none⟩ (.slice A105_5 ((rd_T46 l0 x8_1).f5).length c105_5)).setCell ⟨gb106, 6, none⟩ (.slice A105_6 ((rd_T46 l0 x8_1).f6).length c105_6)).setCell ⟨gb106, 7, none⟩ (.slice A105_7 ((rd_T46 l0 x8_1).f7).length c105_7)).setCell ⟨gb106, 8, none⟩ (.slice A105_8 ((rd_T46 l0 x8_1).f8).length c105_8)).setCell ⟨gb106, 9, none⟩ (.slice A105_9 ((rd_T46 l0 x8_1).f9).length c105_9)).setCell ⟨gb106, 10, none⟩ (.slice A105_10 ((rd_T46 l0 x8_1).f10).length c105_10)).setCell ⟨gb106, 11, none⟩ (.int .u8 ((rd_T46 l0 x8_1).f11))).setCell ⟨gb106, 12, none⟩ (.int .i64 ((rd_T46 l0 x8_1).f12))).setCell ⟨gb106, 13, none⟩ (.int .i64 ((rd_T46 l0 x8_1).f13))).heap[gb106]? = some (.cells #[.int .i64 ((rd_T46 l0 x8_1).f0), .int .i64 ((rd_T46 l0 x8_1).f1), .string ((rd_T46 l0 x8_1).f2), .int .i64 ((rd_T46 l0 x8_1).f3), .slice A105_4 ((rd_T46 l0 x8_1).f4).length c105_4, .slice A105_5 ((rd_T46 l0 x8_1).f5).length c105_5, .slice A105_6 ((rd_T46 l0 x8_1).f6).length c105_6, .slice A105_7 ((rd_T46 l0 x8_1).f7).length c105_7, .slice A105_8 ((rd_T46 l0 x8_1).f8).length c105_8, .slice A105_9 ((rd_T46 l0 x8_1).f9).length c105_9, .slice A105_10 ((rd_T46 l0 x8_1).f10).length c105_10, .int .u8 ((rd_T46 l0 x8_1).f11), .int .i64 ((rd_T46 l0 x8_1).f12), .int .i64 ((rd_T46 l0 x8_1).f13)] 46 (0, 0))) := ⟨by (with_reducible repeat (first | refine blk_drewN ?_ _ | refine blk_drew ?_ | refine blk_alloc ?_ _)); apply put14; (with_reducible repeat (first | refine blk_drewN ?_ _ | refine blk_drew ?_ | refine blk_alloc ?_ _)); exact BK106.out⟩
              have n2_ : Aside0 (Below w.heap.size w ((((((((((((((w13.setCell ⟨gb106, 0, none⟩ (.int .i64 ((rd_T46 l0 x8_1).f0))).setCell ⟨gb106, 1, none⟩ (.int .i64 ((rd_T46 l0 x8_1).f1))).setCell ⟨gb106, 2, none⟩ (.string ((rd_T46 l0 x8_1).f2))).setCell ⟨gb106, 3, none⟩ (.int .i64 ((rd_T46 l0 x8_1).f3))).setCell ⟨gb106, 4, none⟩ (.slice A105_4 ((rd_T46 l0 x8_1).f4).length c105_4)).setCell ⟨gb106, 5, none⟩ (.slice A105_5 ((rd_T46 l0 x8_1).f5).length c105_5)).setCell ⟨gb106, 6, none⟩ (.slice A105_6 ((rd_T46 l0 x8_1).f6).length c105_6)).setCell ⟨gb106, 7, none⟩ (.slice A105_7 ((rd_T46 l0 x8_1).f7).length c105_7)).setCell ⟨gb106, 8, none⟩ (.slice A105_8 ((rd_T46 l0 x8_1).f8).length c105_8)).setCell ⟨gb106, 9, none⟩ (.slice A105_9 ((rd_T46 l0 x8_1).f9).length c105_9)).setCell ⟨gb106, 10, none⟩ (.slice A105_10 ((rd_T46 l0 x8_1).f10).length c105_10)).setCell ⟨gb106, 11, none⟩ (.int .u8 ((rd_T46 l0 x8_1).f11))).setCell ⟨gb106, 12, none⟩ (.int .i64 ((rd_T46 l0 x8_1).f12))).setCell ⟨gb106, 13, none⟩ (.int .i64 ((rd_T46 l0 x8_1).f13)))) := ⟨by repeat (first | (with_reducible first | exact HB.out | apply below_alloc | apply pw_below_drewN | apply below_drew1 | refine below_set ?_ GE106.out) | exact HB.out)⟩
              (try clear HO_3)
              (try clear BK106)
              (try clear HB)
              generalize ((((((((((((((w13.setCell ⟨gb106, 0, none⟩ (.int .i64 ((rd_T46 l0 x8_1).f0))).setCell ⟨gb106, 1, none⟩ (.int .i64 ((rd_T46 l0 x8_1).f1))).setCell ⟨gb106, 2, none⟩ (.string ((rd_T46 l0 x8_1).f2))).setCell ⟨gb106, 3, none⟩ (.int .i64 ((rd_T46 l0 x8_1).f3))).setCell ⟨gb106, 4, none⟩ (.slice A105_4 ((rd_T46 l0 x8_1).f4).length c105_4)).setCell ⟨gb106, 5, none⟩ (.slice A105_5 ((rd_T46 l0 x8_1).f5).length c105_5)).setCell ⟨gb106, 6, none⟩ (.slice A105_6 ((rd_T46 l0 x8_1).f6).length c105_6)).setCell ⟨gb106, 7, none⟩ (.slice A105_7 ((rd_T46 l0 x8_1).f7).length c105_7)).setCell ⟨gb106, 8, none⟩ (.slice A105_8 ((rd_T46 l0 x8_1).f8).length c105_8)).setCell ⟨gb106, 9, none⟩ (.slice A105_9 ((rd_T46 l0 x8_1).f9).length c105_9)).setCell ⟨gb106, 10, none⟩ (.slice A105_10 ((rd_T46 l0 x8_1).f10).length c105_10)).setCell ⟨gb106, 11, none⟩ (.int .u8 ((rd_T46 l0 x8_1).f11))).setCell ⟨gb106, 12, none⟩ (.int .i64 ((rd_T46 l0 x8_1).f12))).setCell ⟨gb106, 13, none⟩ (.int .i64 ((rd_T46 l0 x8_1).f13))) = w15 at n0_ n1_ n2_ ⊢
              have HO_3 := n0_
              have BK106 := n1_
              have HB := n2_
              clear n0_ n1_ n2_
              have n0_ := Aside0.mk (Kd.R_drew HO_3.out)
              have n1_ := Aside0.mk (blk_drew BK106.out)
              have n2_ := Aside0.mk (below_drew1 HB.out)
              clear HO_3
              clear BK106
              clear HB
              have HO_3 := n0_
              have BK106 := n1_
              have HB := n2_
              clear n0_ n1_ n2_
              refine start_ (n := 10) (S := fun w' => w'.cell? ⟨gb106, 0, none⟩ = some (.int .i64 ((rd_T46 l0 x8_1).f0)) ∧ w'.cell? ⟨gb106, 1, none⟩ = some (.int .i64 ((rd_T46 l0 x8_1).f1)) ∧ w'.cell? ⟨gb106, 2, none⟩ = some (.string ((rd_T46 l0 x8_1).f2)) ∧ w'.cell? ⟨gb106, 3, none⟩ = some (.int .i64 ((rd_T46 l0 x8_1).f3)) ∧ w'.cell? ⟨gb106, 4, none⟩ = some (.slice A105_4 ((rd_T46 l0 x8_1).f4).length c105_4) ∧ w'.cell? ⟨gb106, 5, none⟩ = some (.slice A105_5 ((rd_T46 l0 x8_1).f5).length c105_5) ∧ w'.cell? ⟨gb106, 6, none⟩ = some (.slice A105_6 ((rd_T46 l0 x8_1).f6).length c105_6) ∧ w'.cell? ⟨gb106, 7, none⟩ = some (.slice A105_7 ((rd_T46 l0 x8_1).f7).length c105_7) ∧ w'.cell? ⟨gb106, 8, none⟩ = some (.slice A105_8 ((rd_T46 l0 x8_1).f8).length c105_8) ∧ w'.cell? ⟨gb106, 9, none⟩ = some (.slice A105_9 ((rd_T46 l0 x8_1).f9).length c105_9) ∧ w'.cell? ⟨gb106, 10, none⟩ = some (.slice A105_10 ((rd_T46 l0 x8_1).f10).length c105_10) ∧ w'.cell? ⟨gb106, 11, none⟩ = some (.int .u8 ((rd_T46 l0 x8_1).f11)) ∧ w'.cell? ⟨gb106, 12, none⟩ = some (.int .i64 ((rd_T46 l0 x8_1).f12)) ∧ w'.cell? ⟨gb106, 13, none⟩ = some (.int .i64 ((rd_T46 l0 x8_1).f13))) (ds := [7, 9]) #[false, false, false, false, false, false, false, false, false, false] (by kernel_rfl) rfl rfl ⟨(blk_cell BK106.out 0).trans rfl, (blk_cell BK106.out 1).trans rfl, (blk_cell BK106.out 2).trans rfl, (blk_cell BK106.out 3).trans rfl, (blk_cell BK106.out 4).trans rfl, (blk_cell BK106.out 5).trans rfl, (blk_cell BK106.out 6).trans rfl, (blk_cell BK106.out 7).trans rfl, (blk_cell BK106.out 8).trans rfl, (blk_cell BK106.out 9).trans rfl, (blk_cell BK106.out 10).trans rfl, (blk_cell BK106.out 11).trans rfl, (blk_cell BK106.out 12).trans rfl, (blk_cell BK106.out 13).trans rfl⟩ (fun hHeld => ?_); refine with_tabW relayplain_Stmts.tab5 relayplain_Stmts.bits5 (fun HT_ HW_ => ?_)
              generalize w15.drew = w16 at HO_3 BK106 HB hHeld ⊢
              refine pure_ (i := 0) (N := some 12) (v := ?_) (a' := ?_) #[true, false, false, false, false, false, false, false, false, false] rfl rfl (any_of HT_.out (by kernel_rfl)) (fun _ _ _ h => h) (Or.inl ⟨by rfl, ?_⟩) ?_ ?_
              rotate_left
              · intro w'
                go_simp
                with_reducible rfl
              rotate_left
              · simp only [Act.put, List.setIfInBounds_toArray, List.set_cons_zero, List.set_cons_succ, i64_w, i32_w]
                rfl
              refine pure_ (i := 3) (N := some 15) (v := ?_) (a' := ?_) #[true, false, false, true, false, false, false, false, false, false] rfl rfl (any_of HT_.out (by kernel_rfl)) (fun _ _ _ h => h) (Or.inl ⟨by rfl, ?_⟩) ?_ ?_
              rotate_left
              · intro w'
                go_simp
                with_reducible rfl
              rotate_left
              · simp only [Act.put, List.setIfInBounds_toArray, List.set_cons_zero, List.set_cons_succ, i64_w, i32_w]
                rfl
              refine take_ (i := 1) (N := some 13) (v := ?_) (a' := ?_) #[true, true, false, true, false, false, false, false, false, false] rfl rfl (take_ofW HT_.out HW_.out (by kernel_rfl)) (fun _ _ _ h => h) (Or.inl ⟨by rfl, ?_⟩) hHeld ?_ ?_
              rotate_left
              · rintro w' ⟨s0, s1, s2, s3, s4, s5, s6, s7, s8, s9, s10, s11, s12, s13⟩
                go_simp
                with_reducible rfl
              rotate_left
              · simp only [Act.put, List.setIfInBounds_toArray, List.set_cons_zero, List.set_cons_succ, i64_w, i32_w]
                rfl
              refine take_ (i := 4) (N := some 16) (v := ?_) (a' := ?_) #[true, true, false, true, true, false, false, false, false, false] rfl rfl (take_ofW HT_.out HW_.out (by kernel_rfl)) (fun _ _ _ h => h) (Or.inl ⟨by rfl, ?_⟩) hHeld ?_ ?_
              rotate_left
              · rintro w' ⟨s0, s1, s2, s3, s4, s5, s6, s7, s8, s9, s10, s11, s12, s13⟩
                go_simp
                with_reducible rfl
              rotate_left
              · simp only [Act.put, List.setIfInBounds_toArray, List.set_cons_zero, List.set_cons_succ, i64_w, i32_w]
                rfl
              refine one_ (i := 2) (N := some 14) #[true, true, true, true, true, false, false, false, false, false] rfl rfl (one_of HT_.out (by kernel_rfl)) (by decide) (fun K hK => ?_)
              refine goes_ Try.func25 (by kernel_rfl) rfl #[.slice A105_4 ((rd_T46 l0 x8_1).f4).length c105_4] (by rfl) rfl rfl (by (try simp only [List.map_toArray, List.map_cons, List.map_nil]); first | done | rfl | (simp only [List.length_drop, List.length_take]; rfl)) ?_
              with_reducible refine (relayplain_Exprs.calls k1 _ _ ((rd_T46 l0 x8_1).f4) t107 _ ?side1 ?side2 A5.out).mono ?_
              (case side1 => repeat (first | exact (Kd.C_below HR105_4.out HB.out) | (with_reducible refine Kd.C_alloc ?_ _) | (with_reducible refine Kd.C_drewN ?_ _) | (with_reducible refine Kd.C_drew ?_)))
              (case side2 => exact HC105_4.out)
              rintro e w17 ⟨v108, rfl, ho0, hb⟩
              refine ⟨_, rfl, ?_⟩
              have n0_ := Aside0.mk (Kd.R_elder' (by (with_reducible repeat (first | apply Kd.R_alloc | apply Kd.R_drewN | apply Kd.R_drew)); exact HO_3.out) (Kd.R_base ho0) hb)
              have n1_ := Aside0.mk (Kd.R_lower ho0 (below_size (by repeat (first | (with_reducible first | exact HB.out | apply below_alloc | apply pw_below_drewN | apply below_drew1 | refine below_set ?_ GE106.out) | exact HB.out))))
              have n2_ := Aside0.mk (blk_below (g := gb106) (o := .cells #[.int .i64 ((rd_T46 l0 x8_1).f0), .int .i64 ((rd_T46 l0 x8_1).f1), .string ((rd_T46 l0 x8_1).f2), .int .i64 ((rd_T46 l0 x8_1).f3), .slice A105_4 ((rd_T46 l0 x8_1).f4).length c105_4, .slice A105_5 ((rd_T46 l0 x8_1).f5).length c105_5, .slice A105_6 ((rd_T46 l0 x8_1).f6).length c105_6, .slice A105_7 ((rd_T46 l0 x8_1).f7).length c105_7, .slice A105_8 ((rd_T46 l0 x8_1).f8).length c105_8, .slice A105_9 ((rd_T46 l0 x8_1).f9).length c105_9, .slice A105_10 ((rd_T46 l0 x8_1).f10).length c105_10, .int .u8 ((rd_T46 l0 x8_1).f11), .int .i64 ((rd_T46 l0 x8_1).f12), .int .i64 ((rd_T46 l0 x8_1).f13)] 46 (0, 0)) (by (with_reducible repeat (first | refine blk_drewN ?_ _ | refine blk_drew ?_ | refine blk_alloc ?_ _)); exact BK106.out) hb)
              have n3_ := Aside0.mk (below_step (by repeat (first | (with_reducible first | exact HB.out | apply below_alloc | apply pw_below_drewN | apply below_drew1 | refine below_set ?_ GE106.out) | exact HB.out)) hb)
              clear HO_3
              clear BK106
              clear HB
              have HO_3 := n0_
              have HO109 := n1_
              have BK106 := n2_
              have HB := n3_
              clear n0_ n1_ n2_ n3_
              (try clear hb)
              (try clear hb2)
              (try clear hk)
              (try clear hi)
              (try clear ho0)
              refine hK.out _ _ ⟨(blk_cell BK106.out 0).trans rfl, (blk_cell BK106.out 1).trans rfl, (blk_cell BK106.out 2).trans rfl, (blk_cell BK106.out 3).trans rfl, (blk_cell BK106.out 4).trans rfl, (blk_cell BK106.out 5).trans rfl, (blk_cell BK106.out 6).trans rfl, (blk_cell BK106.out 7).trans rfl, (blk_cell BK106.out 8).trans rfl, (blk_cell BK106.out 9).trans rfl, (blk_cell BK106.out 10).trans rfl, (blk_cell BK106.out 11).trans rfl, (blk_cell BK106.out 12).trans rfl, (blk_cell BK106.out 13).trans rfl⟩ (fun hHeld => ?_)
              clear hK K
              refine norm_ (a' := ?_) ?_ ?_
              rotate_left
              · show Act.put _ (some 14) _ = _
                simp only [Act.put, List.setIfInBounds_toArray, List.set_cons_zero, List.set_cons_succ, i64_w, i32_w]
                rfl
              refine pure_ (i := 6) (N := some 18) (v := ?_) (a' := ?_) #[true, true, true, true, true, false, true, false, false, false] rfl rfl (any_of HT_.out (by kernel_rfl)) (fun _ _ _ h => h) (Or.inl ⟨by rfl, ?_⟩) ?_ ?_
              rotate_left
              · intro w'
                go_simp
                with_reducible rfl
              rotate_left
              · simp only [Act.put, List.setIfInBounds_toArray, List.set_cons_zero, List.set_cons_succ, i64_w, i32_w]
                rfl
              refine one_ (i := 5) (N := some 17) #[true, true, true, true, true, true, true, false, false, false] rfl rfl (one_of HT_.out (by kernel_rfl)) (by decide) (fun K hK => ?_)
              refine goes_ Try.func25 (by kernel_rfl) rfl #[.slice A105_6 ((rd_T46 l0 x8_1).f6).length c105_6] (by rfl) rfl rfl (by (try simp only [List.map_toArray, List.map_cons, List.map_nil]); first | done | rfl | (simp only [List.length_drop, List.length_take]; rfl)) ?_
              with_reducible refine (relayplain_Exprs.calls k1 _ _ ((rd_T46 l0 x8_1).f6) t110 _ ?side1 ?side2 A6.out).mono ?_
              (case side1 => repeat (first | exact (Kd.C_below HR105_6.out HB.out) | (with_reducible refine Kd.C_alloc ?_ _) | (with_reducible refine Kd.C_drewN ?_ _) | (with_reducible refine Kd.C_drew ?_)))
              (case side2 => exact HC105_6.out)
              rintro e w18 ⟨v111, rfl, ho0, hb⟩
              refine ⟨_, rfl, ?_⟩
              have n0_ := Aside0.mk (Kd.R_elder' (by (with_reducible repeat (first | apply Kd.R_alloc | apply Kd.R_drewN | apply Kd.R_drew)); exact HO_3.out) (Kd.R_base ho0) hb)
              have n1_ := Aside0.mk (Kd.R_elder' (by (with_reducible repeat (first | apply Kd.R_alloc | apply Kd.R_drewN | apply Kd.R_drew)); exact HO109.out) (Kd.R_base ho0) hb)
              have n2_ := Aside0.mk (Kd.R_lower (Kd.R_new' ho0 (Kd.R_lt (by (with_reducible repeat (first | apply Kd.R_alloc | apply Kd.R_drewN | apply Kd.R_drew)); exact HO109.out))) (below_size (by repeat (first | (with_reducible first | exact HB.out | apply below_alloc | apply pw_below_drewN | apply below_drew1 | refine below_set ?_ GE106.out) | exact HB.out))))
              have n3_ := Aside0.mk (blk_below (g := gb106) (o := .cells #[.int .i64 ((rd_T46 l0 x8_1).f0), .int .i64 ((rd_T46 l0 x8_1).f1), .string ((rd_T46 l0 x8_1).f2), .int .i64 ((rd_T46 l0 x8_1).f3), .slice A105_4 ((rd_T46 l0 x8_1).f4).length c105_4, .slice A105_5 ((rd_T46 l0 x8_1).f5).length c105_5, .slice A105_6 ((rd_T46 l0 x8_1).f6).length c105_6, .slice A105_7 ((rd_T46 l0 x8_1).f7).length c105_7, .slice A105_8 ((rd_T46 l0 x8_1).f8).length c105_8, .slice A105_9 ((rd_T46 l0 x8_1).f9).length c105_9, .slice A105_10 ((rd_T46 l0 x8_1).f10).length c105_10, .int .u8 ((rd_T46 l0 x8_1).f11), .int .i64 ((rd_T46 l0 x8_1).f12), .int .i64 ((rd_T46 l0 x8_1).f13)] 46 (0, 0)) (by (with_reducible repeat (first | refine blk_drewN ?_ _ | refine blk_drew ?_ | refine blk_alloc ?_ _)); exact BK106.out) hb)
              have n4_ := Aside0.mk (below_step (by repeat (first | (with_reducible first | exact HB.out | apply below_alloc | apply pw_below_drewN | apply below_drew1 | refine below_set ?_ GE106.out) | exact HB.out)) hb)
              clear HO_3
              clear HO109
              clear BK106
              clear HB
              have HO_3 := n0_
              have HO109 := n1_
              have HO112 := n2_
              have BK106 := n3_
              have HB := n4_
              clear n0_ n1_ n2_ n3_ n4_
              (try clear hb)
              (try clear hb2)
              (try clear hk)
              (try clear hi)
              (try clear ho0)
              obtain ⟨Ao19, co19, eo19⟩ := Kd.R_slice HO109.out
              (first | subst eo19 | (injection eo19 with f1_ f2_ f3_; have f4_ := f1_.symm; have f5_ := f3_.symm; clear f1_ f2_ f3_; subst f4_; subst f5_))
              obtain ⟨Ao21, co21, eo21⟩ := Kd.R_slice HO112.out
              (first | subst eo21 | (injection eo21 with f1_ f2_ f3_; have f4_ := f1_.symm; have f5_ := f3_.symm; clear f1_ f2_ f3_; subst f4_; subst f5_))
              refine hK.out _ _ ⟨(blk_cell BK106.out 0).trans rfl, (blk_cell BK106.out 1).trans rfl, (blk_cell BK106.out 2).trans rfl, (blk_cell BK106.out 3).trans rfl, (blk_cell BK106.out 4).trans rfl, (blk_cell BK106.out 5).trans rfl, (blk_cell BK106.out 6).trans rfl, (blk_cell BK106.out 7).trans rfl, (blk_cell BK106.out 8).trans rfl, (blk_cell BK106.out 9).trans rfl, (blk_cell BK106.out 10).trans rfl, (blk_cell BK106.out 11).trans rfl, (blk_cell BK106.out 12).trans rfl, (blk_cell BK106.out 13).trans rfl⟩ (fun hHeld => ?_)
              clear hK K
              refine norm_ (a' := ?_) ?_ ?_
              rotate_left
              · show Act.put _ (some 17) _ = _
                simp only [Act.put, List.setIfInBounds_toArray, List.set_cons_zero, List.set_cons_succ, i64_w, i32_w]
                rfl
              refine last_ (i := 7) (N := none) #[true, true, true, true, true, true, true, true, false, false] rfl rfl (one_of HT_.out (by kernel_rfl)) (by decide) (fun K hK => ?_)
              have hs20 : w18.cell? ⟨gb106, 4, none⟩ = some (.slice A105_4 ((rd_T46 l0 x8_1).f4).length c105_4) := (blk_cell BK106.out 4).trans rfl
              have hfs20 := blk_frozen BK106.out 4
              refine skip_ (w1 := ?_) (by rfl) rfl ?_ ?_
              rotate_left
              · go_simp
                rfl
              refine hK.out _ _ ?_
              clear hK K
              refine pure_ (i := 8) (N := some 19) (v := ?_) (a' := ?_) #[true, true, true, true, true, true, true, true, true, false] rfl rfl (any_of HT_.out (by kernel_rfl)) (fun _ _ _ h => h) (Or.inl ⟨by rfl, ?_⟩) ?_ ?_
              rotate_left
              · intro w'
                go_simp
                with_reducible rfl
              rotate_left
              · simp only [Act.put, List.setIfInBounds_toArray, List.set_cons_zero, List.set_cons_succ, i64_w, i32_w]
                rfl
              refine last_ (i := 9) (N := none) #[true, true, true, true, true, true, true, true, true, true] rfl rfl (one_of HT_.out (by kernel_rfl)) (by decide) (fun K hK => ?_)
              have hs22 : w18.cell? ⟨gb106, 6, none⟩ = some (.slice A105_6 ((rd_T46 l0 x8_1).f6).length c105_6) := (blk_cell BK106.out 6).trans rfl
              have hfs22 := blk_frozen BK106.out 6
              refine skip_ (w1 := ?_) (by rfl) rfl ?_ ?_
              rotate_left
              · go_simp
                rfl
              refine hK.out _ _ ?_
              clear hK K
              refine done_ (done_of HT_.out (by kernel_rfl)) ?_
              try go_wp2
              have n0_ : Aside0 (Kd.R k46 46 ((w18.setCell ⟨gb106, 4, none⟩ (.slice Ao19 t107.length co19)).setCell ⟨gb106, 6, none⟩ (.slice Ao21 t110.length co21)) w.heap.size (fun k_ => some k_ ≠ (.slice Ao19 t107.length co19 : Value).ownBlock ∧ some k_ ≠ (.slice Ao21 t110.length co21 : Value).ownBlock ∧ k_ ≠ gb106) u3 x3_1) := ⟨by (with_reducible repeat (first | apply Kd.R_alloc | apply Kd.R_drewN | apply Kd.R_drew)); exact Kd.R_mono (Kd.R_far (p := ⟨gb106, 6, none⟩) (Kd.R_far (p := ⟨gb106, 4, none⟩) (Kd.R_mono HO_3.out (fun k_ hk => (⟨hk, hk.1.1⟩ : _ ∧ k_ ≠ gb106))) (fun _ hk => hk.2) (.slice Ao19 t107.length co19)) (fun _ hk => hk.2) (.slice Ao21 t110.length co21)) (fun _ hk => ⟨hk.1.1.2, ⟨hk.1.2, hk.1.1.1⟩⟩)⟩
              have n1_ : Aside0 (Kd.R k65 65 ((w18.setCell ⟨gb106, 4, none⟩ (.slice Ao19 t107.length co19)).setCell ⟨gb106, 6, none⟩ (.slice Ao21 t110.length co21)) w.heap.size (fun k_ => some k_ ≠ (.slice Ao21 t110.length co21 : Value).ownBlock) (.slice Ao19 t107.length co19) t107) := ⟨by (with_reducible repeat (first | apply Kd.R_alloc | apply Kd.R_drewN | apply Kd.R_drew)); exact Kd.R_mono (Kd.R_far (p := ⟨gb106, 6, none⟩) (Kd.R_far (p := ⟨gb106, 4, none⟩) (Kd.R_types HO109.out BK106.out (by decide)) (fun _ hk => hk.2) (.slice Ao19 t107.length co19)) (fun _ hk => hk.2) (.slice Ao21 t110.length co21)) (fun _ hk => hk.1.2)⟩
              have n2_ : Aside0 (Kd.R k65 65 ((w18.setCell ⟨gb106, 4, none⟩ (.slice Ao19 t107.length co19)).setCell ⟨gb106, 6, none⟩ (.slice Ao21 t110.length co21)) w.heap.size (fun k_ => some k_ ≠ (.slice Ao19 t107.length co19 : Value).ownBlock) (.slice Ao21 t110.length co21) t110) := ⟨by (with_reducible repeat (first | apply Kd.R_alloc | apply Kd.R_drewN | apply Kd.R_drew)); exact Kd.R_mono (Kd.R_far (p := ⟨gb106, 6, none⟩) (Kd.R_far (p := ⟨gb106, 4, none⟩) (Kd.R_types HO112.out BK106.out (by decide)) (fun _ hk => hk.2) (.slice Ao19 t107.length co19)) (fun _ hk => hk.2) (.slice Ao21 t110.length co21)) (fun _ hk => hk.1.2)⟩
              have n3_ : Aside0 (((w18.setCell ⟨gb106, 4, none⟩ (.slice Ao19 t107.length co19)).setCell ⟨gb106, 6, none⟩ (.slice Ao21 t110.length co21)).heap[gb106]? = some (.cells #[.int .i64 ((rd_T46 l0 x8_1).f0), .int .i64 ((rd_T46 l0 x8_1).f1), .string ((rd_T46 l0 x8_1).f2), .int .i64 ((rd_T46 l0 x8_1).f3), .slice Ao19 t107.length co19, .slice A105_5 ((rd_T46 l0 x8_1).f5).length c105_5, .slice Ao21 t110.length co21, .slice A105_7 ((rd_T46 l0 x8_1).f7).length c105_7, .slice A105_8 ((rd_T46 l0 x8_1).f8).length c105_8, .slice A105_9 ((rd_T46 l0 x8_1).f9).length c105_9, .slice A105_10 ((rd_T46 l0 x8_1).f10).length c105_10, .int .u8 ((rd_T46 l0 x8_1).f11), .int .i64 ((rd_T46 l0 x8_1).f12), .int .i64 ((rd_T46 l0 x8_1).f13)] 46 (0, 0))) := ⟨by (with_reducible repeat (first | refine blk_drewN ?_ _ | refine blk_drew ?_ | refine blk_alloc ?_ _)); refine blk_put (cs := #[.int .i64 ((rd_T46 l0 x8_1).f0), .int .i64 ((rd_T46 l0 x8_1).f1), .string ((rd_T46 l0 x8_1).f2), .int .i64 ((rd_T46 l0 x8_1).f3), .slice Ao19 t107.length co19, .slice A105_5 ((rd_T46 l0 x8_1).f5).length c105_5, .slice A105_6 ((rd_T46 l0 x8_1).f6).length c105_6, .slice A105_7 ((rd_T46 l0 x8_1).f7).length c105_7, .slice A105_8 ((rd_T46 l0 x8_1).f8).length c105_8, .slice A105_9 ((rd_T46 l0 x8_1).f9).length c105_9, .slice A105_10 ((rd_T46 l0 x8_1).f10).length c105_10, .int .u8 ((rd_T46 l0 x8_1).f11), .int .i64 ((rd_T46 l0 x8_1).f12), .int .i64 ((rd_T46 l0 x8_1).f13)]) ?_ 6 _ rfl; (with_reducible repeat (first | refine blk_drewN ?_ _ | refine blk_drew ?_ | refine blk_alloc ?_ _)); refine blk_put (cs := #[.int .i64 ((rd_T46 l0 x8_1).f0), .int .i64 ((rd_T46 l0 x8_1).f1), .string ((rd_T46 l0 x8_1).f2), .int .i64 ((rd_T46 l0 x8_1).f3), .slice A105_4 ((rd_T46 l0 x8_1).f4).length c105_4, .slice A105_5 ((rd_T46 l0 x8_1).f5).length c105_5, .slice A105_6 ((rd_T46 l0 x8_1).f6).length c105_6, .slice A105_7 ((rd_T46 l0 x8_1).f7).length c105_7, .slice A105_8 ((rd_T46 l0 x8_1).f8).length c105_8, .slice A105_9 ((rd_T46 l0 x8_1).f9).length c105_9, .slice A105_10 ((rd_T46 l0 x8_1).f10).length c105_10, .int .u8 ((rd_T46 l0 x8_1).f11), .int .i64 ((rd_T46 l0 x8_1).f12), .int .i64 ((rd_T46 l0 x8_1).f13)]) ?_ 4 _ rfl; (with_reducible repeat (first | refine blk_drewN ?_ _ | refine blk_drew ?_ | refine blk_alloc ?_ _)); exact BK106.out⟩
              have n4_ : Aside0 (Below w.heap.size w ((w18.setCell ⟨gb106, 4, none⟩ (.slice Ao19 t107.length co19)).setCell ⟨gb106, 6, none⟩ (.slice Ao21 t110.length co21))) := ⟨by repeat (first | (with_reducible first | exact HB.out | apply below_alloc | apply pw_below_drewN | apply below_drew1 | refine below_set ?_ GE106.out) | exact HB.out)⟩
              (try clear HO_3)
              (try clear HO109)
              (try clear HO112)
              (try clear BK106)
              (try clear HB)
              generalize ((w18.setCell ⟨gb106, 4, none⟩ (.slice Ao19 t107.length co19)).setCell ⟨gb106, 6, none⟩ (.slice Ao21 t110.length co21)) = w23 at n0_ n1_ n2_ n3_ n4_ ⊢
              have HO_3 := n0_
              have HO109 := n1_
              have HO112 := n2_
              have BK106 := n3_
              have HB := n4_
              clear n0_ n1_ n2_ n3_ n4_
              have n0_ := Aside0.mk (Kd.R_drew HO_3.out)
              have n1_ := Aside0.mk (Kd.R_drew HO109.out)
              have n2_ := Aside0.mk (Kd.R_drew HO112.out)
              have n3_ := Aside0.mk (blk_drew BK106.out)
              have n4_ := Aside0.mk (below_drew1 HB.out)
              clear HO_3
              clear HO109
              clear HO112
              clear BK106
              clear HB
              have HO_3 := n0_
              have HO109 := n1_
              have HO112 := n2_
              have BK106 := n3_
              have HB := n4_
              clear n0_ n1_ n2_ n3_ n4_
              refine start_ (n := 15) (S := fun w' => w'.cell? ⟨gb106, 0, none⟩ = some (.int .i64 ((rd_T46 l0 x8_1).f0)) ∧ w'.cell? ⟨gb106, 1, none⟩ = some (.int .i64 ((rd_T46 l0 x8_1).f1)) ∧ w'.cell? ⟨gb106, 2, none⟩ = some (.string ((rd_T46 l0 x8_1).f2)) ∧ w'.cell? ⟨gb106, 3, none⟩ = some (.int .i64 ((rd_T46 l0 x8_1).f3)) ∧ w'.cell? ⟨gb106, 4, none⟩ = some (.slice Ao19 t107.length co19) ∧ w'.cell? ⟨gb106, 5, none⟩ = some (.slice A105_5 ((rd_T46 l0 x8_1).f5).length c105_5) ∧ w'.cell? ⟨gb106, 6, none⟩ = some (.slice Ao21 t110.length co21) ∧ w'.cell? ⟨gb106, 7, none⟩ = some (.slice A105_7 ((rd_T46 l0 x8_1).f7).length c105_7) ∧ w'.cell? ⟨gb106, 8, none⟩ = some (.slice A105_8 ((rd_T46 l0 x8_1).f8).length c105_8) ∧ w'.cell? ⟨gb106, 9, none⟩ = some (.slice A105_9 ((rd_T46 l0 x8_1).f9).length c105_9) ∧ w'.cell? ⟨gb106, 10, none⟩ = some (.slice A105_10 ((rd_T46 l0 x8_1).f10).length c105_10) ∧ w'.cell? ⟨gb106, 11, none⟩ = some (.int .u8 ((rd_T46 l0 x8_1).f11)) ∧ w'.cell? ⟨gb106, 12, none⟩ = some (.int .i64 ((rd_T46 l0 x8_1).f12)) ∧ w'.cell? ⟨gb106, 13, none⟩ = some (.int .i64 ((rd_T46 l0 x8_1).f13))) (ds := [10, 12, 14]) #[false, false, false, false, false, false, false, false, false, false, false, false, false, false, false] (by kernel_rfl) rfl rfl ⟨(blk_cell BK106.out 0).trans rfl, (blk_cell BK106.out 1).trans rfl, (blk_cell BK106.out 2).trans rfl, (blk_cell BK106.out 3).trans rfl, (blk_cell BK106.out 4).trans rfl, (blk_cell BK106.out 5).trans rfl, (blk_cell BK106.out 6).trans rfl, (blk_cell BK106.out 7).trans rfl, (blk_cell BK106.out 8).trans rfl, (blk_cell BK106.out 9).trans rfl, (blk_cell BK106.out 10).trans rfl, (blk_cell BK106.out 11).trans rfl, (blk_cell BK106.out 12).trans rfl, (blk_cell BK106.out 13).trans rfl⟩ (fun hHeld => ?_); refine with_tabW relayplain_Stmts.tab6 relayplain_Stmts.bits6 (fun HT_ HW_ => ?_)
              generalize w23.drew = w24 at HO_3 HO109 HO112 BK106 HB hHeld ⊢
              refine pure_ (i := 0) (N := some 20) (v := ?_) (a' := ?_) #[true, false, false, false, false, false, false, false, false, false, false, false, false, false, false] rfl rfl (any_of HT_.out (by kernel_rfl)) (fun _ _ _ h => h) (Or.inl ⟨by rfl, ?_⟩) ?_ ?_
              rotate_left
              · intro w'
                go_simp
                with_reducible rfl
              rotate_left
              · simp only [Act.put, List.setIfInBounds_toArray, List.set_cons_zero, List.set_cons_succ, i64_w, i32_w]
                rfl
              refine pure_ (i := 3) (N := some 23) (v := ?_) (a' := ?_) #[true, false, false, true, false, false, false, false, false, false, false, false, false, false, false] rfl rfl (any_of HT_.out (by kernel_rfl)) (fun _ _ _ h => h) (Or.inl ⟨by rfl, ?_⟩) ?_ ?_
              rotate_left
              · intro w'
                go_simp
                with_reducible rfl
              rotate_left
              · simp only [Act.put, List.setIfInBounds_toArray, List.set_cons_zero, List.set_cons_succ, i64_w, i32_w]
                rfl
              refine pure_ (i := 6) (N := some 26) (v := ?_) (a' := ?_) #[true, false, false, true, false, false, true, false, false, false, false, false, false, false, false] rfl rfl (any_of HT_.out (by kernel_rfl)) (fun _ _ _ h => h) (Or.inl ⟨by rfl, ?_⟩) ?_ ?_
              rotate_left
              · intro w'
                go_simp
                with_reducible rfl
              rotate_left
              · simp only [Act.put, List.setIfInBounds_toArray, List.set_cons_zero, List.set_cons_succ, i64_w, i32_w]
                rfl
              refine take_ (i := 1) (N := some 21) (v := ?_) (a' := ?_) #[true, true, false, true, false, false, true, false, false, false, false, false, false, false, false] rfl rfl (take_ofW HT_.out HW_.out (by kernel_rfl)) (fun _ _ _ h => h) (Or.inl ⟨by rfl, ?_⟩) hHeld ?_ ?_
              rotate_left
              · rintro w' ⟨s0, s1, s2, s3, s4, s5, s6, s7, s8, s9, s10, s11, s12, s13⟩
                go_simp
                with_reducible rfl
              rotate_left
              · simp only [Act.put, List.setIfInBounds_toArray, List.set_cons_zero, List.set_cons_succ, i64_w, i32_w]
                rfl
              refine take_ (i := 4) (N := some 24) (v := ?_) (a' := ?_) #[true, true, false, true, true, false, true, false, false, false, false, false, false, false, false] rfl rfl (take_ofW HT_.out HW_.out (by kernel_rfl)) (fun _ _ _ h => h) (Or.inl ⟨by rfl, ?_⟩) hHeld ?_ ?_
              rotate_left
              · rintro w' ⟨s0, s1, s2, s3, s4, s5, s6, s7, s8, s9, s10, s11, s12, s13⟩
                go_simp
                with_reducible rfl
              rotate_left
              · simp only [Act.put, List.setIfInBounds_toArray, List.set_cons_zero, List.set_cons_succ, i64_w, i32_w]
                rfl
              refine take_ (i := 7) (N := some 27) (v := ?_) (a' := ?_) #[true, true, false, true, true, false, true, true, false, false, false, false, false, false, false] rfl rfl (take_ofW HT_.out HW_.out (by kernel_rfl)) (fun _ _ _ h => h) (Or.inl ⟨by rfl, ?_⟩) hHeld ?_ ?_
              rotate_left
              · rintro w' ⟨s0, s1, s2, s3, s4, s5, s6, s7, s8, s9, s10, s11, s12, s13⟩
                go_simp
                with_reducible rfl
              rotate_left
              · simp only [Act.put, List.setIfInBounds_toArray, List.set_cons_zero, List.set_cons_succ, i64_w, i32_w]
                rfl
              refine one_ (i := 2) (N := some 22) #[true, true, true, true, true, false, true, true, false, false, false, false, false, false, false] rfl rfl (one_of HT_.out (by kernel_rfl)) (by decide) (fun K hK => ?_)
              refine goes_ Try.func26 (by kernel_rfl) rfl #[.slice A105_5 ((rd_T46 l0 x8_1).f5).length c105_5] (by rfl) rfl rfl (by (try simp only [List.map_toArray, List.map_cons, List.map_nil]); first | done | rfl | (simp only [List.length_drop, List.length_take]; rfl)) ?_
              with_reducible refine (slices_Clone_string_string.calls _ _ ((rd_T46 l0 x8_1).f5) t113 _ ?side1 ?side2 A7.out).mono ?_
              (case side1 => repeat (first | exact (Kd.C_below HR105_5.out HB.out) | (with_reducible refine Kd.C_alloc ?_ _) | (with_reducible refine Kd.C_drewN ?_ _) | (with_reducible refine Kd.C_drew ?_)))
              (case side2 => exact HC105_5.out)
              rintro e w25 ⟨v114, rfl, ho0, hb⟩
              refine ⟨_, rfl, ?_⟩
              have n0_ := Aside0.mk (Kd.R_elder' (by (with_reducible repeat (first | apply Kd.R_alloc | apply Kd.R_drewN | apply Kd.R_drew)); exact HO_3.out) (Kd.R_base ho0) hb)
              have n1_ := Aside0.mk (Kd.R_elder' (by (with_reducible repeat (first | apply Kd.R_alloc | apply Kd.R_drewN | apply Kd.R_drew)); exact HO109.out) (Kd.R_base ho0) hb)
              have n2_ := Aside0.mk (Kd.R_elder' (by (with_reducible repeat (first | apply Kd.R_alloc | apply Kd.R_drewN | apply Kd.R_drew)); exact HO112.out) (Kd.R_base ho0) hb)
              have n3_ := Aside0.mk (Kd.R_lower ho0 (below_size (by repeat (first | (with_reducible first | exact HB.out | apply below_alloc | apply pw_below_drewN | apply below_drew1 | refine below_set ?_ GE106.out) | exact HB.out))))
              have n4_ := Aside0.mk (blk_below (g := gb106) (o := .cells #[.int .i64 ((rd_T46 l0 x8_1).f0), .int .i64 ((rd_T46 l0 x8_1).f1), .string ((rd_T46 l0 x8_1).f2), .int .i64 ((rd_T46 l0 x8_1).f3), .slice Ao19 t107.length co19, .slice A105_5 ((rd_T46 l0 x8_1).f5).length c105_5, .slice Ao21 t110.length co21, .slice A105_7 ((rd_T46 l0 x8_1).f7).length c105_7, .slice A105_8 ((rd_T46 l0 x8_1).f8).length c105_8, .slice A105_9 ((rd_T46 l0 x8_1).f9).length c105_9, .slice A105_10 ((rd_T46 l0 x8_1).f10).length c105_10, .int .u8 ((rd_T46 l0 x8_1).f11), .int .i64 ((rd_T46 l0 x8_1).f12), .int .i64 ((rd_T46 l0 x8_1).f13)] 46 (0, 0)) (by (with_reducible repeat (first | refine blk_drewN ?_ _ | refine blk_drew ?_ | refine blk_alloc ?_ _)); exact BK106.out) hb)
              have n5_ := Aside0.mk (below_step (by repeat (first | (with_reducible first | exact HB.out | apply below_alloc | apply pw_below_drewN | apply below_drew1 | refine below_set ?_ GE106.out) | exact HB.out)) hb)
              clear HO_3
              clear HO109
              clear HO112
              clear BK106
              clear HB
              have HO_3 := n0_
              have HO109 := n1_
              have HO112 := n2_
              have HO115 := n3_
              have BK106 := n4_
              have HB := n5_
              clear n0_ n1_ n2_ n3_ n4_ n5_
              (try clear hb)
              (try clear hb2)
              (try clear hk)
              (try clear hi)
              (try clear ho0)
              refine hK.out _ _ ⟨(blk_cell BK106.out 0).trans rfl, (blk_cell BK106.out 1).trans rfl, (blk_cell BK106.out 2).trans rfl, (blk_cell BK106.out 3).trans rfl, (blk_cell BK106.out 4).trans rfl, (blk_cell BK106.out 5).trans rfl, (blk_cell BK106.out 6).trans rfl, (blk_cell BK106.out 7).trans rfl, (blk_cell BK106.out 8).trans rfl, (blk_cell BK106.out 9).trans rfl, (blk_cell BK106.out 10).trans rfl, (blk_cell BK106.out 11).trans rfl, (blk_cell BK106.out 12).trans rfl, (blk_cell BK106.out 13).trans rfl⟩ (fun hHeld => ?_)
              clear hK K
              refine norm_ (a' := ?_) ?_ ?_
              rotate_left
              · show Act.put _ (some 22) _ = _
                simp only [Act.put, List.setIfInBounds_toArray, List.set_cons_zero, List.set_cons_succ, i64_w, i32_w]
                rfl
              refine pure_ (i := 9) (N := some 29) (v := ?_) (a' := ?_) #[true, true, true, true, true, false, true, true, false, true, false, false, false, false, false] rfl rfl (any_of HT_.out (by kernel_rfl)) (fun _ _ _ h => h) (Or.inl ⟨by rfl, ?_⟩) ?_ ?_
              rotate_left
              · intro w'
                go_simp
                with_reducible rfl
              rotate_left
              · simp only [Act.put, List.setIfInBounds_toArray, List.set_cons_zero, List.set_cons_succ, i64_w, i32_w]
                rfl
              refine one_ (i := 5) (N := some 25) #[true, true, true, true, true, true, true, true, false, true, false, false, false, false, false] rfl rfl (one_of HT_.out (by kernel_rfl)) (by decide) (fun K hK => ?_)
              refine goes_ Try.func26 (by kernel_rfl) rfl #[.slice A105_7 ((rd_T46 l0 x8_1).f7).length c105_7] (by rfl) rfl rfl (by (try simp only [List.map_toArray, List.map_cons, List.map_nil]); first | done | rfl | (simp only [List.length_drop, List.length_take]; rfl)) ?_
              with_reducible refine (slices_Clone_string_string.calls _ _ ((rd_T46 l0 x8_1).f7) t116 _ ?side1 ?side2 A8.out).mono ?_
              (case side1 => repeat (first | exact (Kd.C_below HR105_7.out HB.out) | (with_reducible refine Kd.C_alloc ?_ _) | (with_reducible refine Kd.C_drewN ?_ _) | (with_reducible refine Kd.C_drew ?_)))
              (case side2 => exact HC105_7.out)
              rintro e w26 ⟨v117, rfl, ho0, hb⟩
              refine ⟨_, rfl, ?_⟩
              have n0_ := Aside0.mk (Kd.R_elder' (by (with_reducible repeat (first | apply Kd.R_alloc | apply Kd.R_drewN | apply Kd.R_drew)); exact HO_3.out) (Kd.R_base ho0) hb)
              have n1_ := Aside0.mk (Kd.R_elder' (by (with_reducible repeat (first | apply Kd.R_alloc | apply Kd.R_drewN | apply Kd.R_drew)); exact HO109.out) (Kd.R_base ho0) hb)
              have n2_ := Aside0.mk (Kd.R_elder' (by (with_reducible repeat (first | apply Kd.R_alloc | apply Kd.R_drewN | apply Kd.R_drew)); exact HO112.out) (Kd.R_base ho0) hb)
              have n3_ := Aside0.mk (Kd.R_elder' (by (with_reducible repeat (first | apply Kd.R_alloc | apply Kd.R_drewN | apply Kd.R_drew)); exact HO115.out) (Kd.R_base ho0) hb)
              have n4_ := Aside0.mk (Kd.R_lower (Kd.R_new' ho0 (Kd.R_lt (by (with_reducible repeat (first | apply Kd.R_alloc | apply Kd.R_drewN | apply Kd.R_drew)); exact HO115.out))) (below_size (by repeat (first | (with_reducible first | exact HB.out | apply below_alloc | apply pw_below_drewN | apply below_drew1 | refine below_set ?_ GE106.out) | exact HB.out))))
              have n5_ := Aside0.mk (blk_below (g := gb106) (o := .cells #[.int .i64 ((rd_T46 l0 x8_1).f0), .int .i64 ((rd_T46 l0 x8_1).f1), .string ((rd_T46 l0 x8_1).f2), .int .i64 ((rd_T46 l0 x8_1).f3), .slice Ao19 t107.length co19, .slice A105_5 ((rd_T46 l0 x8_1).f5).length c105_5, .slice Ao21 t110.length co21, .slice A105_7 ((rd_T46 l0 x8_1).f7).length c105_7, .slice A105_8 ((rd_T46 l0 x8_1).f8).length c105_8, .slice A105_9 ((rd_T46 l0 x8_1).f9).length c105_9, .slice A105_10 ((rd_T46 l0 x8_1).f10).length c105_10, .int .u8 ((rd_T46 l0 x8_1).f11), .int .i64 ((rd_T46 l0 x8_1).f12), .int .i64 ((rd_T46 l0 x8_1).f13)] 46 (0, 0)) (by (with_reducible repeat (first | refine blk_drewN ?_ _ | refine blk_drew ?_ | refine blk_alloc ?_ _)); exact BK106.out) hb)
              have n6_ := Aside0.mk (below_step (by repeat (first | (with_reducible first | exact HB.out | apply below_alloc | apply pw_below_drewN | apply below_drew1 | refine below_set ?_ GE106.out) | exact HB.out)) hb)
              clear HO_3
              clear HO109
              clear HO112
              clear HO115
              clear BK106
              clear HB
              have HO_3 := n0_
              have HO109 := n1_
              have HO112 := n2_
              have HO115 := n3_
              have HO118 := n4_
              have BK106 := n5_
              have HB := n6_
              clear n0_ n1_ n2_ n3_ n4_ n5_ n6_
              (try clear hb)
              (try clear hb2)
              (try clear hk)
              (try clear hi)
              (try clear ho0)
              refine hK.out _ _ ⟨(blk_cell BK106.out 0).trans rfl, (blk_cell BK106.out 1).trans rfl, (blk_cell BK106.out 2).trans rfl, (blk_cell BK106.out 3).trans rfl, (blk_cell BK106.out 4).trans rfl, (blk_cell BK106.out 5).trans rfl, (blk_cell BK106.out 6).trans rfl, (blk_cell BK106.out 7).trans rfl, (blk_cell BK106.out 8).trans rfl, (blk_cell BK106.out 9).trans rfl, (blk_cell BK106.out 10).trans rfl, (blk_cell BK106.out 11).trans rfl, (blk_cell BK106.out 12).trans rfl, (blk_cell BK106.out 13).trans rfl⟩ (fun hHeld => ?_)
              clear hK K
              refine norm_ (a' := ?_) ?_ ?_
              rotate_left
              · show Act.put _ (some 25) _ = _
                simp only [Act.put, List.setIfInBounds_toArray, List.set_cons_zero, List.set_cons_succ, i64_w, i32_w]
                rfl
              refine one_ (i := 8) (N := some 28) #[true, true, true, true, true, true, true, true, true, true, false, false, false, false, false] rfl rfl (one_of HT_.out (by kernel_rfl)) (by decide) (fun K hK => ?_)
              refine goes_ Try.func27 (by kernel_rfl) rfl #[.slice A105_8 ((rd_T46 l0 x8_1).f8).length c105_8] (by rfl) rfl rfl (by (try simp only [List.map_toArray, List.map_cons, List.map_nil]); first | done | rfl | (simp only [List.length_drop, List.length_take]; rfl)) ?_
              with_reducible refine (api_Range_27.calls _ _ ((rd_T46 l0 x8_1).f8) t119 _ ?side1 ?side2 A9.out).mono ?_
              (case side1 => repeat (first | exact (Kd.C_below HR105_8.out HB.out) | (with_reducible refine Kd.C_alloc ?_ _) | (with_reducible refine Kd.C_drewN ?_ _) | (with_reducible refine Kd.C_drew ?_)))
              (case side2 => exact HC105_8.out)
              rintro e w27 ⟨v120, rfl, ho0, hb⟩
              refine ⟨_, rfl, ?_⟩
              have n0_ := Aside0.mk (Kd.R_elder' (by (with_reducible repeat (first | apply Kd.R_alloc | apply Kd.R_drewN | apply Kd.R_drew)); exact HO_3.out) (Kd.R_base ho0) hb)
              have n1_ := Aside0.mk (Kd.R_below (by (with_reducible repeat (first | apply Kd.R_alloc | apply Kd.R_drewN | apply Kd.R_drew)); exact HO109.out) hb)
              have n2_ := Aside0.mk (Kd.R_below (by (with_reducible repeat (first | apply Kd.R_alloc | apply Kd.R_drewN | apply Kd.R_drew)); exact HO112.out) hb)
              have n3_ := Aside0.mk (Kd.R_below (by (with_reducible repeat (first | apply Kd.R_alloc | apply Kd.R_drewN | apply Kd.R_drew)); exact HO115.out) hb)
              have n4_ := Aside0.mk (Kd.R_below (by (with_reducible repeat (first | apply Kd.R_alloc | apply Kd.R_drewN | apply Kd.R_drew)); exact HO118.out) hb)
              have n5_ := Aside0.mk (Kd.R_lower ho0 (below_size (by repeat (first | (with_reducible first | exact HB.out | apply below_alloc | apply pw_below_drewN | apply below_drew1 | refine below_set ?_ GE106.out) | exact HB.out))))
              have n6_ := Aside0.mk (blk_below (g := gb106) (o := .cells #[.int .i64 ((rd_T46 l0 x8_1).f0), .int .i64 ((rd_T46 l0 x8_1).f1), .string ((rd_T46 l0 x8_1).f2), .int .i64 ((rd_T46 l0 x8_1).f3), .slice Ao19 t107.length co19, .slice A105_5 ((rd_T46 l0 x8_1).f5).length c105_5, .slice Ao21 t110.length co21, .slice A105_7 ((rd_T46 l0 x8_1).f7).length c105_7, .slice A105_8 ((rd_T46 l0 x8_1).f8).length c105_8, .slice A105_9 ((rd_T46 l0 x8_1).f9).length c105_9, .slice A105_10 ((rd_T46 l0 x8_1).f10).length c105_10, .int .u8 ((rd_T46 l0 x8_1).f11), .int .i64 ((rd_T46 l0 x8_1).f12), .int .i64 ((rd_T46 l0 x8_1).f13)] 46 (0, 0)) (by (with_reducible repeat (first | refine blk_drewN ?_ _ | refine blk_drew ?_ | refine blk_alloc ?_ _)); exact BK106.out) hb)
              have n7_ := Aside0.mk (below_step (by repeat (first | (with_reducible first | exact HB.out | apply below_alloc | apply pw_below_drewN | apply below_drew1 | refine below_set ?_ GE106.out) | exact HB.out)) hb)
              clear HO_3
              clear HO109
              clear HO112
              clear HO115
              clear HO118
              clear BK106
              clear HB
              have HO_3 := n0_
              have HO109 := n1_
              have HO112 := n2_
              have HO115 := n3_
              have HO118 := n4_
              have HO121 := n5_
              have BK106 := n6_
              have HB := n7_
              clear n0_ n1_ n2_ n3_ n4_ n5_ n6_ n7_
              (try clear hb)
              (try clear hb2)
              (try clear hk)
              (try clear hi)
              (try clear ho0)
              obtain ⟨Ao28, co28, eo28⟩ := Kd.R_slice HO115.out
              (first | subst eo28 | (injection eo28 with f1_ f2_ f3_; have f4_ := f1_.symm; have f5_ := f3_.symm; clear f1_ f2_ f3_; subst f4_; subst f5_))
              obtain ⟨Ao30, co30, eo30⟩ := Kd.R_slice HO118.out
              (first | subst eo30 | (injection eo30 with f1_ f2_ f3_; have f4_ := f1_.symm; have f5_ := f3_.symm; clear f1_ f2_ f3_; subst f4_; subst f5_))
              obtain ⟨Ao32, co32, eo32⟩ := Kd.R_slice HO121.out
              (first | subst eo32 | (injection eo32 with f1_ f2_ f3_; have f4_ := f1_.symm; have f5_ := f3_.symm; clear f1_ f2_ f3_; subst f4_; subst f5_))
              refine hK.out _ _ ⟨(blk_cell BK106.out 0).trans rfl, (blk_cell BK106.out 1).trans rfl, (blk_cell BK106.out 2).trans rfl, (blk_cell BK106.out 3).trans rfl, (blk_cell BK106.out 4).trans rfl, (blk_cell BK106.out 5).trans rfl, (blk_cell BK106.out 6).trans rfl, (blk_cell BK106.out 7).trans rfl, (blk_cell BK106.out 8).trans rfl, (blk_cell BK106.out 9).trans rfl, (blk_cell BK106.out 10).trans rfl, (blk_cell BK106.out 11).trans rfl, (blk_cell BK106.out 12).trans rfl, (blk_cell BK106.out 13).trans rfl⟩ (fun hHeld => ?_)
              clear hK K
              refine norm_ (a' := ?_) ?_ ?_
              rotate_left
              · show Act.put _ (some 28) _ = _
                simp only [Act.put, List.setIfInBounds_toArray, List.set_cons_zero, List.set_cons_succ, i64_w, i32_w]
                rfl
              refine last_ (i := 10) (N := none) #[true, true, true, true, true, true, true, true, true, true, true, false, false, false, false] rfl rfl (one_of HT_.out (by kernel_rfl)) (by decide) (fun K hK => ?_)
              have hs29 : w27.cell? ⟨gb106, 5, none⟩ = some (.slice A105_5 ((rd_T46 l0 x8_1).f5).length c105_5) := (blk_cell BK106.out 5).trans rfl
              have hfs29 := blk_frozen BK106.out 5
              refine skip_ (w1 := ?_) (by rfl) rfl ?_ ?_
              rotate_left
              · go_simp
                rfl
              refine hK.out _ _ ?_
              clear hK K
              refine pure_ (i := 11) (N := some 30) (v := ?_) (a' := ?_) #[true, true, true, true, true, true, true, true, true, true, true, true, false, false, false] rfl rfl (any_of HT_.out (by kernel_rfl)) (fun _ _ _ h => h) (Or.inl ⟨by rfl, ?_⟩) ?_ ?_
              rotate_left
              · intro w'
                go_simp
                with_reducible rfl
              rotate_left
              · simp only [Act.put, List.setIfInBounds_toArray, List.set_cons_zero, List.set_cons_succ, i64_w, i32_w]
                rfl
              refine last_ (i := 12) (N := none) #[true, true, true, true, true, true, true, true, true, true, true, true, true, false, false] rfl rfl (one_of HT_.out (by kernel_rfl)) (by decide) (fun K hK => ?_)
              have hs31 : w27.cell? ⟨gb106, 7, none⟩ = some (.slice A105_7 ((rd_T46 l0 x8_1).f7).length c105_7) := (blk_cell BK106.out 7).trans rfl
              have hfs31 := blk_frozen BK106.out 7
              refine skip_ (w1 := ?_) (by rfl) rfl ?_ ?_
              rotate_left
              · go_simp
                rfl
              refine hK.out _ _ ?_
              clear hK K
              refine pure_ (i := 13) (N := some 31) (v := ?_) (a' := ?_) #[true, true, true, true, true, true, true, true, true, true, true, true, true, true, false] rfl rfl (any_of HT_.out (by kernel_rfl)) (fun _ _ _ h => h) (Or.inl ⟨by rfl, ?_⟩) ?_ ?_
              rotate_left
              · intro w'
                go_simp
                with_reducible rfl
              rotate_left
              · simp only [Act.put, List.setIfInBounds_toArray, List.set_cons_zero, List.set_cons_succ, i64_w, i32_w]
                rfl
              refine last_ (i := 14) (N := none) #[true, true, true, true, true, true, true, true, true, true, true, true, true, true, true] rfl rfl (one_of HT_.out (by kernel_rfl)) (by decide) (fun K hK => ?_)
              have hs33 : w27.cell? ⟨gb106, 8, none⟩ = some (.slice A105_8 ((rd_T46 l0 x8_1).f8).length c105_8) := (blk_cell BK106.out 8).trans rfl
              have hfs33 := blk_frozen BK106.out 8
              refine skip_ (w1 := ?_) (by rfl) rfl ?_ ?_
              rotate_left
              · go_simp
                rfl
              refine hK.out _ _ ?_
              clear hK K
              refine done_ (done_of HT_.out (by kernel_rfl)) ?_
              try go_wp2
              have n0_ : Aside0 (Kd.R k46 46 (((w27.setCell ⟨gb106, 5, none⟩ (.slice Ao28 t113.length co28)).setCell ⟨gb106, 7, none⟩ (.slice Ao30 t116.length co30)).setCell ⟨gb106, 8, none⟩ (.slice Ao32 t119.length co32)) w.heap.size (fun k_ => some k_ ≠ (.slice Ao19 t107.length co19 : Value).ownBlock ∧ some k_ ≠ (.slice Ao21 t110.length co21 : Value).ownBlock ∧ some k_ ≠ (.slice Ao28 t113.length co28 : Value).ownBlock ∧ some k_ ≠ (.slice Ao30 t116.length co30 : Value).ownBlock ∧ some k_ ≠ (.slice Ao32 t119.length co32 : Value).ownBlock ∧ k_ ≠ gb106) u3 x3_1) := ⟨by (with_reducible repeat (first | apply Kd.R_alloc | apply Kd.R_drewN | apply Kd.R_drew)); exact Kd.R_mono (Kd.R_far (p := ⟨gb106, 8, none⟩) (Kd.R_far (p := ⟨gb106, 7, none⟩) (Kd.R_far (p := ⟨gb106, 5, none⟩) (Kd.R_mono HO_3.out (fun k_ hk => (⟨hk, hk.1.1.1.2.2⟩ : _ ∧ k_ ≠ gb106))) (fun _ hk => hk.2) (.slice Ao28 t113.length co28)) (fun _ hk => hk.2) (.slice Ao30 t116.length co30)) (fun _ hk => hk.2) (.slice Ao32 t119.length co32)) (fun _ hk => ⟨hk.1.1.1.1.1, ⟨hk.1.1.1.1.2.1, ⟨hk.1.1.1.2, ⟨hk.1.1.2, ⟨hk.1.2, hk.1.1.1.1.2.2⟩⟩⟩⟩⟩)⟩
              have n1_ : Aside0 (Kd.R k65 65 (((w27.setCell ⟨gb106, 5, none⟩ (.slice Ao28 t113.length co28)).setCell ⟨gb106, 7, none⟩ (.slice Ao30 t116.length co30)).setCell ⟨gb106, 8, none⟩ (.slice Ao32 t119.length co32)) w.heap.size (fun k_ => some k_ ≠ (.slice Ao21 t110.length co21 : Value).ownBlock ∧ some k_ ≠ (.slice Ao28 t113.length co28 : Value).ownBlock ∧ some k_ ≠ (.slice Ao30 t116.length co30 : Value).ownBlock) (.slice Ao19 t107.length co19) t107) := ⟨by (with_reducible repeat (first | apply Kd.R_alloc | apply Kd.R_drewN | apply Kd.R_drew)); exact Kd.R_mono (Kd.R_far (p := ⟨gb106, 8, none⟩) (Kd.R_far (p := ⟨gb106, 7, none⟩) (Kd.R_far (p := ⟨gb106, 5, none⟩) (Kd.R_types HO109.out BK106.out (by decide)) (fun _ hk => hk.2) (.slice Ao28 t113.length co28)) (fun _ hk => hk.2) (.slice Ao30 t116.length co30)) (fun _ hk => hk.2) (.slice Ao32 t119.length co32)) (fun _ hk => ⟨hk.1.1.1, ⟨hk.1.1.2, hk.1.2⟩⟩)⟩
              have n2_ : Aside0 (Kd.R k65 65 (((w27.setCell ⟨gb106, 5, none⟩ (.slice Ao28 t113.length co28)).setCell ⟨gb106, 7, none⟩ (.slice Ao30 t116.length co30)).setCell ⟨gb106, 8, none⟩ (.slice Ao32 t119.length co32)) w.heap.size (fun k_ => some k_ ≠ (.slice Ao19 t107.length co19 : Value).ownBlock ∧ some k_ ≠ (.slice Ao28 t113.length co28 : Value).ownBlock ∧ some k_ ≠ (.slice Ao30 t116.length co30 : Value).ownBlock) (.slice Ao21 t110.length co21) t110) := ⟨by (with_reducible repeat (first | apply Kd.R_alloc | apply Kd.R_drewN | apply Kd.R_drew)); exact Kd.R_mono (Kd.R_far (p := ⟨gb106, 8, none⟩) (Kd.R_far (p := ⟨gb106, 7, none⟩) (Kd.R_far (p := ⟨gb106, 5, none⟩) (Kd.R_types HO112.out BK106.out (by decide)) (fun _ hk => hk.2) (.slice Ao28 t113.length co28)) (fun _ hk => hk.2) (.slice Ao30 t116.length co30)) (fun _ hk => hk.2) (.slice Ao32 t119.length co32)) (fun _ hk => ⟨hk.1.1.1, ⟨hk.1.1.2, hk.1.2⟩⟩)⟩
              have n3_ : Aside0 (Kd.R Kd.string 9 (((w27.setCell ⟨gb106, 5, none⟩ (.slice Ao28 t113.length co28)).setCell ⟨gb106, 7, none⟩ (.slice Ao30 t116.length co30)).setCell ⟨gb106, 8, none⟩ (.slice Ao32 t119.length co32)) w.heap.size (fun k_ => some k_ ≠ (.slice Ao30 t116.length co30 : Value).ownBlock) (.slice Ao28 t113.length co28) t113) := ⟨by (with_reducible repeat (first | apply Kd.R_alloc | apply Kd.R_drewN | apply Kd.R_drew)); exact Kd.R_mono (Kd.R_far (p := ⟨gb106, 8, none⟩) (Kd.R_far (p := ⟨gb106, 7, none⟩) (Kd.R_far (p := ⟨gb106, 5, none⟩) (Kd.R_types HO115.out BK106.out (by decide)) (fun _ hk => hk.2) (.slice Ao28 t113.length co28)) (fun _ hk => hk.2) (.slice Ao30 t116.length co30)) (fun _ hk => hk.2) (.slice Ao32 t119.length co32)) (fun _ hk => hk.1.2)⟩
              have n4_ : Aside0 (Kd.R Kd.string 9 (((w27.setCell ⟨gb106, 5, none⟩ (.slice Ao28 t113.length co28)).setCell ⟨gb106, 7, none⟩ (.slice Ao30 t116.length co30)).setCell ⟨gb106, 8, none⟩ (.slice Ao32 t119.length co32)) w.heap.size (fun k_ => some k_ ≠ (.slice Ao28 t113.length co28 : Value).ownBlock) (.slice Ao30 t116.length co30) t116) := ⟨by (with_reducible repeat (first | apply Kd.R_alloc | apply Kd.R_drewN | apply Kd.R_drew)); exact Kd.R_mono (Kd.R_far (p := ⟨gb106, 8, none⟩) (Kd.R_far (p := ⟨gb106, 7, none⟩) (Kd.R_far (p := ⟨gb106, 5, none⟩) (Kd.R_types HO118.out BK106.out (by decide)) (fun _ hk => hk.2) (.slice Ao28 t113.length co28)) (fun _ hk => hk.2) (.slice Ao30 t116.length co30)) (fun _ hk => hk.2) (.slice Ao32 t119.length co32)) (fun _ hk => hk.1.2)⟩
              have n5_ : Aside0 (Kd.R k50 50 (((w27.setCell ⟨gb106, 5, none⟩ (.slice Ao28 t113.length co28)).setCell ⟨gb106, 7, none⟩ (.slice Ao30 t116.length co30)).setCell ⟨gb106, 8, none⟩ (.slice Ao32 t119.length co32)) w.heap.size (fun _ => True) (.slice Ao32 t119.length co32) t119) := ⟨by (with_reducible repeat (first | apply Kd.R_alloc | apply Kd.R_drewN | apply Kd.R_drew)); exact Kd.R_mono (Kd.R_far (p := ⟨gb106, 8, none⟩) (Kd.R_far (p := ⟨gb106, 7, none⟩) (Kd.R_far (p := ⟨gb106, 5, none⟩) (Kd.R_types HO121.out BK106.out (by decide)) (fun _ hk => hk.2) (.slice Ao28 t113.length co28)) (fun _ hk => hk.2) (.slice Ao30 t116.length co30)) (fun _ hk => hk.2) (.slice Ao32 t119.length co32)) (fun _ hk => trivial)⟩
              have n6_ : Aside0 ((((w27.setCell ⟨gb106, 5, none⟩ (.slice Ao28 t113.length co28)).setCell ⟨gb106, 7, none⟩ (.slice Ao30 t116.length co30)).setCell ⟨gb106, 8, none⟩ (.slice Ao32 t119.length co32)).heap[gb106]? = some (.cells #[.int .i64 ((rd_T46 l0 x8_1).f0), .int .i64 ((rd_T46 l0 x8_1).f1), .string ((rd_T46 l0 x8_1).f2), .int .i64 ((rd_T46 l0 x8_1).f3), .slice Ao19 t107.length co19, .slice Ao28 t113.length co28, .slice Ao21 t110.length co21, .slice Ao30 t116.length co30, .slice Ao32 t119.length co32, .slice A105_9 ((rd_T46 l0 x8_1).f9).length c105_9, .slice A105_10 ((rd_T46 l0 x8_1).f10).length c105_10, .int .u8 ((rd_T46 l0 x8_1).f11), .int .i64 ((rd_T46 l0 x8_1).f12), .int .i64 ((rd_T46 l0 x8_1).f13)] 46 (0, 0))) := ⟨by (with_reducible repeat (first | refine blk_drewN ?_ _ | refine blk_drew ?_ | refine blk_alloc ?_ _)); refine blk_put (cs := #[.int .i64 ((rd_T46 l0 x8_1).f0), .int .i64 ((rd_T46 l0 x8_1).f1), .string ((rd_T46 l0 x8_1).f2), .int .i64 ((rd_T46 l0 x8_1).f3), .slice Ao19 t107.length co19, .slice Ao28 t113.length co28, .slice Ao21 t110.length co21, .slice Ao30 t116.length co30, .slice A105_8 ((rd_T46 l0 x8_1).f8).length c105_8, .slice A105_9 ((rd_T46 l0 x8_1).f9).length c105_9, .slice A105_10 ((rd_T46 l0 x8_1).f10).length c105_10, .int .u8 ((rd_T46 l0 x8_1).f11), .int .i64 ((rd_T46 l0 x8_1).f12), .int .i64 ((rd_T46 l0 x8_1).f13)]) ?_ 8 _ rfl; (with_reducible repeat (first | refine blk_drewN ?_ _ | refine blk_drew ?_ | refine blk_alloc ?_ _)); refine blk_put (cs := #[.int .i64 ((rd_T46 l0 x8_1).f0), .int .i64 ((rd_T46 l0 x8_1).f1), .string ((rd_T46 l0 x8_1).f2), .int .i64 ((rd_T46 l0 x8_1).f3), .slice Ao19 t107.length co19, .slice Ao28 t113.length co28, .slice Ao21 t110.length co21, .slice A105_7 ((rd_T46 l0 x8_1).f7).length c105_7, .slice A105_8 ((rd_T46 l0 x8_1).f8).length c105_8, .slice A105_9 ((rd_T46 l0 x8_1).f9).length c105_9, .slice A105_10 ((rd_T46 l0 x8_1).f10).length c105_10, .int .u8 ((rd_T46 l0 x8_1).f11), .int .i64 ((rd_T46 l0 x8_1).f12), .int .i64 ((rd_T46 l0 x8_1).f13)]) ?_ 7 _ rfl; (with_reducible repeat (first | refine blk_drewN ?_ _ | refine blk_drew ?_ | refine blk_alloc ?_ _)); refine blk_put (cs := #[.int .i64 ((rd_T46 l0 x8_1).f0), .int .i64 ((rd_T46 l0 x8_1).f1), .string ((rd_T46 l0 x8_1).f2), .int .i64 ((rd_T46 l0 x8_1).f3), .slice Ao19 t107.length co19, .slice A105_5 ((rd_T46 l0 x8_1).f5).length c105_5, .slice Ao21 t110.length co21, .slice A105_7 ((rd_T46 l0 x8_1).f7).length c105_7, .slice A105_8 ((rd_T46 l0 x8_1).f8).length c105_8, .slice A105_9 ((rd_T46 l0 x8_1).f9).length c105_9, .slice A105_10 ((rd_T46 l0 x8_1).f10).length c105_10, .int .u8 ((rd_T46 l0 x8_1).f11), .int .i64 ((rd_T46 l0 x8_1).f12), .int .i64 ((rd_T46 l0 x8_1).f13)]) ?_ 5 _ rfl; (with_reducible repeat (first | refine blk_drewN ?_ _ | refine blk_drew ?_ | refine blk_alloc ?_ _)); exact BK106.out⟩
              have n7_ : Aside0 (Below w.heap.size w (((w27.setCell ⟨gb106, 5, none⟩ (.slice Ao28 t113.length co28)).setCell ⟨gb106, 7, none⟩ (.slice Ao30 t116.length co30)).setCell ⟨gb106, 8, none⟩ (.slice Ao32 t119.length co32))) := ⟨by repeat (first | (with_reducible first | exact HB.out | apply below_alloc | apply pw_below_drewN | apply below_drew1 | refine below_set ?_ GE106.out) | exact HB.out)⟩
              (try clear HO_3)
              (try clear HO109)
              (try clear HO112)
              (try clear HO115)
              (try clear HO118)
              (try clear HO121)
              (try clear BK106)
              (try clear HB)
              generalize (((w27.setCell ⟨gb106, 5, none⟩ (.slice Ao28 t113.length co28)).setCell ⟨gb106, 7, none⟩ (.slice Ao30 t116.length co30)).setCell ⟨gb106, 8, none⟩ (.slice Ao32 t119.length co32)) = w34 at n0_ n1_ n2_ n3_ n4_ n5_ n6_ n7_ ⊢
              have HO_3 := n0_
              have HO109 := n1_
              have HO112 := n2_
              have HO115 := n3_
              have HO118 := n4_
              have HO121 := n5_
              have BK106 := n6_
              have HB := n7_
              clear n0_ n1_ n2_ n3_ n4_ n5_ n6_ n7_
              have n0_ := Aside0.mk (Kd.R_drew HO_3.out)
              have n1_ := Aside0.mk (Kd.R_drew HO109.out)
              have n2_ := Aside0.mk (Kd.R_drew HO112.out)
              have n3_ := Aside0.mk (Kd.R_drew HO115.out)
              have n4_ := Aside0.mk (Kd.R_drew HO118.out)
              have n5_ := Aside0.mk (Kd.R_drew HO121.out)
              have n6_ := Aside0.mk (blk_drew BK106.out)
              have n7_ := Aside0.mk (below_drew1 HB.out)
              clear HO_3
              clear HO109
              clear HO112
              clear HO115
              clear HO118
              clear HO121
              clear BK106
              clear HB
              have HO_3 := n0_
              have HO109 := n1_
              have HO112 := n2_
              have HO115 := n3_
              have HO118 := n4_
              have HO121 := n5_
              have BK106 := n6_
              have HB := n7_
              clear n0_ n1_ n2_ n3_ n4_ n5_ n6_ n7_
              refine start_ (n := 10) (S := fun w' => w'.cell? ⟨gb106, 0, none⟩ = some (.int .i64 ((rd_T46 l0 x8_1).f0)) ∧ w'.cell? ⟨gb106, 1, none⟩ = some (.int .i64 ((rd_T46 l0 x8_1).f1)) ∧ w'.cell? ⟨gb106, 2, none⟩ = some (.string ((rd_T46 l0 x8_1).f2)) ∧ w'.cell? ⟨gb106, 3, none⟩ = some (.int .i64 ((rd_T46 l0 x8_1).f3)) ∧ w'.cell? ⟨gb106, 4, none⟩ = some (.slice Ao19 t107.length co19) ∧ w'.cell? ⟨gb106, 5, none⟩ = some (.slice Ao28 t113.length co28) ∧ w'.cell? ⟨gb106, 6, none⟩ = some (.slice Ao21 t110.length co21) ∧ w'.cell? ⟨gb106, 7, none⟩ = some (.slice Ao30 t116.length co30) ∧ w'.cell? ⟨gb106, 8, none⟩ = some (.slice Ao32 t119.length co32) ∧ w'.cell? ⟨gb106, 9, none⟩ = some (.slice A105_9 ((rd_T46 l0 x8_1).f9).length c105_9) ∧ w'.cell? ⟨gb106, 10, none⟩ = some (.slice A105_10 ((rd_T46 l0 x8_1).f10).length c105_10) ∧ w'.cell? ⟨gb106, 11, none⟩ = some (.int .u8 ((rd_T46 l0 x8_1).f11)) ∧ w'.cell? ⟨gb106, 12, none⟩ = some (.int .i64 ((rd_T46 l0 x8_1).f12)) ∧ w'.cell? ⟨gb106, 13, none⟩ = some (.int .i64 ((rd_T46 l0 x8_1).f13))) (ds := [7, 9]) #[false, false, false, false, false, false, false, false, false, false] (by kernel_rfl) rfl rfl ⟨(blk_cell BK106.out 0).trans rfl, (blk_cell BK106.out 1).trans rfl, (blk_cell BK106.out 2).trans rfl, (blk_cell BK106.out 3).trans rfl, (blk_cell BK106.out 4).trans rfl, (blk_cell BK106.out 5).trans rfl, (blk_cell BK106.out 6).trans rfl, (blk_cell BK106.out 7).trans rfl, (blk_cell BK106.out 8).trans rfl, (blk_cell BK106.out 9).trans rfl, (blk_cell BK106.out 10).trans rfl, (blk_cell BK106.out 11).trans rfl, (blk_cell BK106.out 12).trans rfl, (blk_cell BK106.out 13).trans rfl⟩ (fun hHeld => ?_); refine with_tabW relayplain_Stmts.tab7 relayplain_Stmts.bits7 (fun HT_ HW_ => ?_)
              generalize w34.drew = w35 at HO_3 HO109 HO112 HO115 HO118 HO121 BK106 HB hHeld ⊢
              refine pure_ (i := 0) (N := some 32) (v := ?_) (a' := ?_) #[true, false, false, false, false, false, false, false, false, false] rfl rfl (any_of HT_.out (by kernel_rfl)) (fun _ _ _ h => h) (Or.inl ⟨by rfl, ?_⟩) ?_ ?_
              rotate_left
              · intro w'
                go_simp
                with_reducible rfl
              rotate_left
              · simp only [Act.put, List.setIfInBounds_toArray, List.set_cons_zero, List.set_cons_succ, i64_w, i32_w]
                rfl
              refine pure_ (i := 3) (N := some 35) (v := ?_) (a' := ?_) #[true, false, false, true, false, false, false, false, false, false] rfl rfl (any_of HT_.out (by kernel_rfl)) (fun _ _ _ h => h) (Or.inl ⟨by rfl, ?_⟩) ?_ ?_
              rotate_left
              · intro w'
                go_simp
                with_reducible rfl
              rotate_left
              · simp only [Act.put, List.setIfInBounds_toArray, List.set_cons_zero, List.set_cons_succ, i64_w, i32_w]
                rfl
              refine take_ (i := 1) (N := some 33) (v := ?_) (a' := ?_) #[true, true, false, true, false, false, false, false, false, false] rfl rfl (take_ofW HT_.out HW_.out (by kernel_rfl)) (fun _ _ _ h => h) (Or.inl ⟨by rfl, ?_⟩) hHeld ?_ ?_
              rotate_left
              · rintro w' ⟨s0, s1, s2, s3, s4, s5, s6, s7, s8, s9, s10, s11, s12, s13⟩
                go_simp
                with_reducible rfl
              rotate_left
              · simp only [Act.put, List.setIfInBounds_toArray, List.set_cons_zero, List.set_cons_succ, i64_w, i32_w]
                rfl
              refine take_ (i := 4) (N := some 36) (v := ?_) (a' := ?_) #[true, true, false, true, true, false, false, false, false, false] rfl rfl (take_ofW HT_.out HW_.out (by kernel_rfl)) (fun _ _ _ h => h) (Or.inl ⟨by rfl, ?_⟩) hHeld ?_ ?_
              rotate_left
              · rintro w' ⟨s0, s1, s2, s3, s4, s5, s6, s7, s8, s9, s10, s11, s12, s13⟩
                go_simp
                with_reducible rfl
              rotate_left
              · simp only [Act.put, List.setIfInBounds_toArray, List.set_cons_zero, List.set_cons_succ, i64_w, i32_w]
                rfl
              refine one_ (i := 2) (N := some 34) #[true, true, true, true, true, false, false, false, false, false] rfl rfl (one_of HT_.out (by kernel_rfl)) (by decide) (fun K hK => ?_)
              refine goes_ Try.func10 (by kernel_rfl) rfl #[.slice A105_9 ((rd_T46 l0 x8_1).f9).length c105_9] (by rfl) rfl rfl (by (try simp only [List.map_toArray, List.map_cons, List.map_nil]); first | done | rfl | (simp only [List.length_drop, List.length_take]; rfl)) ?_
              with_reducible refine (ih k1 (by have := HK1.out; omega) _ _ ((rd_T46 l0 x8_1).f9) t122 _ ?side1 ?side2 A10.out).mono ?_
              (case side1 => repeat (first | exact (Kd.C_below HR105_9.out HB.out) | (with_reducible refine Kd.C_alloc ?_ _) | (with_reducible refine Kd.C_drewN ?_ _) | (with_reducible refine Kd.C_drew ?_)))
              (case side2 => exact HC105_9.out)
              rintro e w36 ⟨v123, rfl, ho0, hb⟩
              refine ⟨_, rfl, ?_⟩
              have n0_ := Aside0.mk (Kd.R_elder' (by (with_reducible repeat (first | apply Kd.R_alloc | apply Kd.R_drewN | apply Kd.R_drew)); exact HO_3.out) (Kd.R_base ho0) hb)
              have n1_ := Aside0.mk (Kd.R_below (by (with_reducible repeat (first | apply Kd.R_alloc | apply Kd.R_drewN | apply Kd.R_drew)); exact HO109.out) hb)
              have n2_ := Aside0.mk (Kd.R_below (by (with_reducible repeat (first | apply Kd.R_alloc | apply Kd.R_drewN | apply Kd.R_drew)); exact HO112.out) hb)
              have n3_ := Aside0.mk (Kd.R_below (by (with_reducible repeat (first | apply Kd.R_alloc | apply Kd.R_drewN | apply Kd.R_drew)); exact HO115.out) hb)
              have n4_ := Aside0.mk (Kd.R_below (by (with_reducible repeat (first | apply Kd.R_alloc | apply Kd.R_drewN | apply Kd.R_drew)); exact HO118.out) hb)
              have n5_ := Aside0.mk (Kd.R_below (by (with_reducible repeat (first | apply Kd.R_alloc | apply Kd.R_drewN | apply Kd.R_drew)); exact HO121.out) hb)
              have n6_ := Aside0.mk (Kd.R_lower (Kd.R_newB (Kd.R_new' (Kd.R_new' (Kd.R_new' (Kd.R_new' (Kd.R_new' (Kd.R_new' ho0 (Kd.R_lt (by (with_reducible repeat (first | apply Kd.R_alloc | apply Kd.R_drewN | apply Kd.R_drew)); exact HO_3.out))) (Kd.R_lt (by (with_reducible repeat (first | apply Kd.R_alloc | apply Kd.R_drewN | apply Kd.R_drew)); exact HO109.out))) (Kd.R_lt (by (with_reducible repeat (first | apply Kd.R_alloc | apply Kd.R_drewN | apply Kd.R_drew)); exact HO112.out))) (Kd.R_lt (by (with_reducible repeat (first | apply Kd.R_alloc | apply Kd.R_drewN | apply Kd.R_drew)); exact HO115.out))) (Kd.R_lt (by (with_reducible repeat (first | apply Kd.R_alloc | apply Kd.R_drewN | apply Kd.R_drew)); exact HO118.out))) (Kd.R_lt (by (with_reducible repeat (first | apply Kd.R_alloc | apply Kd.R_drewN | apply Kd.R_drew)); exact HO121.out))) (g := gb106) (o := .cells #[.int .i64 ((rd_T46 l0 x8_1).f0), .int .i64 ((rd_T46 l0 x8_1).f1), .string ((rd_T46 l0 x8_1).f2), .int .i64 ((rd_T46 l0 x8_1).f3), .slice Ao19 t107.length co19, .slice Ao28 t113.length co28, .slice Ao21 t110.length co21, .slice Ao30 t116.length co30, .slice Ao32 t119.length co32, .slice A105_9 ((rd_T46 l0 x8_1).f9).length c105_9, .slice A105_10 ((rd_T46 l0 x8_1).f10).length c105_10, .int .u8 ((rd_T46 l0 x8_1).f11), .int .i64 ((rd_T46 l0 x8_1).f12), .int .i64 ((rd_T46 l0 x8_1).f13)] 46 (0, 0)) (by (with_reducible repeat (first | refine blk_drewN ?_ _ | refine blk_drew ?_ | refine blk_alloc ?_ _)); exact BK106.out)) (below_size (by repeat (first | (with_reducible first | exact HB.out | apply below_alloc | apply pw_below_drewN | apply below_drew1 | refine below_set ?_ GE106.out) | exact HB.out))))
              have n7_ := Aside0.mk (blk_below (g := gb106) (o := .cells #[.int .i64 ((rd_T46 l0 x8_1).f0), .int .i64 ((rd_T46 l0 x8_1).f1), .string ((rd_T46 l0 x8_1).f2), .int .i64 ((rd_T46 l0 x8_1).f3), .slice Ao19 t107.length co19, .slice Ao28 t113.length co28, .slice Ao21 t110.length co21, .slice Ao30 t116.length co30, .slice Ao32 t119.length co32, .slice A105_9 ((rd_T46 l0 x8_1).f9).length c105_9, .slice A105_10 ((rd_T46 l0 x8_1).f10).length c105_10, .int .u8 ((rd_T46 l0 x8_1).f11), .int .i64 ((rd_T46 l0 x8_1).f12), .int .i64 ((rd_T46 l0 x8_1).f13)] 46 (0, 0)) (by (with_reducible repeat (first | refine blk_drewN ?_ _ | refine blk_drew ?_ | refine blk_alloc ?_ _)); exact BK106.out) hb)
              have n8_ := Aside0.mk (below_step (by repeat (first | (with_reducible first | exact HB.out | apply below_alloc | apply pw_below_drewN | apply below_drew1 | refine below_set ?_ GE106.out) | exact HB.out)) hb)
              clear HO_3
              clear HO109
              clear HO112
              clear HO115
              clear HO118
              clear HO121
              clear BK106
              clear HB
              have HO_3 := n0_
              have HO109 := n1_
              have HO112 := n2_
              have HO115 := n3_
              have HO118 := n4_
              have HO121 := n5_
              have HO124 := n6_
              have BK106 := n7_
              have HB := n8_
              clear n0_ n1_ n2_ n3_ n4_ n5_ n6_ n7_ n8_
              (try clear hb)
              (try clear hb2)
              (try clear hk)
              (try clear hi)
              (try clear ho0)
              refine hK.out _ _ ⟨(blk_cell BK106.out 0).trans rfl, (blk_cell BK106.out 1).trans rfl, (blk_cell BK106.out 2).trans rfl, (blk_cell BK106.out 3).trans rfl, (blk_cell BK106.out 4).trans rfl, (blk_cell BK106.out 5).trans rfl, (blk_cell BK106.out 6).trans rfl, (blk_cell BK106.out 7).trans rfl, (blk_cell BK106.out 8).trans rfl, (blk_cell BK106.out 9).trans rfl, (blk_cell BK106.out 10).trans rfl, (blk_cell BK106.out 11).trans rfl, (blk_cell BK106.out 12).trans rfl, (blk_cell BK106.out 13).trans rfl⟩ (fun hHeld => ?_)
              clear hK K
              refine norm_ (a' := ?_) ?_ ?_
              rotate_left
              · show Act.put _ (some 34) _ = _
                simp only [Act.put, List.setIfInBounds_toArray, List.set_cons_zero, List.set_cons_succ, i64_w, i32_w]
                rfl
              refine pure_ (i := 6) (N := some 38) (v := ?_) (a' := ?_) #[true, true, true, true, true, false, true, false, false, false] rfl rfl (any_of HT_.out (by kernel_rfl)) (fun _ _ _ h => h) (Or.inl ⟨by rfl, ?_⟩) ?_ ?_
              rotate_left
              · intro w'
                go_simp
                with_reducible rfl
              rotate_left
              · simp only [Act.put, List.setIfInBounds_toArray, List.set_cons_zero, List.set_cons_succ, i64_w, i32_w]
                rfl
              refine one_ (i := 5) (N := some 37) #[true, true, true, true, true, true, true, false, false, false] rfl rfl (one_of HT_.out (by kernel_rfl)) (by decide) (fun K hK => ?_)
              refine goes_ Try.func10 (by kernel_rfl) rfl #[.slice A105_10 ((rd_T46 l0 x8_1).f10).length c105_10] (by rfl) rfl rfl (by (try simp only [List.map_toArray, List.map_cons, List.map_nil]); first | done | rfl | (simp only [List.length_drop, List.length_take]; rfl)) ?_
              with_reducible refine (ih k1 (by have := HK1.out; omega) _ _ ((rd_T46 l0 x8_1).f10) t125 _ ?side1 ?side2 A11.out).mono ?_
              (case side1 => repeat (first | exact (Kd.C_below HR105_10.out HB.out) | (with_reducible refine Kd.C_alloc ?_ _) | (with_reducible refine Kd.C_drewN ?_ _) | (with_reducible refine Kd.C_drew ?_)))
              (case side2 => exact HC105_10.out)
              rintro e w37 ⟨v126, rfl, ho0, hb⟩
              refine ⟨_, rfl, ?_⟩
              have n0_ := Aside0.mk (Kd.R_elder' (by (with_reducible repeat (first | apply Kd.R_alloc | apply Kd.R_drewN | apply Kd.R_drew)); exact HO_3.out) (Kd.R_base ho0) hb)
              have n1_ := Aside0.mk (Kd.R_below (by (with_reducible repeat (first | apply Kd.R_alloc | apply Kd.R_drewN | apply Kd.R_drew)); exact HO109.out) hb)
              have n2_ := Aside0.mk (Kd.R_below (by (with_reducible repeat (first | apply Kd.R_alloc | apply Kd.R_drewN | apply Kd.R_drew)); exact HO112.out) hb)
              have n3_ := Aside0.mk (Kd.R_below (by (with_reducible repeat (first | apply Kd.R_alloc | apply Kd.R_drewN | apply Kd.R_drew)); exact HO115.out) hb)
              have n4_ := Aside0.mk (Kd.R_below (by (with_reducible repeat (first | apply Kd.R_alloc | apply Kd.R_drewN | apply Kd.R_drew)); exact HO118.out) hb)
              have n5_ := Aside0.mk (Kd.R_below (by (with_reducible repeat (first | apply Kd.R_alloc | apply Kd.R_drewN | apply Kd.R_drew)); exact HO121.out) hb)
              have n6_ := Aside0.mk (Kd.R_elder' (by (with_reducible repeat (first | apply Kd.R_alloc | apply Kd.R_drewN | apply Kd.R_drew)); exact HO124.out) (Kd.R_base ho0) hb)
              have n7_ := Aside0.mk (Kd.R_lower (Kd.R_newB (Kd.R_new' (Kd.R_new' (Kd.R_new' (Kd.R_new' (Kd.R_new' (Kd.R_new' (Kd.R_new' ho0 (Kd.R_lt (by (with_reducible repeat (first | apply Kd.R_alloc | apply Kd.R_drewN | apply Kd.R_drew)); exact HO_3.out))) (Kd.R_lt (by (with_reducible repeat (first | apply Kd.R_alloc | apply Kd.R_drewN | apply Kd.R_drew)); exact HO109.out))) (Kd.R_lt (by (with_reducible repeat (first | apply Kd.R_alloc | apply Kd.R_drewN | apply Kd.R_drew)); exact HO112.out))) (Kd.R_lt (by (with_reducible repeat (first | apply Kd.R_alloc | apply Kd.R_drewN | apply Kd.R_drew)); exact HO115.out))) (Kd.R_lt (by (with_reducible repeat (first | apply Kd.R_alloc | apply Kd.R_drewN | apply Kd.R_drew)); exact HO118.out))) (Kd.R_lt (by (with_reducible repeat (first | apply Kd.R_alloc | apply Kd.R_drewN | apply Kd.R_drew)); exact HO121.out))) (Kd.R_lt (by (with_reducible repeat (first | apply Kd.R_alloc | apply Kd.R_drewN | apply Kd.R_drew)); exact HO124.out))) (g := gb106) (o := .cells #[.int .i64 ((rd_T46 l0 x8_1).f0), .int .i64 ((rd_T46 l0 x8_1).f1), .string ((rd_T46 l0 x8_1).f2), .int .i64 ((rd_T46 l0 x8_1).f3), .slice Ao19 t107.length co19, .slice Ao28 t113.length co28, .slice Ao21 t110.length co21, .slice Ao30 t116.length co30, .slice Ao32 t119.length co32, .slice A105_9 ((rd_T46 l0 x8_1).f9).length c105_9, .slice A105_10 ((rd_T46 l0 x8_1).f10).length c105_10, .int .u8 ((rd_T46 l0 x8_1).f11), .int .i64 ((rd_T46 l0 x8_1).f12), .int .i64 ((rd_T46 l0 x8_1).f13)] 46 (0, 0)) (by (with_reducible repeat (first | refine blk_drewN ?_ _ | refine blk_drew ?_ | refine blk_alloc ?_ _)); exact BK106.out)) (below_size (by repeat (first | (with_reducible first | exact HB.out | apply below_alloc | apply pw_below_drewN | apply below_drew1 | refine below_set ?_ GE106.out) | exact HB.out))))
              have n8_ := Aside0.mk (blk_below (g := gb106) (o := .cells #[.int .i64 ((rd_T46 l0 x8_1).f0), .int .i64 ((rd_T46 l0 x8_1).f1), .string ((rd_T46 l0 x8_1).f2), .int .i64 ((rd_T46 l0 x8_1).f3), .slice Ao19 t107.length co19, .slice Ao28 t113.length co28, .slice Ao21 t110.length co21, .slice Ao30 t116.length co30, .slice Ao32 t119.length co32, .slice A105_9 ((rd_T46 l0 x8_1).f9).length c105_9, .slice A105_10 ((rd_T46 l0 x8_1).f10).length c105_10, .int .u8 ((rd_T46 l0 x8_1).f11), .int .i64 ((rd_T46 l0 x8_1).f12), .int .i64 ((rd_T46 l0 x8_1).f13)] 46 (0, 0)) (by (with_reducible repeat (first | refine blk_drewN ?_ _ | refine blk_drew ?_ | refine blk_alloc ?_ _)); exact BK106.out) hb)
              have n9_ := Aside0.mk (below_step (by repeat (first | (with_reducible first | exact HB.out | apply below_alloc | apply pw_below_drewN | apply below_drew1 | refine below_set ?_ GE106.out) | exact HB.out)) hb)
              clear HO_3
              clear HO109
              clear HO112
              clear HO115
              clear HO118
              clear HO121
              clear HO124
              clear BK106
              clear HB
              have HO_3 := n0_
              have HO109 := n1_
              have HO112 := n2_
              have HO115 := n3_
              have HO118 := n4_
              have HO121 := n5_
              have HO124 := n6_
              have HO127 := n7_
              have BK106 := n8_
              have HB := n9_
              clear n0_ n1_ n2_ n3_ n4_ n5_ n6_ n7_ n8_ n9_
              (try clear hb)
              (try clear hb2)
              (try clear hk)
              (try clear hi)
              (try clear ho0)
              obtain ⟨Ao38, co38, eo38⟩ := Kd.R_slice HO124.out
              (first | subst eo38 | (injection eo38 with f1_ f2_ f3_; have f4_ := f1_.symm; have f5_ := f3_.symm; clear f1_ f2_ f3_; subst f4_; subst f5_))
              obtain ⟨Ao40, co40, eo40⟩ := Kd.R_slice HO127.out
              (first | subst eo40 | (injection eo40 with f1_ f2_ f3_; have f4_ := f1_.symm; have f5_ := f3_.symm; clear f1_ f2_ f3_; subst f4_; subst f5_))
              refine hK.out _ _ ⟨(blk_cell BK106.out 0).trans rfl, (blk_cell BK106.out 1).trans rfl, (blk_cell BK106.out 2).trans rfl, (blk_cell BK106.out 3).trans rfl, (blk_cell BK106.out 4).trans rfl, (blk_cell BK106.out 5).trans rfl, (blk_cell BK106.out 6).trans rfl, (blk_cell BK106.out 7).trans rfl, (blk_cell BK106.out 8).trans rfl, (blk_cell BK106.out 9).trans rfl, (blk_cell BK106.out 10).trans rfl, (blk_cell BK106.out 11).trans rfl, (blk_cell BK106.out 12).trans rfl, (blk_cell BK106.out 13).trans rfl⟩ (fun hHeld => ?_)
              clear hK K
              refine norm_ (a' := ?_) ?_ ?_
              rotate_left
              · show Act.put _ (some 37) _ = _
                simp only [Act.put, List.setIfInBounds_toArray, List.set_cons_zero, List.set_cons_succ, i64_w, i32_w]
                rfl
              refine last_ (i := 7) (N := none) #[true, true, true, true, true, true, true, true, false, false] rfl rfl (one_of HT_.out (by kernel_rfl)) (by decide) (fun K hK => ?_)
              have hs39 : w37.cell? ⟨gb106, 9, none⟩ = some (.slice A105_9 ((rd_T46 l0 x8_1).f9).length c105_9) := (blk_cell BK106.out 9).trans rfl
              have hfs39 := blk_frozen BK106.out 9
              refine skip_ (w1 := ?_) (by rfl) rfl ?_ ?_
              rotate_left
              · go_simp
                rfl
              refine hK.out _ _ ?_
              clear hK K
              refine pure_ (i := 8) (N := some 39) (v := ?_) (a' := ?_) #[true, true, true, true, true, true, true, true, true, false] rfl rfl (any_of HT_.out (by kernel_rfl)) (fun _ _ _ h => h) (Or.inl ⟨by rfl, ?_⟩) ?_ ?_
              rotate_left
              · intro w'
                go_simp
                with_reducible rfl
              rotate_left
              · simp only [Act.put, List.setIfInBounds_toArray, List.set_cons_zero, List.set_cons_succ, i64_w, i32_w]
                rfl
              refine last_ (i := 9) (N := none) #[true, true, true, true, true, true, true, true, true, true] rfl rfl (one_of HT_.out (by kernel_rfl)) (by decide) (fun K hK => ?_)
              have hs41 : w37.cell? ⟨gb106, 10, none⟩ = some (.slice A105_10 ((rd_T46 l0 x8_1).f10).length c105_10) := (blk_cell BK106.out 10).trans rfl
              have hfs41 := blk_frozen BK106.out 10
              refine skip_ (w1 := ?_) (by rfl) rfl ?_ ?_
              rotate_left
              · go_simp
                rfl
              refine hK.out _ _ ?_
              clear hK K
              refine done_ (done_of HT_.out (by kernel_rfl)) ?_
              have n0_ : Aside0 (Kd.R k46 46 ((w37.setCell ⟨gb106, 9, none⟩ (.slice Ao38 t122.length co38)).setCell ⟨gb106, 10, none⟩ (.slice Ao40 t125.length co40)) w.heap.size (fun k_ => some k_ ≠ (.slice Ao19 t107.length co19 : Value).ownBlock ∧ some k_ ≠ (.slice Ao21 t110.length co21 : Value).ownBlock ∧ some k_ ≠ (.slice Ao28 t113.length co28 : Value).ownBlock ∧ some k_ ≠ (.slice Ao30 t116.length co30 : Value).ownBlock ∧ some k_ ≠ (.slice Ao32 t119.length co32 : Value).ownBlock ∧ some k_ ≠ (.slice Ao38 t122.length co38 : Value).ownBlock ∧ some k_ ≠ (.slice Ao40 t125.length co40 : Value).ownBlock ∧ k_ ≠ gb106) u3 x3_1) := ⟨by (with_reducible repeat (first | apply Kd.R_alloc | apply Kd.R_drewN | apply Kd.R_drew)); exact Kd.R_mono (Kd.R_far (p := ⟨gb106, 10, none⟩) (Kd.R_far (p := ⟨gb106, 9, none⟩) (Kd.R_mono HO_3.out (fun k_ hk => (⟨hk, hk.1.1.2.2.2.2.2⟩ : _ ∧ k_ ≠ gb106))) (fun _ hk => hk.2) (.slice Ao38 t122.length co38)) (fun _ hk => hk.2) (.slice Ao40 t125.length co40)) (fun _ hk => ⟨hk.1.1.1.1, ⟨hk.1.1.1.2.1, ⟨hk.1.1.1.2.2.1, ⟨hk.1.1.1.2.2.2.1, ⟨hk.1.1.1.2.2.2.2.1, ⟨hk.1.1.2, ⟨hk.1.2, hk.1.1.1.2.2.2.2.2⟩⟩⟩⟩⟩⟩⟩)⟩
              have n1_ : Aside0 (Kd.R k65 65 ((w37.setCell ⟨gb106, 9, none⟩ (.slice Ao38 t122.length co38)).setCell ⟨gb106, 10, none⟩ (.slice Ao40 t125.length co40)) w.heap.size (fun k_ => some k_ ≠ (.slice Ao21 t110.length co21 : Value).ownBlock ∧ some k_ ≠ (.slice Ao28 t113.length co28 : Value).ownBlock ∧ some k_ ≠ (.slice Ao30 t116.length co30 : Value).ownBlock) (.slice Ao19 t107.length co19) t107) := ⟨by (with_reducible repeat (first | apply Kd.R_alloc | apply Kd.R_drewN | apply Kd.R_drew)); exact Kd.R_mono (Kd.R_far (p := ⟨gb106, 10, none⟩) (Kd.R_far (p := ⟨gb106, 9, none⟩) (Kd.R_types HO109.out BK106.out (by decide)) (fun _ hk => hk.2) (.slice Ao38 t122.length co38)) (fun _ hk => hk.2) (.slice Ao40 t125.length co40)) (fun _ hk => ⟨hk.1.1, ⟨hk.1.2.1, hk.1.2.2⟩⟩)⟩
              have n2_ : Aside0 (Kd.R k65 65 ((w37.setCell ⟨gb106, 9, none⟩ (.slice Ao38 t122.length co38)).setCell ⟨gb106, 10, none⟩ (.slice Ao40 t125.length co40)) w.heap.size (fun k_ => some k_ ≠ (.slice Ao19 t107.length co19 : Value).ownBlock ∧ some k_ ≠ (.slice Ao28 t113.length co28 : Value).ownBlock ∧ some k_ ≠ (.slice Ao30 t116.length co30 : Value).ownBlock) (.slice Ao21 t110.length co21) t110) := ⟨by (with_reducible repeat (first | apply Kd.R_alloc | apply Kd.R_drewN | apply Kd.R_drew)); exact Kd.R_mono (Kd.R_far (p := ⟨gb106, 10, none⟩) (Kd.R_far (p := ⟨gb106, 9, none⟩) (Kd.R_types HO112.out BK106.out (by decide)) (fun _ hk => hk.2) (.slice Ao38 t122.length co38)) (fun _ hk => hk.2) (.slice Ao40 t125.length co40)) (fun _ hk => ⟨hk.1.1, ⟨hk.1.2.1, hk.1.2.2⟩⟩)⟩
              have n3_ : Aside0 (Kd.R Kd.string 9 ((w37.setCell ⟨gb106, 9, none⟩ (.slice Ao38 t122.length co38)).setCell ⟨gb106, 10, none⟩ (.slice Ao40 t125.length co40)) w.heap.size (fun k_ => some k_ ≠ (.slice Ao30 t116.length co30 : Value).ownBlock) (.slice Ao28 t113.length co28) t113) := ⟨by (with_reducible repeat (first | apply Kd.R_alloc | apply Kd.R_drewN | apply Kd.R_drew)); exact Kd.R_mono (Kd.R_far (p := ⟨gb106, 10, none⟩) (Kd.R_far (p := ⟨gb106, 9, none⟩) (Kd.R_types HO115.out BK106.out (by decide)) (fun _ hk => hk.2) (.slice Ao38 t122.length co38)) (fun _ hk => hk.2) (.slice Ao40 t125.length co40)) (fun _ hk => hk.1)⟩
              have n4_ : Aside0 (Kd.R Kd.string 9 ((w37.setCell ⟨gb106, 9, none⟩ (.slice Ao38 t122.length co38)).setCell ⟨gb106, 10, none⟩ (.slice Ao40 t125.length co40)) w.heap.size (fun k_ => some k_ ≠ (.slice Ao28 t113.length co28 : Value).ownBlock) (.slice Ao30 t116.length co30) t116) := ⟨by (with_reducible repeat (first | apply Kd.R_alloc | apply Kd.R_drewN | apply Kd.R_drew)); exact Kd.R_mono (Kd.R_far (p := ⟨gb106, 10, none⟩) (Kd.R_far (p := ⟨gb106, 9, none⟩) (Kd.R_types HO118.out BK106.out (by decide)) (fun _ hk => hk.2) (.slice Ao38 t122.length co38)) (fun _ hk => hk.2) (.slice Ao40 t125.length co40)) (fun _ hk => hk.1)⟩
              have n5_ : Aside0 (Kd.R k50 50 ((w37.setCell ⟨gb106, 9, none⟩ (.slice Ao38 t122.length co38)).setCell ⟨gb106, 10, none⟩ (.slice Ao40 t125.length co40)) w.heap.size (fun _ => True) (.slice Ao32 t119.length co32) t119) := ⟨by (with_reducible repeat (first | apply Kd.R_alloc | apply Kd.R_drewN | apply Kd.R_drew)); exact Kd.R_mono (Kd.R_far (p := ⟨gb106, 10, none⟩) (Kd.R_far (p := ⟨gb106, 9, none⟩) (Kd.R_types HO121.out BK106.out (by decide)) (fun _ hk => hk.2) (.slice Ao38 t122.length co38)) (fun _ hk => hk.2) (.slice Ao40 t125.length co40)) (fun _ hk => trivial)⟩
              have n6_ : Aside0 (Kd.R k46 46 ((w37.setCell ⟨gb106, 9, none⟩ (.slice Ao38 t122.length co38)).setCell ⟨gb106, 10, none⟩ (.slice Ao40 t125.length co40)) w.heap.size (fun k_ => some k_ ≠ (u3 : Value).ownBlock ∧ some k_ ≠ (.slice Ao19 t107.length co19 : Value).ownBlock ∧ some k_ ≠ (.slice Ao21 t110.length co21 : Value).ownBlock ∧ some k_ ≠ (.slice Ao28 t113.length co28 : Value).ownBlock ∧ some k_ ≠ (.slice Ao30 t116.length co30 : Value).ownBlock ∧ some k_ ≠ (.slice Ao32 t119.length co32 : Value).ownBlock ∧ some k_ ≠ (.slice Ao40 t125.length co40 : Value).ownBlock ∧ k_ ≠ gb106) (.slice Ao38 t122.length co38) t122) := ⟨by (with_reducible repeat (first | apply Kd.R_alloc | apply Kd.R_drewN | apply Kd.R_drew)); exact Kd.R_mono (Kd.R_far (p := ⟨gb106, 10, none⟩) (Kd.R_far (p := ⟨gb106, 9, none⟩) (Kd.R_mono HO124.out (fun k_ hk => (⟨hk, hk.1.2⟩ : _ ∧ k_ ≠ gb106))) (fun _ hk => hk.2) (.slice Ao38 t122.length co38)) (fun _ hk => hk.2) (.slice Ao40 t125.length co40)) (fun _ hk => ⟨hk.1.1.1.1.1.1.1.1.2, ⟨hk.1.1.1.1.1.1.1.2, ⟨hk.1.1.1.1.1.1.2, ⟨hk.1.1.1.1.1.2, ⟨hk.1.1.1.1.2, ⟨hk.1.1.1.2, ⟨hk.1.2, hk.1.1.2⟩⟩⟩⟩⟩⟩⟩)⟩
              have n7_ : Aside0 (Kd.R k46 46 ((w37.setCell ⟨gb106, 9, none⟩ (.slice Ao38 t122.length co38)).setCell ⟨gb106, 10, none⟩ (.slice Ao40 t125.length co40)) w.heap.size (fun k_ => some k_ ≠ (u3 : Value).ownBlock ∧ some k_ ≠ (.slice Ao19 t107.length co19 : Value).ownBlock ∧ some k_ ≠ (.slice Ao21 t110.length co21 : Value).ownBlock ∧ some k_ ≠ (.slice Ao28 t113.length co28 : Value).ownBlock ∧ some k_ ≠ (.slice Ao30 t116.length co30 : Value).ownBlock ∧ some k_ ≠ (.slice Ao32 t119.length co32 : Value).ownBlock ∧ some k_ ≠ (.slice Ao38 t122.length co38 : Value).ownBlock ∧ k_ ≠ gb106) (.slice Ao40 t125.length co40) t125) := ⟨by (with_reducible repeat (first | apply Kd.R_alloc | apply Kd.R_drewN | apply Kd.R_drew)); exact Kd.R_mono (Kd.R_far (p := ⟨gb106, 10, none⟩) (Kd.R_far (p := ⟨gb106, 9, none⟩) (Kd.R_mono HO127.out (fun k_ hk => (⟨hk, hk.2⟩ : _ ∧ k_ ≠ gb106))) (fun _ hk => hk.2) (.slice Ao38 t122.length co38)) (fun _ hk => hk.2) (.slice Ao40 t125.length co40)) (fun _ hk => ⟨hk.1.1.1.1.1.1.1.1.2, ⟨hk.1.1.1.1.1.1.1.2, ⟨hk.1.1.1.1.1.1.2, ⟨hk.1.1.1.1.1.2, ⟨hk.1.1.1.1.2, ⟨hk.1.1.1.2, ⟨hk.1.1.2, hk.1.2⟩⟩⟩⟩⟩⟩⟩)⟩
              have n8_ : Aside0 (((w37.setCell ⟨gb106, 9, none⟩ (.slice Ao38 t122.length co38)).setCell ⟨gb106, 10, none⟩ (.slice Ao40 t125.length co40)).heap[gb106]? = some (.cells #[.int .i64 ((rd_T46 l0 x8_1).f0), .int .i64 ((rd_T46 l0 x8_1).f1), .string ((rd_T46 l0 x8_1).f2), .int .i64 ((rd_T46 l0 x8_1).f3), .slice Ao19 t107.length co19, .slice Ao28 t113.length co28, .slice Ao21 t110.length co21, .slice Ao30 t116.length co30, .slice Ao32 t119.length co32, .slice Ao38 t122.length co38, .slice Ao40 t125.length co40, .int .u8 ((rd_T46 l0 x8_1).f11), .int .i64 ((rd_T46 l0 x8_1).f12), .int .i64 ((rd_T46 l0 x8_1).f13)] 46 (0, 0))) := ⟨by (with_reducible repeat (first | refine blk_drewN ?_ _ | refine blk_drew ?_ | refine blk_alloc ?_ _)); refine blk_put (cs := #[.int .i64 ((rd_T46 l0 x8_1).f0), .int .i64 ((rd_T46 l0 x8_1).f1), .string ((rd_T46 l0 x8_1).f2), .int .i64 ((rd_T46 l0 x8_1).f3), .slice Ao19 t107.length co19, .slice Ao28 t113.length co28, .slice Ao21 t110.length co21, .slice Ao30 t116.length co30, .slice Ao32 t119.length co32, .slice Ao38 t122.length co38, .slice A105_10 ((rd_T46 l0 x8_1).f10).length c105_10, .int .u8 ((rd_T46 l0 x8_1).f11), .int .i64 ((rd_T46 l0 x8_1).f12), .int .i64 ((rd_T46 l0 x8_1).f13)]) ?_ 10 _ rfl; (with_reducible repeat (first | refine blk_drewN ?_ _ | refine blk_drew ?_ | refine blk_alloc ?_ _)); refine blk_put (cs := #[.int .i64 ((rd_T46 l0 x8_1).f0), .int .i64 ((rd_T46 l0 x8_1).f1), .string ((rd_T46 l0 x8_1).f2), .int .i64 ((rd_T46 l0 x8_1).f3), .slice Ao19 t107.length co19, .slice Ao28 t113.length co28, .slice Ao21 t110.length co21, .slice Ao30 t116.length co30, .slice Ao32 t119.length co32, .slice A105_9 ((rd_T46 l0 x8_1).f9).length c105_9, .slice A105_10 ((rd_T46 l0 x8_1).f10).length c105_10, .int .u8 ((rd_T46 l0 x8_1).f11), .int .i64 ((rd_T46 l0 x8_1).f12), .int .i64 ((rd_T46 l0 x8_1).f13)]) ?_ 9 _ rfl; (with_reducible repeat (first | refine blk_drewN ?_ _ | refine blk_drew ?_ | refine blk_alloc ?_ _)); exact BK106.out⟩
              have n9_ : Aside0 (Below w.heap.size w ((w37.setCell ⟨gb106, 9, none⟩ (.slice Ao38 t122.length co38)).setCell ⟨gb106, 10, none⟩ (.slice Ao40 t125.length co40))) := ⟨by repeat (first | (with_reducible first | exact HB.out | apply below_alloc | apply pw_below_drewN | apply below_drew1 | refine below_set ?_ GE106.out) | exact HB.out)⟩
              (try clear HO_3)
              (try clear HO109)
              (try clear HO112)
              (try clear HO115)
              (try clear HO118)
              (try clear HO121)
              (try clear HO124)
              (try clear HO127)
              (try clear BK106)
              (try clear HB)
              generalize ((w37.setCell ⟨gb106, 9, none⟩ (.slice Ao38 t122.length co38)).setCell ⟨gb106, 10, none⟩ (.slice Ao40 t125.length co40)) = w42 at n0_ n1_ n2_ n3_ n4_ n5_ n6_ n7_ n8_ n9_ ⊢
              have HO_3 := n0_
              have HO109 := n1_
              have HO112 := n2_
              have HO115 := n3_
              have HO118 := n4_
              have HO121 := n5_
              have HO124 := n6_
              have HO127 := n7_
              have BK106 := n8_
              have HB := n9_
              clear n0_ n1_ n2_ n3_ n4_ n5_ n6_ n7_ n8_ n9_
              have hcz43_0 : w42.cell? ⟨gb106, 0, none⟩ = some (.int .i64 ((rd_T46 l0 x8_1).f0)) := (blk_cell BK106.out 0).trans rfl
              have hcz43_1 : w42.cell? ⟨gb106, 1, none⟩ = some (.int .i64 ((rd_T46 l0 x8_1).f1)) := (blk_cell BK106.out 1).trans rfl
              have hcz43_2 : w42.cell? ⟨gb106, 2, none⟩ = some (.string ((rd_T46 l0 x8_1).f2)) := (blk_cell BK106.out 2).trans rfl
              have hcz43_3 : w42.cell? ⟨gb106, 3, none⟩ = some (.int .i64 ((rd_T46 l0 x8_1).f3)) := (blk_cell BK106.out 3).trans rfl
              have hcz43_4 : w42.cell? ⟨gb106, 4, none⟩ = some (.slice Ao19 t107.length co19) := (blk_cell BK106.out 4).trans rfl
              have hcz43_5 : w42.cell? ⟨gb106, 5, none⟩ = some (.slice Ao28 t113.length co28) := (blk_cell BK106.out 5).trans rfl
              have hcz43_6 : w42.cell? ⟨gb106, 6, none⟩ = some (.slice Ao21 t110.length co21) := (blk_cell BK106.out 6).trans rfl
              have hcz43_7 : w42.cell? ⟨gb106, 7, none⟩ = some (.slice Ao30 t116.length co30) := (blk_cell BK106.out 7).trans rfl
              have hcz43_8 : w42.cell? ⟨gb106, 8, none⟩ = some (.slice Ao32 t119.length co32) := (blk_cell BK106.out 8).trans rfl
              have hcz43_9 : w42.cell? ⟨gb106, 9, none⟩ = some (.slice Ao38 t122.length co38) := (blk_cell BK106.out 9).trans rfl
              have hcz43_10 : w42.cell? ⟨gb106, 10, none⟩ = some (.slice Ao40 t125.length co40) := (blk_cell BK106.out 10).trans rfl
              have hcz43_11 : w42.cell? ⟨gb106, 11, none⟩ = some (.int .u8 ((rd_T46 l0 x8_1).f11)) := (blk_cell BK106.out 11).trans rfl
              have hcz43_12 : w42.cell? ⟨gb106, 12, none⟩ = some (.int .i64 ((rd_T46 l0 x8_1).f12)) := (blk_cell BK106.out 12).trans rfl
              have hcz43_13 : w42.cell? ⟨gb106, 13, none⟩ = some (.int .i64 ((rd_T46 l0 x8_1).f13)) := (blk_cell BK106.out 13).trans rfl
              have hfz43_0 := blk_frozen BK106.out 0
              have hfz43_1 := blk_frozen BK106.out 1
              have hfz43_2 := blk_frozen BK106.out 2
              have hfz43_3 := blk_frozen BK106.out 3
              have hfz43_4 := blk_frozen BK106.out 4
              have hfz43_5 := blk_frozen BK106.out 5
              have hfz43_6 := blk_frozen BK106.out 6
              have hfz43_7 := blk_frozen BK106.out 7
              have hfz43_8 := blk_frozen BK106.out 8
              have hfz43_9 := blk_frozen BK106.out 9
              have hfz43_10 := blk_frozen BK106.out 10
              have hfz43_11 := blk_frozen BK106.out 11
              have hfz43_12 := blk_frozen BK106.out 12
              have hfz43_13 := blk_frozen BK106.out 13
              try go_wp2_with (first | ((with_reducible refine gate_builtin (b := .append) (xs := #[.tmp 40, .tmp 42]) rfl ?_); at_builtin; refine Kd.R_append k46 (w0 := w) w.heap.size rfl (.tmp 40) (.tmp 42) 27 46 (.agg #[(.int .i64 0), (.int .i64 0), (.string ⟨#[]⟩), (.int .i64 0), (.slice none 0 0), (.slice none 0 0), (.slice none 0 0), (.slice none 0 0), (.slice none 0 0), (.slice none 0 0), (.slice none 0 0), (.int .u8 0), (.int .i64 0), (.int .i64 0)]) 232 rfl Try.underlying27 info46 rfl (by decide) (by omega) u3 x3_1 (⟨(rd_T46 l0 x8_1).f0, (rd_T46 l0 x8_1).f1, (rd_T46 l0 x8_1).f2, (rd_T46 l0 x8_1).f3, t107, t113, t110, t116, t119, t122, t125, (rd_T46 l0 x8_1).f11, (rd_T46 l0 x8_1).f12, (rd_T46 l0 x8_1).f13⟩ : S46) [.int .i64 ((rd_T46 l0 x8_1).f0), .int .i64 ((rd_T46 l0 x8_1).f1), .string ((rd_T46 l0 x8_1).f2), .int .i64 ((rd_T46 l0 x8_1).f3), .slice Ao19 t107.length co19, .slice Ao28 t113.length co28, .slice Ao21 t110.length co21, .slice Ao30 t116.length co30, .slice Ao32 t119.length co32, .slice Ao38 t122.length co38, .slice Ao40 t125.length co40, .int .u8 ((rd_T46 l0 x8_1).f11), .int .i64 ((rd_T46 l0 x8_1).f12), .int .i64 ((rd_T46 l0 x8_1).f13)] (fun k_ => k_ ≠ gb106) (fun k_ => ((fun k_ => k_ ≠ gb106)) k_ ∧ some k_ ≠ (u3 : Value).ownBlock) rfl rfl ?aP (fun _ hk => hk) ?aF ?aO ?aB ?aS ?aL ?_; (case aP => exact k46_mkM _ _ _ (⟨(rd_T46 l0 x8_1).f0, (rd_T46 l0 x8_1).f1, (rd_T46 l0 x8_1).f2, (rd_T46 l0 x8_1).f3, t107, t113, t110, t116, t119, t122, t125, (rd_T46 l0 x8_1).f11, (rd_T46 l0 x8_1).f12, (rd_T46 l0 x8_1).f13⟩ : S46) (Kd.R_mono (Kd.R_types (Kd.R_apart' (HO109.out) (Kd.R_typed HO_3.out) (by decide)) BK106.out (by decide)) (fun k_ hk => ⟨hk.2, hk.1.2⟩)) (Kd.R_mono (Kd.R_types (Kd.R_apart' (HO115.out) (Kd.R_typed HO_3.out) (by decide)) BK106.out (by decide)) (fun k_ hk => ⟨hk.2, hk.1.2⟩)) (Kd.R_mono (Kd.R_types (Kd.R_apart' (HO112.out) (Kd.R_typed HO_3.out) (by decide)) BK106.out (by decide)) (fun k_ hk => ⟨hk.2, hk.1.2⟩)) (Kd.R_mono (Kd.R_types (Kd.R_apart' (HO118.out) (Kd.R_typed HO_3.out) (by decide)) BK106.out (by decide)) (fun k_ hk => ⟨hk.2, hk.1.2⟩)) (Kd.R_mono (Kd.R_types (Kd.R_apart' (HO121.out) (Kd.R_typed HO_3.out) (by decide)) BK106.out (by decide)) (fun k_ hk => ⟨hk.2, hk.1.2⟩)) (Kd.R_mono (HO124.out) (fun k_ hk => ⟨hk.2.2.2.2.2.2.2, hk.1⟩)) (Kd.R_mono (HO127.out) (fun k_ hk => ⟨hk.2.2.2.2.2.2.2, hk.1⟩))); (case aB => exact (by repeat (first | (with_reducible first | exact HB.out | apply below_alloc | apply pw_below_drewN | apply below_drew1 | refine below_set ?_ GE106.out) | exact HB.out))); (case aF => exact (fun k_ hk => Kd.freshB (g := gb106) (o := .cells #[.int .i64 ((rd_T46 l0 x8_1).f0), .int .i64 ((rd_T46 l0 x8_1).f1), .string ((rd_T46 l0 x8_1).f2), .int .i64 ((rd_T46 l0 x8_1).f3), .slice Ao19 t107.length co19, .slice Ao28 t113.length co28, .slice Ao21 t110.length co21, .slice Ao30 t116.length co30, .slice Ao32 t119.length co32, .slice Ao38 t122.length co38, .slice Ao40 t125.length co40, .int .u8 ((rd_T46 l0 x8_1).f11), .int .i64 ((rd_T46 l0 x8_1).f12), .int .i64 ((rd_T46 l0 x8_1).f13)] 46 (0, 0)) (by (with_reducible repeat (first | refine blk_drewN ?_ _ | refine blk_drew ?_ | refine blk_alloc ?_ _)); exact BK106.out) k_ hk)); (case aO => exact (by (with_reducible repeat (first | apply Kd.R_alloc | apply Kd.R_drewN | apply Kd.R_drew)); exact Kd.R_mono HO_3.out (fun _ hk => hk.2.2.2.2.2.2.2))); (case aS => exact (below_size (by repeat (first | (with_reducible first | exact HB.out | apply below_alloc | apply pw_below_drewN | apply below_drew1 | refine below_set ?_ GE106.out) | exact HB.out)))); (case aL => have := LMc12.out; omega); intro v129 w44 ho hb hg hat; rw [← Ny128.out] at ho; have n0_ := Aside0.mk (blk_grown (g := gb106) (o := .cells #[.int .i64 ((rd_T46 l0 x8_1).f0), .int .i64 ((rd_T46 l0 x8_1).f1), .string ((rd_T46 l0 x8_1).f2), .int .i64 ((rd_T46 l0 x8_1).f3), .slice Ao19 t107.length co19, .slice Ao28 t113.length co28, .slice Ao21 t110.length co21, .slice Ao30 t116.length co30, .slice Ao32 t119.length co32, .slice Ao38 t122.length co38, .slice Ao40 t125.length co40, .int .u8 ((rd_T46 l0 x8_1).f11), .int .i64 ((rd_T46 l0 x8_1).f12), .int .i64 ((rd_T46 l0 x8_1).f13)] 46 (0, 0)) (by (with_reducible repeat (first | refine blk_drewN ?_ _ | refine blk_drew ?_ | refine blk_alloc ?_ _)); exact BK106.out) hg (Kd.R_away HO_3.out (fun _ hk => hk.2.2.2.2.2.2.2))); have n1_ := Aside0.mk (hb); have n2_ := Aside0.mk (ho); clear BK106; clear HB; clear HO_3; clear HO109; clear HO112; clear HO115; clear HO118; clear HO121; clear HO124; clear HO127; have BK106 := n0_; have HB := n1_; have HO130 := n2_; clear n0_ n1_ n2_; clear ho hb hg hat))
              go_roundg k1
              case measure => have := HK1.out; omega
              case rel => exact ⟨(y128), (wrap64 (x8_1 + 1)), (by first | rfl | (simp; done) | (simp [*]; done) | (simp [*, bne]; done)), H', ⟨by have := HK1.out; omega⟩, ⟨by (with_reducible repeat (first | apply Kd.R_alloc | apply Kd.R_drewN | apply Kd.R_drew)); exact Kd.R_mono HO130.out (fun _ hk => trivial)⟩, ⟨by repeat (first | (with_reducible first | exact HB.out | apply below_alloc | apply pw_below_drewN | apply below_drew1 | refine below_set ?_ GE106.out) | exact HB.out)⟩⟩
            · rw [if_neg c12] at H
              exact absurd H (by simp)
          · rw [if_neg c4] at H
            exact absurd H (by simp)
        · rw [if_neg c3] at H
          exact absurd H (by simp)
      · rw [if_neg c2] at H
        have c2b0 : decide (x8_1 < (l0.length : Int)) = false := decide_eq_false c2
        clear c2
        obtain rfl := Option.some.inj H
        go_wp2
        go_ret
        exact ⟨_, by first | rfl | (simp [errW_none, errW_some] <;> rfl) | (simp [*, errW_none, errW_some] <;> rfl), by (with_reducible repeat (first | apply Kd.R_alloc | apply Kd.R_drewN | apply Kd.R_drew)); exact HO_3.out, by repeat (first | (with_reducible first | exact HB.out | apply below_alloc | apply pw_below_drewN | apply below_drew1) | exact HB.out)⟩

end Go.Proofs.Ytmdkbhbconnmmaa.XSame
