-- WRITTEN BY wip/tools/xprint.py out of the translation: the kit's print with this work's hooks.
import Derived.Test.YtmdkbhbconnmmaaXSamex0
import Derived.Test.YtmdkbhbconnmmaaXSamex2
import Derived.Test.YtmdkbhbconnmmaaXSamex8
import Derived.Test.YtmdkbhbconnmmaaXSamex9
import Derived.Test.YtmdkbhbconnmmaaXSamex10
namespace Go.Proofs.Ytmdkbhbconnmmaa.XSame
open Go.RowKit Go.Proofs.YtmdkbhbconnmmaaW.PrintWords Go.Proofs.YtmdkbhbconnmmaaW.PrintLast Go.Proofs.YtmdkbhbconnmmaaW.PrintMore
attribute [local go_sem] max2_int min2_int max_two min_two max_three min_three max_four min_four   -- for this text's walks alone
set_option linter.unusedVariables false
set_option linter.unusedSimpArgs false

theorem wantedN_ {o : Oper} {y : Nat → Option Bool} (h : o.guard = none) : Region.wanted o y = true := by
  unfold Region.wanted
  rw [h]
/-- As skip_, for an operation without a guard. -/
theorem skipN_ {P : Program} {ops : Array Oper} {Q : Exit → Act → World → Prop} {oi : Oper} {a : Act} {w w1 : World} {K : Act → World → Prop} (hg : oi.guard = none) (hN : oi.dst = none) (hrun : (execOp a.eval oi).run P w = .ok .skip w1)
    (h : K a w1) : if Region.wanted oi (yielded ops a.tmps) = true then Oper.wp P oi a w K Q else K (a.put none undef) w := skip_ (wantedN_ hg) hN hrun h
/-! ### relayref05_Same: function 11 -/
mutual
def relayref05_Same.l0 : Nat → List (S46) → List (S46) → Int → Int → Option (Bool)
  | 0, _, _, _, _ => none
  | k + 1, x0, x1, x14, x15 => if x15 < x14 then (if 0 ≤ x15 then (if x15 < (x0.length : Int) then (if x15 < (x1.length : Int) then (if ((rd_T46 x0 x15).f0) = ((rd_T46 x1 x15).f0) then (if ((rd_T46 x0 x15).f2).toList = ((rd_T46 x1 x15).f2).toList then (if ((rd_T46 x0 x15).f0) = 5 then ((relayref05_sameExprs.f k ((rd_T46 x0 x15).f4) ((rd_T46 x1 x15).f4)).bind fun t139 => (if t139 = true then ((relayref05_sameTexts.f k ((rd_T46 x0 x15).f5) ((rd_T46 x1 x15).f5)).bind fun t140 => (relayref05_Same.j1 k x0 x1 x14 x15 (!t140) ((rd_T46 x0 x15).f0) ((rd_T46 x0 x15).f1) ((rd_T46 x0 x15).f2) ((rd_T46 x0 x15).f3) ((rd_T46 x0 x15).f4) ((rd_T46 x0 x15).f5) ((rd_T46 x0 x15).f6) ((rd_T46 x0 x15).f7) ((rd_T46 x0 x15).f8) ((rd_T46 x0 x15).f9) ((rd_T46 x0 x15).f10) ((rd_T46 x0 x15).f11) ((rd_T46 x0 x15).f12) ((rd_T46 x0 x15).f13) ((rd_T46 x1 x15).f0) ((rd_T46 x1 x15).f1) ((rd_T46 x1 x15).f2) ((rd_T46 x1 x15).f3) ((rd_T46 x1 x15).f4) ((rd_T46 x1 x15).f5) ((rd_T46 x1 x15).f6) ((rd_T46 x1 x15).f7) ((rd_T46 x1 x15).f8) ((rd_T46 x1 x15).f9) ((rd_T46 x1 x15).f10) ((rd_T46 x1 x15).f11) ((rd_T46 x1 x15).f12) ((rd_T46 x1 x15).f13))) else (relayref05_Same.j1 k x0 x1 x14 x15 true ((rd_T46 x0 x15).f0) ((rd_T46 x0 x15).f1) ((rd_T46 x0 x15).f2) ((rd_T46 x0 x15).f3) ((rd_T46 x0 x15).f4) ((rd_T46 x0 x15).f5) ((rd_T46 x0 x15).f6) ((rd_T46 x0 x15).f7) ((rd_T46 x0 x15).f8) ((rd_T46 x0 x15).f9) ((rd_T46 x0 x15).f10) ((rd_T46 x0 x15).f11) ((rd_T46 x0 x15).f12) ((rd_T46 x0 x15).f13) ((rd_T46 x1 x15).f0) ((rd_T46 x1 x15).f1) ((rd_T46 x1 x15).f2) ((rd_T46 x1 x15).f3) ((rd_T46 x1 x15).f4) ((rd_T46 x1 x15).f5) ((rd_T46 x1 x15).f6) ((rd_T46 x1 x15).f7) ((rd_T46 x1 x15).f8) ((rd_T46 x1 x15).f9) ((rd_T46 x1 x15).f10) ((rd_T46 x1 x15).f11) ((rd_T46 x1 x15).f12) ((rd_T46 x1 x15).f13)))) else (if ((rd_T46 x0 x15).f3) = ((rd_T46 x1 x15).f3) then ((relayref05_sameExprs.f k ((rd_T46 x0 x15).f4) ((rd_T46 x1 x15).f4)).bind fun t141 => (if t141 = true then ((relayref05_sameTexts.f k ((rd_T46 x0 x15).f5) ((rd_T46 x1 x15).f5)).bind fun t142 => (relayref05_Same.j1 k x0 x1 x14 x15 (!t142) ((rd_T46 x0 x15).f0) ((rd_T46 x0 x15).f1) ((rd_T46 x0 x15).f2) ((rd_T46 x0 x15).f3) ((rd_T46 x0 x15).f4) ((rd_T46 x0 x15).f5) ((rd_T46 x0 x15).f6) ((rd_T46 x0 x15).f7) ((rd_T46 x0 x15).f8) ((rd_T46 x0 x15).f9) ((rd_T46 x0 x15).f10) ((rd_T46 x0 x15).f11) ((rd_T46 x0 x15).f12) ((rd_T46 x0 x15).f13) ((rd_T46 x1 x15).f0) ((rd_T46 x1 x15).f1) ((rd_T46 x1 x15).f2) ((rd_T46 x1 x15).f3) ((rd_T46 x1 x15).f4) ((rd_T46 x1 x15).f5) ((rd_T46 x1 x15).f6) ((rd_T46 x1 x15).f7) ((rd_T46 x1 x15).f8) ((rd_T46 x1 x15).f9) ((rd_T46 x1 x15).f10) ((rd_T46 x1 x15).f11) ((rd_T46 x1 x15).f12) ((rd_T46 x1 x15).f13))) else (relayref05_Same.j1 k x0 x1 x14 x15 true ((rd_T46 x0 x15).f0) ((rd_T46 x0 x15).f1) ((rd_T46 x0 x15).f2) ((rd_T46 x0 x15).f3) ((rd_T46 x0 x15).f4) ((rd_T46 x0 x15).f5) ((rd_T46 x0 x15).f6) ((rd_T46 x0 x15).f7) ((rd_T46 x0 x15).f8) ((rd_T46 x0 x15).f9) ((rd_T46 x0 x15).f10) ((rd_T46 x0 x15).f11) ((rd_T46 x0 x15).f12) ((rd_T46 x0 x15).f13) ((rd_T46 x1 x15).f0) ((rd_T46 x1 x15).f1) ((rd_T46 x1 x15).f2) ((rd_T46 x1 x15).f3) ((rd_T46 x1 x15).f4) ((rd_T46 x1 x15).f5) ((rd_T46 x1 x15).f6) ((rd_T46 x1 x15).f7) ((rd_T46 x1 x15).f8) ((rd_T46 x1 x15).f9) ((rd_T46 x1 x15).f10) ((rd_T46 x1 x15).f11) ((rd_T46 x1 x15).f12) ((rd_T46 x1 x15).f13)))) else (relayref05_Same.j1 k x0 x1 x14 x15 true ((rd_T46 x0 x15).f0) ((rd_T46 x0 x15).f1) ((rd_T46 x0 x15).f2) ((rd_T46 x0 x15).f3) ((rd_T46 x0 x15).f4) ((rd_T46 x0 x15).f5) ((rd_T46 x0 x15).f6) ((rd_T46 x0 x15).f7) ((rd_T46 x0 x15).f8) ((rd_T46 x0 x15).f9) ((rd_T46 x0 x15).f10) ((rd_T46 x0 x15).f11) ((rd_T46 x0 x15).f12) ((rd_T46 x0 x15).f13) ((rd_T46 x1 x15).f0) ((rd_T46 x1 x15).f1) ((rd_T46 x1 x15).f2) ((rd_T46 x1 x15).f3) ((rd_T46 x1 x15).f4) ((rd_T46 x1 x15).f5) ((rd_T46 x1 x15).f6) ((rd_T46 x1 x15).f7) ((rd_T46 x1 x15).f8) ((rd_T46 x1 x15).f9) ((rd_T46 x1 x15).f10) ((rd_T46 x1 x15).f11) ((rd_T46 x1 x15).f12) ((rd_T46 x1 x15).f13)))) else (relayref05_Same.j1 k x0 x1 x14 x15 true ((rd_T46 x0 x15).f0) ((rd_T46 x0 x15).f1) ((rd_T46 x0 x15).f2) ((rd_T46 x0 x15).f3) ((rd_T46 x0 x15).f4) ((rd_T46 x0 x15).f5) ((rd_T46 x0 x15).f6) ((rd_T46 x0 x15).f7) ((rd_T46 x0 x15).f8) ((rd_T46 x0 x15).f9) ((rd_T46 x0 x15).f10) ((rd_T46 x0 x15).f11) ((rd_T46 x0 x15).f12) ((rd_T46 x0 x15).f13) ((rd_T46 x1 x15).f0) ((rd_T46 x1 x15).f1) ((rd_T46 x1 x15).f2) ((rd_T46 x1 x15).f3) ((rd_T46 x1 x15).f4) ((rd_T46 x1 x15).f5) ((rd_T46 x1 x15).f6) ((rd_T46 x1 x15).f7) ((rd_T46 x1 x15).f8) ((rd_T46 x1 x15).f9) ((rd_T46 x1 x15).f10) ((rd_T46 x1 x15).f11) ((rd_T46 x1 x15).f12) ((rd_T46 x1 x15).f13))) else (relayref05_Same.j1 k x0 x1 x14 x15 true ((rd_T46 x0 x15).f0) ((rd_T46 x0 x15).f1) ((rd_T46 x0 x15).f2) ((rd_T46 x0 x15).f3) ((rd_T46 x0 x15).f4) ((rd_T46 x0 x15).f5) ((rd_T46 x0 x15).f6) ((rd_T46 x0 x15).f7) ((rd_T46 x0 x15).f8) ((rd_T46 x0 x15).f9) ((rd_T46 x0 x15).f10) ((rd_T46 x0 x15).f11) ((rd_T46 x0 x15).f12) ((rd_T46 x0 x15).f13) ((rd_T46 x1 x15).f0) ((rd_T46 x1 x15).f1) ((rd_T46 x1 x15).f2) ((rd_T46 x1 x15).f3) ((rd_T46 x1 x15).f4) ((rd_T46 x1 x15).f5) ((rd_T46 x1 x15).f6) ((rd_T46 x1 x15).f7) ((rd_T46 x1 x15).f8) ((rd_T46 x1 x15).f9) ((rd_T46 x1 x15).f10) ((rd_T46 x1 x15).f11) ((rd_T46 x1 x15).f12) ((rd_T46 x1 x15).f13))) else (none)) else (none)) else (none)) else (some true)
def relayref05_Same.j1 : Nat → List (S46) → List (S46) → Int → Int → Bool → Int → Int → ByteArray → Int → List (S65) → List ByteArray → List (S65) → List ByteArray → List (S50) → List (S46) → List (S46) → Int → Int → Int → Int → Int → ByteArray → Int → List (S65) → List ByteArray → List (S65) → List ByteArray → List (S50) → List (S46) → List (S46) → Int → Int → Int → Option (Bool)
  | 0, _, _, _, _, _, _, _, _, _, _, _, _, _, _, _, _, _, _, _, _, _, _, _, _, _, _, _, _, _, _, _, _, _ => none
  | k + 1, x0, x1, x14, x15, x65, x138000, x138001, x138002, x138003, x138004, x138005, x138006, x138007, x138008, x138009, x138010, x138011, x138012, x138013, x139000, x139001, x139002, x139003, x139004, x139005, x139006, x139007, x139008, x139009, x139010, x139011, x139012, x139013 => if x65 = true then (some false) else ((relayref05_sameExprs.f k x138006 x139006).bind fun t143 => (if t143 = true then ((relayref05_sameTexts.f k x138007 x139007).bind fun t144 => (if t144 = true then ((relayref05_sameRanges.f k x138008 x139008).bind fun t145 => (if t145 = true then ((relayref05_Same.f k x138009 x139009).bind fun t146 => (if t146 = true then ((relayref05_Same.f k x138010 x139010).bind fun t147 => (if t147 = true then (relayref05_Same.l0 k x0 x1 x14 (wrap64 (x15 + 1))) else (some false))) else (some false))) else (some false))) else (some false))) else (some false)))
def relayref05_Same.f : Nat → List (S46) → List (S46) → Option (Bool)
  | 0, _, _ => none
  | k + 1, l0, l1 => if (l0.length : Int) = (l1.length : Int) then (relayref05_Same.l0 k l0 l1 (l0.length : Int) 0) else (some false)
end
theorem relayref05_Same.mono_l : ∀ k, (∀ y0 y1, LeO (relayref05_Same.f k y0 y1) (relayref05_Same.f (k + 1) y0 y1)) ∧ (∀ y0 y1 y2 y3, LeO (relayref05_Same.l0 k y0 y1 y2 y3) (relayref05_Same.l0 (k + 1) y0 y1 y2 y3)) ∧ (∀ y0 y1 y2 y3 y4 y5 y6 y7 y8 y9 y10 y11 y12 y13 y14 y15 y16 y17 y18 y19 y20 y21 y22 y23 y24 y25 y26 y27 y28 y29 y30 y31 y32, LeO (relayref05_Same.j1 k y0 y1 y2 y3 y4 y5 y6 y7 y8 y9 y10 y11 y12 y13 y14 y15 y16 y17 y18 y19 y20 y21 y22 y23 y24 y25 y26 y27 y28 y29 y30 y31 y32) (relayref05_Same.j1 (k + 1) y0 y1 y2 y3 y4 y5 y6 y7 y8 y9 y10 y11 y12 y13 y14 y15 y16 y17 y18 y19 y20 y21 y22 y23 y24 y25 y26 y27 y28 y29 y30 y31 y32))
  | 0 => ⟨fun _ _ r h => by simp [relayref05_Same.f] at h, fun _ _ _ _ r h => by simp [relayref05_Same.l0] at h, fun _ _ _ _ _ _ _ _ _ _ _ _ _ _ _ _ _ _ _ _ _ _ _ _ _ _ _ _ _ _ _ _ _ r h => by simp [relayref05_Same.j1] at h⟩
  | k + 1 => by
    obtain ⟨ih0, ih1, ih2⟩ := relayref05_Same.mono_l k
    refine ⟨?_, ?_, ?_⟩
    · intro y0 y1
      unfold relayref05_Same.f
      repeat' first
      | (with_reducible exact ih0 _ _)
      | (with_reducible exact ih1 _ _ _ _)
      | (with_reducible exact ih2 _ _ _ _ _ _ _ _ _ _ _ _ _ _ _ _ _ _ _ _ _ _ _ _ _ _ _ _ _ _ _ _ _)
      | (with_reducible exact relayref05_sameExprs.mono _ _ _)
      | (with_reducible exact relayref05_sameRanges.mono _ _ _)
      | (with_reducible exact relayref05_sameTexts.mono _ _ _)
      | (with_reducible exact LeO.refl _)
      | (with_reducible exact LeO.none _)
      | (with_reducible refine LeO.ite ?_ ?_)
      | (with_reducible refine LeO.bind ?_ (fun _ => ?_))
      | exact ih0 _ _
      | exact ih1 _ _ _ _
      | exact ih2 _ _ _ _ _ _ _ _ _ _ _ _ _ _ _ _ _ _ _ _ _ _ _ _ _ _ _ _ _ _ _ _ _
      | exact relayref05_sameExprs.mono _ _ _
      | exact relayref05_sameRanges.mono _ _ _
      | exact relayref05_sameTexts.mono _ _ _
      | exact LeO.none _
      | refine LeO.ite ?_ ?_
      | refine LeO.bind ?_ (fun _ => ?_)
    · intro y0 y1 y2 y3
      unfold relayref05_Same.l0
      repeat' first
      | (with_reducible exact ih0 _ _)
      | (with_reducible exact ih1 _ _ _ _)
      | (with_reducible exact ih2 _ _ _ _ _ _ _ _ _ _ _ _ _ _ _ _ _ _ _ _ _ _ _ _ _ _ _ _ _ _ _ _ _)
      | (with_reducible exact relayref05_sameExprs.mono _ _ _)
      | (with_reducible exact relayref05_sameRanges.mono _ _ _)
      | (with_reducible exact relayref05_sameTexts.mono _ _ _)
      | (with_reducible exact LeO.refl _)
      | (with_reducible exact LeO.none _)
      | (with_reducible refine LeO.ite ?_ ?_)
      | (with_reducible refine LeO.bind ?_ (fun _ => ?_))
      | exact ih0 _ _
      | exact ih1 _ _ _ _
      | exact ih2 _ _ _ _ _ _ _ _ _ _ _ _ _ _ _ _ _ _ _ _ _ _ _ _ _ _ _ _ _ _ _ _ _
      | exact relayref05_sameExprs.mono _ _ _
      | exact relayref05_sameRanges.mono _ _ _
      | exact relayref05_sameTexts.mono _ _ _
      | exact LeO.none _
      | refine LeO.ite ?_ ?_
      | refine LeO.bind ?_ (fun _ => ?_)
    · intro y0 y1 y2 y3 y4 y5 y6 y7 y8 y9 y10 y11 y12 y13 y14 y15 y16 y17 y18 y19 y20 y21 y22 y23 y24 y25 y26 y27 y28 y29 y30 y31 y32
      unfold relayref05_Same.j1
      repeat' first
      | (with_reducible exact ih0 _ _)
      | (with_reducible exact ih1 _ _ _ _)
      | (with_reducible exact ih2 _ _ _ _ _ _ _ _ _ _ _ _ _ _ _ _ _ _ _ _ _ _ _ _ _ _ _ _ _ _ _ _ _)
      | (with_reducible exact relayref05_sameExprs.mono _ _ _)
      | (with_reducible exact relayref05_sameRanges.mono _ _ _)
      | (with_reducible exact relayref05_sameTexts.mono _ _ _)
      | (with_reducible exact LeO.refl _)
      | (with_reducible exact LeO.none _)
      | (with_reducible refine LeO.ite ?_ ?_)
      | (with_reducible refine LeO.bind ?_ (fun _ => ?_))
      | exact ih0 _ _
      | exact ih1 _ _ _ _
      | exact ih2 _ _ _ _ _ _ _ _ _ _ _ _ _ _ _ _ _ _ _ _ _ _ _ _ _ _ _ _ _ _ _ _ _
      | exact relayref05_sameExprs.mono _ _ _
      | exact relayref05_sameRanges.mono _ _ _
      | exact relayref05_sameTexts.mono _ _ _
      | exact LeO.none _
      | refine LeO.ite ?_ ?_
      | refine LeO.bind ?_ (fun _ => ?_)
theorem relayref05_Same.mono : ∀ a0 a1 k, LeO (relayref05_Same.f k a0 a1) (relayref05_Same.f (k + 1) a0 a1) := by
  intro a0 a1 k
  obtain ⟨ih0, ih1, ih2⟩ := relayref05_Same.mono_l k
  exact ih0 a0 a1
def relayref05_Same.T6 : Bool × List (List Nat × List Nat) := (true, [([], []), ([], []), ([0, 1], [0, 1]), ([2], [2]), ([], []), ([], []), ([4, 5], [4, 5]), ([6], [6]), ([], []), ([], []), ([8, 3, 0, 1, 2, 3, 8, 9], [3, 8]), ([9, 7, 10, 0, 1, 2, 3, 4, 5, 6, 7, 8, 9, 10], [7, 9])])
def relayref05_Same.B6 : List Nat := [0, 0, 3, 7, 0, 0, 48, 112, 0, 0, 783, 2047]
theorem relayref05_Same.tab6 : rtab .any (opsOf Try.f11 6) = relayref05_Same.T6 := by kernel_rfl
theorem relayref05_Same.bits6 : waitsOk relayref05_Same.T6.2 relayref05_Same.B6 = true := by kernel_rfl
set_option maxHeartbeats 40000000 in
set_option maxRecDepth 100000 in
theorem relayref05_Same.calls (k : Nat) : ∀ (A0 : Option Addr) (c0 : Nat) (l0 : List (S46)) (A1 : Option Addr) (c1 : Nat) (l1 : List (S46)) (r : Bool) (w : World) (hr0 : Kd.C k46 w A0 l0.length l0) (hc0 : l0.length ≤ c0) (hr1 : Kd.C k46 w A1 l1.length l1) (hc1 : l1.length ≤ c1) (h : relayref05_Same.f k l0 l1 = some r),
    Calls Try.prog 11 #[.slice A0 l0.length c0, .slice A1 l1.length c1] w fun e w' => e = .returned (.bool r) ∧ Below w.heap.size w w' := by
  induction k using Nat.strongRecOn with
  | _ k ih =>
  intro A0 c0 l0 A1 c1 l1 r w hr0 hc0 hr1 hc1 h
  cases k with
  | zero => exact absurd h (by simp [relayref05_Same.f])
  | succ k =>
  simp only [relayref05_Same.f] at h
  have hu46 := Try.underlying46
  have HR0 := Aside0.mk hr0
  have HC0 := Aside0.mk hc0
  clear hr0 hc0
  have HR1 := Aside0.mk hr1
  have HC1 := Aside0.mk hc1
  clear hr1 hc1
  have HB := Aside0.mk (Below.refl w.heap.size w)
  have H : (if (l0.length : Int) = (l1.length : Int) then (relayref05_Same.l0 k l0 l1 (l0.length : Int) 0) else (some false)) = some r := h
  clear h
  by_cases c3 : (l0.length : Int) = (l1.length : Int)
  · rw [if_pos c3] at H
    have c3b0 : ((l0.length : Int) == (l1.length : Int)) = true := beq_iff_eq.mpr c3
    have c3b1 : ((l0.length : Int) != (l1.length : Int)) = false := bne_eq_false_iff_eq.mpr c3
    have c3b2 : (l0.length == l1.length) = true := by first | simpa using c3 | (simp at c3 ⊢; omega)
    clear c3
    have H' := Aside0.mk H
    clear H
    go_enter Try.func11, Try.ntmps11
    go_wp2
    go_loopg [15] k (fun kq v15 w' => ∃ (x15_1 : Int), v15 = .int .i64 x15_1 ∧ Aside0 (relayref05_Same.l0 kq l0 l1 (l0.length : Int) x15_1 = some r) ∧ Aside0 (kq ≤ k) ∧ Aside0 (Below w.heap.size w w'))
    case atStart => exact ⟨(0), (by first | rfl | (simp; done) | (simp [*]; done) | (simp [*, bne]; done)), H', ⟨Nat.le_refl _⟩, ⟨by repeat (first | (with_reducible first | exact HB.out | apply below_alloc | apply pw_below_drewN | apply below_drew1) | exact HB.out)⟩⟩
    case round =>
      clear H'
      try clear c1
      try clear p2
      try clear c3
      try clear c3b0
      try clear c3b1
      try clear c3b2
      obtain ⟨x15_1, rfl, HA, HK1, HB⟩ := hrel
      cases gk with
      | zero => exact absurd HA.out (by simp [relayref05_Same.l0])
      | succ k1 =>
        have H := HA.out
        clear HA
        simp only [relayref05_Same.l0] at H
        by_cases c4 : x15_1 < (l0.length : Int)
        · rw [if_pos c4] at H
          have c4b0 : decide (x15_1 < (l0.length : Int)) = true := decide_eq_true c4
          clear c4
          by_cases c5 : 0 ≤ x15_1
          · rw [if_pos c5] at H
            have c5b0 : decide (0 ≤ x15_1) = true := decide_eq_true c5
            clear c5
            by_cases c6 : x15_1 < (l0.length : Int)
            · rw [if_pos c6] at H
              have c6b0 : decide (x15_1 < (l0.length : Int)) = true := decide_eq_true c6
              clear c6
              by_cases c7 : x15_1 < (l1.length : Int)
              · rw [if_pos c7] at H
                have c7b0 : decide (x15_1 < (l1.length : Int)) = true := decide_eq_true c7
                clear c7
                have HC8 := Aside0.mk H
                clear H
                try go_wp2
                have n0_ := Aside0.mk (below_drew1 HB.out)
                clear HB
                have HB := n0_
                clear n0_
                have p135 : 0 ≤ (x15_1 : Int) := of_decide_eq_true (by first | (with_reducible assumption) | assumption)
                have q135 : x15_1 < (l0.length : Int) := of_decide_eq_true (by first | (with_reducible assumption) | assumption)
                obtain ⟨ad135, A135_4, c135_4, A135_5, c135_5, A135_6, c135_6, A135_7, c135_7, A135_8, c135_8, A135_9, c135_9, A135_10, c135_10, e135, hx135_0, hx135_1, hx135_2, hx135_3, hx135_4, hx135_5, hx135_6, hx135_7, hx135_8, hx135_9, hx135_10, hx135_11, hx135_12, hx135_13, hl135_4, hi135_4, hl135_5, hi135_5, hl135_6, hi135_6, hl135_7, hi135_7, hl135_8, hi135_8, hl135_9, hi135_9, hl135_10, hi135_10⟩ := at_T46 HR0.out x15_1 p135 q135
                have hw135_13 := hx135_13
                have hw135_12 := hx135_12
                have hw135_11 := hx135_11
                have hw135_10 := hx135_10
                have hw135_9 := hx135_9
                have hw135_8 := hx135_8
                have hw135_7 := hx135_7
                have hw135_6 := hx135_6
                have hw135_5 := hx135_5
                have hw135_4 := hx135_4
                have hw135_3 := hx135_3
                have hw135_2 := hx135_2
                have hw135_1 := hx135_1
                have hw135_0 := hx135_0
                cases e135
                replace hx135_0 := (HB.out.cell (World.block_lt_of_cell? w _ hx135_0)).trans hx135_0
                replace hx135_1 := (HB.out.cell (World.block_lt_of_cell? w _ hx135_1)).trans hx135_1
                replace hx135_2 := (HB.out.cell (World.block_lt_of_cell? w _ hx135_2)).trans hx135_2
                replace hx135_3 := (HB.out.cell (World.block_lt_of_cell? w _ hx135_3)).trans hx135_3
                replace hx135_4 := (HB.out.cell (World.block_lt_of_cell? w _ hx135_4)).trans hx135_4
                replace hx135_5 := (HB.out.cell (World.block_lt_of_cell? w _ hx135_5)).trans hx135_5
                replace hx135_6 := (HB.out.cell (World.block_lt_of_cell? w _ hx135_6)).trans hx135_6
                replace hx135_7 := (HB.out.cell (World.block_lt_of_cell? w _ hx135_7)).trans hx135_7
                replace hx135_8 := (HB.out.cell (World.block_lt_of_cell? w _ hx135_8)).trans hx135_8
                replace hx135_9 := (HB.out.cell (World.block_lt_of_cell? w _ hx135_9)).trans hx135_9
                replace hx135_10 := (HB.out.cell (World.block_lt_of_cell? w _ hx135_10)).trans hx135_10
                replace hx135_11 := (HB.out.cell (World.block_lt_of_cell? w _ hx135_11)).trans hx135_11
                replace hx135_12 := (HB.out.cell (World.block_lt_of_cell? w _ hx135_12)).trans hx135_12
                replace hx135_13 := (HB.out.cell (World.block_lt_of_cell? w _ hx135_13)).trans hx135_13
                have HR135_4 := Aside0.mk hi135_4
                have HC135_4 := Aside0.mk hl135_4
                clear hi135_4 hl135_4
                have HR135_5 := Aside0.mk hi135_5
                have HC135_5 := Aside0.mk hl135_5
                clear hi135_5 hl135_5
                have HR135_6 := Aside0.mk hi135_6
                have HC135_6 := Aside0.mk hl135_6
                clear hi135_6 hl135_6
                have HR135_7 := Aside0.mk hi135_7
                have HC135_7 := Aside0.mk hl135_7
                clear hi135_7 hl135_7
                have HR135_8 := Aside0.mk hi135_8
                have HC135_8 := Aside0.mk hl135_8
                clear hi135_8 hl135_8
                have HR135_9 := Aside0.mk hi135_9
                have HC135_9 := Aside0.mk hl135_9
                clear hi135_9 hl135_9
                have HR135_10 := Aside0.mk hi135_10
                have HC135_10 := Aside0.mk hl135_10
                clear hi135_10 hl135_10
                replace p135 := eq_true p135
                replace q135 := eq_true q135
                have p136 : 0 ≤ (x15_1 : Int) := of_decide_eq_true (by first | (with_reducible assumption) | assumption)
                have q136 : x15_1 < (l1.length : Int) := of_decide_eq_true (by first | (with_reducible assumption) | assumption)
                obtain ⟨ad136, A136_4, c136_4, A136_5, c136_5, A136_6, c136_6, A136_7, c136_7, A136_8, c136_8, A136_9, c136_9, A136_10, c136_10, e136, hx136_0, hx136_1, hx136_2, hx136_3, hx136_4, hx136_5, hx136_6, hx136_7, hx136_8, hx136_9, hx136_10, hx136_11, hx136_12, hx136_13, hl136_4, hi136_4, hl136_5, hi136_5, hl136_6, hi136_6, hl136_7, hi136_7, hl136_8, hi136_8, hl136_9, hi136_9, hl136_10, hi136_10⟩ := at_T46 HR1.out x15_1 p136 q136
                have hw136_13 := hx136_13
                have hw136_12 := hx136_12
                have hw136_11 := hx136_11
                have hw136_10 := hx136_10
                have hw136_9 := hx136_9
                have hw136_8 := hx136_8
                have hw136_7 := hx136_7
                have hw136_6 := hx136_6
                have hw136_5 := hx136_5
                have hw136_4 := hx136_4
                have hw136_3 := hx136_3
                have hw136_2 := hx136_2
                have hw136_1 := hx136_1
                have hw136_0 := hx136_0
                cases e136
                replace hx136_0 := (HB.out.cell (World.block_lt_of_cell? w _ hx136_0)).trans hx136_0
                replace hx136_1 := (HB.out.cell (World.block_lt_of_cell? w _ hx136_1)).trans hx136_1
                replace hx136_2 := (HB.out.cell (World.block_lt_of_cell? w _ hx136_2)).trans hx136_2
                replace hx136_3 := (HB.out.cell (World.block_lt_of_cell? w _ hx136_3)).trans hx136_3
                replace hx136_4 := (HB.out.cell (World.block_lt_of_cell? w _ hx136_4)).trans hx136_4
                replace hx136_5 := (HB.out.cell (World.block_lt_of_cell? w _ hx136_5)).trans hx136_5
                replace hx136_6 := (HB.out.cell (World.block_lt_of_cell? w _ hx136_6)).trans hx136_6
                replace hx136_7 := (HB.out.cell (World.block_lt_of_cell? w _ hx136_7)).trans hx136_7
                replace hx136_8 := (HB.out.cell (World.block_lt_of_cell? w _ hx136_8)).trans hx136_8
                replace hx136_9 := (HB.out.cell (World.block_lt_of_cell? w _ hx136_9)).trans hx136_9
                replace hx136_10 := (HB.out.cell (World.block_lt_of_cell? w _ hx136_10)).trans hx136_10
                replace hx136_11 := (HB.out.cell (World.block_lt_of_cell? w _ hx136_11)).trans hx136_11
                replace hx136_12 := (HB.out.cell (World.block_lt_of_cell? w _ hx136_12)).trans hx136_12
                replace hx136_13 := (HB.out.cell (World.block_lt_of_cell? w _ hx136_13)).trans hx136_13
                have HR136_4 := Aside0.mk hi136_4
                have HC136_4 := Aside0.mk hl136_4
                clear hi136_4 hl136_4
                have HR136_5 := Aside0.mk hi136_5
                have HC136_5 := Aside0.mk hl136_5
                clear hi136_5 hl136_5
                have HR136_6 := Aside0.mk hi136_6
                have HC136_6 := Aside0.mk hl136_6
                clear hi136_6 hl136_6
                have HR136_7 := Aside0.mk hi136_7
                have HC136_7 := Aside0.mk hl136_7
                clear hi136_7 hl136_7
                have HR136_8 := Aside0.mk hi136_8
                have HC136_8 := Aside0.mk hl136_8
                clear hi136_8 hl136_8
                have HR136_9 := Aside0.mk hi136_9
                have HC136_9 := Aside0.mk hl136_9
                clear hi136_9 hl136_9
                have HR136_10 := Aside0.mk hi136_10
                have HC136_10 := Aside0.mk hl136_10
                clear hi136_10 hl136_10
                replace p136 := eq_true p136
                replace q136 := eq_true q136
                refine start_ (n := 12) (S := fun w' => w'.cell? (ad135.add ((x15_1).toNat * 14)) = some (.int .i64 ((rd_T46 l0 x15_1).f0)) ∧ w'.cell? ⟨(ad135.add ((x15_1).toNat * 14)).block, (ad135.add ((x15_1).toNat * 14)).off + 1, none⟩ = some (.int .i64 ((rd_T46 l0 x15_1).f1)) ∧ w'.cell? ⟨(ad135.add ((x15_1).toNat * 14)).block, (ad135.add ((x15_1).toNat * 14)).off + 2, none⟩ = some (.string ((rd_T46 l0 x15_1).f2)) ∧ w'.cell? ⟨(ad135.add ((x15_1).toNat * 14)).block, (ad135.add ((x15_1).toNat * 14)).off + 3, none⟩ = some (.int .i64 ((rd_T46 l0 x15_1).f3)) ∧ w'.cell? ⟨(ad135.add ((x15_1).toNat * 14)).block, (ad135.add ((x15_1).toNat * 14)).off + 4, none⟩ = some (.slice A135_4 ((rd_T46 l0 x15_1).f4).length c135_4) ∧ w'.cell? ⟨(ad135.add ((x15_1).toNat * 14)).block, (ad135.add ((x15_1).toNat * 14)).off + 5, none⟩ = some (.slice A135_5 ((rd_T46 l0 x15_1).f5).length c135_5) ∧ w'.cell? ⟨(ad135.add ((x15_1).toNat * 14)).block, (ad135.add ((x15_1).toNat * 14)).off + 6, none⟩ = some (.slice A135_6 ((rd_T46 l0 x15_1).f6).length c135_6) ∧ w'.cell? ⟨(ad135.add ((x15_1).toNat * 14)).block, (ad135.add ((x15_1).toNat * 14)).off + 7, none⟩ = some (.slice A135_7 ((rd_T46 l0 x15_1).f7).length c135_7) ∧ w'.cell? ⟨(ad135.add ((x15_1).toNat * 14)).block, (ad135.add ((x15_1).toNat * 14)).off + 8, none⟩ = some (.slice A135_8 ((rd_T46 l0 x15_1).f8).length c135_8) ∧ w'.cell? ⟨(ad135.add ((x15_1).toNat * 14)).block, (ad135.add ((x15_1).toNat * 14)).off + 9, none⟩ = some (.slice A135_9 ((rd_T46 l0 x15_1).f9).length c135_9) ∧ w'.cell? ⟨(ad135.add ((x15_1).toNat * 14)).block, (ad135.add ((x15_1).toNat * 14)).off + 10, none⟩ = some (.slice A135_10 ((rd_T46 l0 x15_1).f10).length c135_10) ∧ w'.cell? ⟨(ad135.add ((x15_1).toNat * 14)).block, (ad135.add ((x15_1).toNat * 14)).off + 11, none⟩ = some (.int .u8 ((rd_T46 l0 x15_1).f11)) ∧ w'.cell? ⟨(ad135.add ((x15_1).toNat * 14)).block, (ad135.add ((x15_1).toNat * 14)).off + 12, none⟩ = some (.int .i64 ((rd_T46 l0 x15_1).f12)) ∧ w'.cell? ⟨(ad135.add ((x15_1).toNat * 14)).block, (ad135.add ((x15_1).toNat * 14)).off + 13, none⟩ = some (.int .i64 ((rd_T46 l0 x15_1).f13)) ∧ w'.cell? (ad136.add ((x15_1).toNat * 14)) = some (.int .i64 ((rd_T46 l1 x15_1).f0)) ∧ w'.cell? ⟨(ad136.add ((x15_1).toNat * 14)).block, (ad136.add ((x15_1).toNat * 14)).off + 1, none⟩ = some (.int .i64 ((rd_T46 l1 x15_1).f1)) ∧ w'.cell? ⟨(ad136.add ((x15_1).toNat * 14)).block, (ad136.add ((x15_1).toNat * 14)).off + 2, none⟩ = some (.string ((rd_T46 l1 x15_1).f2)) ∧ w'.cell? ⟨(ad136.add ((x15_1).toNat * 14)).block, (ad136.add ((x15_1).toNat * 14)).off + 3, none⟩ = some (.int .i64 ((rd_T46 l1 x15_1).f3)) ∧ w'.cell? ⟨(ad136.add ((x15_1).toNat * 14)).block, (ad136.add ((x15_1).toNat * 14)).off + 4, none⟩ = some (.slice A136_4 ((rd_T46 l1 x15_1).f4).length c136_4) ∧ w'.cell? ⟨(ad136.add ((x15_1).toNat * 14)).block, (ad136.add ((x15_1).toNat * 14)).off + 5, none⟩ = some (.slice A136_5 ((rd_T46 l1 x15_1).f5).length c136_5) ∧ w'.cell? ⟨(ad136.add ((x15_1).toNat * 14)).block, (ad136.add ((x15_1).toNat * 14)).off + 6, none⟩ = some (.slice A136_6 ((rd_T46 l1 x15_1).f6).length c136_6) ∧ w'.cell? ⟨(ad136.add ((x15_1).toNat * 14)).block, (ad136.add ((x15_1).toNat * 14)).off + 7, none⟩ = some (.slice A136_7 ((rd_T46 l1 x15_1).f7).length c136_7) ∧ w'.cell? ⟨(ad136.add ((x15_1).toNat * 14)).block, (ad136.add ((x15_1).toNat * 14)).off + 8, none⟩ = some (.slice A136_8 ((rd_T46 l1 x15_1).f8).length c136_8) ∧ w'.cell? ⟨(ad136.add ((x15_1).toNat * 14)).block, (ad136.add ((x15_1).toNat * 14)).off + 9, none⟩ = some (.slice A136_9 ((rd_T46 l1 x15_1).f9).length c136_9) ∧ w'.cell? ⟨(ad136.add ((x15_1).toNat * 14)).block, (ad136.add ((x15_1).toNat * 14)).off + 10, none⟩ = some (.slice A136_10 ((rd_T46 l1 x15_1).f10).length c136_10) ∧ w'.cell? ⟨(ad136.add ((x15_1).toNat * 14)).block, (ad136.add ((x15_1).toNat * 14)).off + 11, none⟩ = some (.int .u8 ((rd_T46 l1 x15_1).f11)) ∧ w'.cell? ⟨(ad136.add ((x15_1).toNat * 14)).block, (ad136.add ((x15_1).toNat * 14)).off + 12, none⟩ = some (.int .i64 ((rd_T46 l1 x15_1).f12)) ∧ w'.cell? ⟨(ad136.add ((x15_1).toNat * 14)).block, (ad136.add ((x15_1).toNat * 14)).off + 13, none⟩ = some (.int .i64 ((rd_T46 l1 x15_1).f13))) (ds := []) #[false, false, false, false, false, false, false, false, false, false, false, false] (by kernel_rfl) rfl rfl ⟨((HB.out.cell (World.block_lt_of_cell? w _ hw135_0)).trans hw135_0), ((HB.out.cell (World.block_lt_of_cell? w _ hw135_1)).trans hw135_1), ((HB.out.cell (World.block_lt_of_cell? w _ hw135_2)).trans hw135_2), ((HB.out.cell (World.block_lt_of_cell? w _ hw135_3)).trans hw135_3), ((HB.out.cell (World.block_lt_of_cell? w _ hw135_4)).trans hw135_4), ((HB.out.cell (World.block_lt_of_cell? w _ hw135_5)).trans hw135_5), ((HB.out.cell (World.block_lt_of_cell? w _ hw135_6)).trans hw135_6), ((HB.out.cell (World.block_lt_of_cell? w _ hw135_7)).trans hw135_7), ((HB.out.cell (World.block_lt_of_cell? w _ hw135_8)).trans hw135_8), ((HB.out.cell (World.block_lt_of_cell? w _ hw135_9)).trans hw135_9), ((HB.out.cell (World.block_lt_of_cell? w _ hw135_10)).trans hw135_10), ((HB.out.cell (World.block_lt_of_cell? w _ hw135_11)).trans hw135_11), ((HB.out.cell (World.block_lt_of_cell? w _ hw135_12)).trans hw135_12), ((HB.out.cell (World.block_lt_of_cell? w _ hw135_13)).trans hw135_13), ((HB.out.cell (World.block_lt_of_cell? w _ hw136_0)).trans hw136_0), ((HB.out.cell (World.block_lt_of_cell? w _ hw136_1)).trans hw136_1), ((HB.out.cell (World.block_lt_of_cell? w _ hw136_2)).trans hw136_2), ((HB.out.cell (World.block_lt_of_cell? w _ hw136_3)).trans hw136_3), ((HB.out.cell (World.block_lt_of_cell? w _ hw136_4)).trans hw136_4), ((HB.out.cell (World.block_lt_of_cell? w _ hw136_5)).trans hw136_5), ((HB.out.cell (World.block_lt_of_cell? w _ hw136_6)).trans hw136_6), ((HB.out.cell (World.block_lt_of_cell? w _ hw136_7)).trans hw136_7), ((HB.out.cell (World.block_lt_of_cell? w _ hw136_8)).trans hw136_8), ((HB.out.cell (World.block_lt_of_cell? w _ hw136_9)).trans hw136_9), ((HB.out.cell (World.block_lt_of_cell? w _ hw136_10)).trans hw136_10), ((HB.out.cell (World.block_lt_of_cell? w _ hw136_11)).trans hw136_11), ((HB.out.cell (World.block_lt_of_cell? w _ hw136_12)).trans hw136_12), ((HB.out.cell (World.block_lt_of_cell? w _ hw136_13)).trans hw136_13)⟩ (fun hHeld => ?_); refine with_tabW relayref05_Same.tab6 relayref05_Same.bits6 (fun HT_ HW_ => ?_)
                generalize wr.drew = w9 at HB HR135_10 HR135_4 HR135_5 HR135_6 HR135_7 HR135_8 HR135_9 HR136_10 HR136_4 HR136_5 HR136_6 HR136_7 HR136_8 HR136_9 hx135_0 hx135_1 hx135_10 hx135_11 hx135_12 hx135_13 hx135_2 hx135_3 hx135_4 hx135_5 hx135_6 hx135_7 hx135_8 hx135_9 hx136_0 hx136_1 hx136_10 hx136_11 hx136_12 hx136_13 hx136_2 hx136_3 hx136_4 hx136_5 hx136_6 hx136_7 hx136_8 hx136_9 hHeld ⊢
                refine pure_ (i := 0) (N := some 18) (v := ?_) (a' := ?_) #[true, false, false, false, false, false, false, false, false, false, false, false] rfl rfl (any_of HT_.out (by kernel_rfl)) (fun _ _ _ h => h) (Or.inl ⟨by rfl, ?_⟩) ?_ ?_
                rotate_left
                · intro w'
                  go_simp
                  with_reducible rfl
                rotate_left
                · simp only [Act.put, List.setIfInBounds_toArray, List.set_cons_zero, List.set_cons_succ, i64_w, i32_w]
                  rfl
                refine pure_ (i := 1) (N := some 19) (v := ?_) (a' := ?_) #[true, true, false, false, false, false, false, false, false, false, false, false] rfl rfl (any_of HT_.out (by kernel_rfl)) (fun _ _ _ h => h) (Or.inl ⟨by rfl, ?_⟩) ?_ ?_
                rotate_left
                · intro w'
                  go_simp
                  with_reducible rfl
                rotate_left
                · simp only [Act.put, List.setIfInBounds_toArray, List.set_cons_zero, List.set_cons_succ, i64_w, i32_w]
                  rfl
                refine pure_ (i := 2) (N := some 20) (v := ?_) (a' := ?_) #[true, true, true, false, false, false, false, false, false, false, false, false] rfl rfl (any_of HT_.out (by kernel_rfl)) (fun _ _ _ h => h) (Or.inl ⟨by rfl, ?_⟩) ?_ ?_
                rotate_left
                · intro w'
                  go_simp
                  with_reducible rfl
                rotate_left
                · simp only [Act.put, List.setIfInBounds_toArray, List.set_cons_zero, List.set_cons_succ, i64_w, i32_w]
                  rfl
                refine pure_ (i := 4) (N := some 22) (v := ?_) (a' := ?_) #[true, true, true, false, true, false, false, false, false, false, false, false] rfl rfl (any_of HT_.out (by kernel_rfl)) (fun _ _ _ h => h) (Or.inl ⟨by rfl, ?_⟩) ?_ ?_
                rotate_left
                · intro w'
                  go_simp
                  with_reducible rfl
                rotate_left
                · simp only [Act.put, List.setIfInBounds_toArray, List.set_cons_zero, List.set_cons_succ, i64_w, i32_w]
                  rfl
                refine pure_ (i := 5) (N := some 23) (v := ?_) (a' := ?_) #[true, true, true, false, true, true, false, false, false, false, false, false] rfl rfl (any_of HT_.out (by kernel_rfl)) (fun _ _ _ h => h) (Or.inl ⟨by rfl, ?_⟩) ?_ ?_
                rotate_left
                · intro w'
                  go_simp
                  with_reducible rfl
                rotate_left
                · simp only [Act.put, List.setIfInBounds_toArray, List.set_cons_zero, List.set_cons_succ, i64_w, i32_w]
                  rfl
                refine pure_ (i := 6) (N := some 24) (v := ?_) (a' := ?_) #[true, true, true, false, true, true, true, false, false, false, false, false] rfl rfl (any_of HT_.out (by kernel_rfl)) (fun _ _ _ h => h) (Or.inl ⟨by rfl, ?_⟩) ?_ ?_
                rotate_left
                · intro w'
                  go_simp
                  with_reducible rfl
                rotate_left
                · simp only [Act.put, List.setIfInBounds_toArray, List.set_cons_zero, List.set_cons_succ, i64_w, i32_w]
                  rfl
                refine take_ (i := 3) (N := some 21) (v := ?_) (a' := ?_) #[true, true, true, true, true, true, true, false, false, false, false, false] rfl rfl (take_ofW HT_.out HW_.out (by kernel_rfl)) (fun _ _ _ h => h) (Or.inl ⟨by rfl, ?_⟩) hHeld ?_ ?_
                rotate_left
                · rintro w' ⟨s0, s1, s2, s3, s4, s5, s6, s7, s8, s9, s10, s11, s12, s13, s14, s15, s16, s17, s18, s19, s20, s21, s22, s23, s24, s25, s26, s27⟩
                  go_simp
                  with_reducible rfl
                rotate_left
                · simp only [Act.put, List.setIfInBounds_toArray, List.set_cons_zero, List.set_cons_succ, i64_w, i32_w]
                  rfl
                refine take_ (i := 7) (N := some 25) (v := ?_) (a' := ?_) #[true, true, true, true, true, true, true, true, false, false, false, false] rfl rfl (take_ofW HT_.out HW_.out (by kernel_rfl)) (fun _ _ _ h => h) (Or.inl ⟨by rfl, ?_⟩) hHeld ?_ ?_
                rotate_left
                · rintro w' ⟨s0, s1, s2, s3, s4, s5, s6, s7, s8, s9, s10, s11, s12, s13, s14, s15, s16, s17, s18, s19, s20, s21, s22, s23, s24, s25, s26, s27⟩
                  go_simp
                  with_reducible rfl
                rotate_left
                · simp only [Act.put, List.setIfInBounds_toArray, List.set_cons_zero, List.set_cons_succ, i64_w, i32_w]
                  rfl
                refine join_ (σ := Nat × Nat) 2 #[true, true, true, true, true, true, true, true, true, true, false, false] (fun s_ => [(6, .pointer (some ⟨s_.1, 0, none⟩)), (7, .pointer (some ⟨s_.2, 0, none⟩))]) (fun s_ w' => (w'.cell? (ad135.add ((x15_1).toNat * 14)) = some (.int .i64 ((rd_T46 l0 x15_1).f0)) ∧ w'.cell? ⟨(ad135.add ((x15_1).toNat * 14)).block, (ad135.add ((x15_1).toNat * 14)).off + 1, none⟩ = some (.int .i64 ((rd_T46 l0 x15_1).f1)) ∧ w'.cell? ⟨(ad135.add ((x15_1).toNat * 14)).block, (ad135.add ((x15_1).toNat * 14)).off + 2, none⟩ = some (.string ((rd_T46 l0 x15_1).f2)) ∧ w'.cell? ⟨(ad135.add ((x15_1).toNat * 14)).block, (ad135.add ((x15_1).toNat * 14)).off + 3, none⟩ = some (.int .i64 ((rd_T46 l0 x15_1).f3)) ∧ w'.cell? ⟨(ad135.add ((x15_1).toNat * 14)).block, (ad135.add ((x15_1).toNat * 14)).off + 4, none⟩ = some (.slice A135_4 ((rd_T46 l0 x15_1).f4).length c135_4) ∧ w'.cell? ⟨(ad135.add ((x15_1).toNat * 14)).block, (ad135.add ((x15_1).toNat * 14)).off + 5, none⟩ = some (.slice A135_5 ((rd_T46 l0 x15_1).f5).length c135_5) ∧ w'.cell? ⟨(ad135.add ((x15_1).toNat * 14)).block, (ad135.add ((x15_1).toNat * 14)).off + 6, none⟩ = some (.slice A135_6 ((rd_T46 l0 x15_1).f6).length c135_6) ∧ w'.cell? ⟨(ad135.add ((x15_1).toNat * 14)).block, (ad135.add ((x15_1).toNat * 14)).off + 7, none⟩ = some (.slice A135_7 ((rd_T46 l0 x15_1).f7).length c135_7) ∧ w'.cell? ⟨(ad135.add ((x15_1).toNat * 14)).block, (ad135.add ((x15_1).toNat * 14)).off + 8, none⟩ = some (.slice A135_8 ((rd_T46 l0 x15_1).f8).length c135_8) ∧ w'.cell? ⟨(ad135.add ((x15_1).toNat * 14)).block, (ad135.add ((x15_1).toNat * 14)).off + 9, none⟩ = some (.slice A135_9 ((rd_T46 l0 x15_1).f9).length c135_9) ∧ w'.cell? ⟨(ad135.add ((x15_1).toNat * 14)).block, (ad135.add ((x15_1).toNat * 14)).off + 10, none⟩ = some (.slice A135_10 ((rd_T46 l0 x15_1).f10).length c135_10) ∧ w'.cell? ⟨(ad135.add ((x15_1).toNat * 14)).block, (ad135.add ((x15_1).toNat * 14)).off + 11, none⟩ = some (.int .u8 ((rd_T46 l0 x15_1).f11)) ∧ w'.cell? ⟨(ad135.add ((x15_1).toNat * 14)).block, (ad135.add ((x15_1).toNat * 14)).off + 12, none⟩ = some (.int .i64 ((rd_T46 l0 x15_1).f12)) ∧ w'.cell? ⟨(ad135.add ((x15_1).toNat * 14)).block, (ad135.add ((x15_1).toNat * 14)).off + 13, none⟩ = some (.int .i64 ((rd_T46 l0 x15_1).f13)) ∧ w'.cell? (ad136.add ((x15_1).toNat * 14)) = some (.int .i64 ((rd_T46 l1 x15_1).f0)) ∧ w'.cell? ⟨(ad136.add ((x15_1).toNat * 14)).block, (ad136.add ((x15_1).toNat * 14)).off + 1, none⟩ = some (.int .i64 ((rd_T46 l1 x15_1).f1)) ∧ w'.cell? ⟨(ad136.add ((x15_1).toNat * 14)).block, (ad136.add ((x15_1).toNat * 14)).off + 2, none⟩ = some (.string ((rd_T46 l1 x15_1).f2)) ∧ w'.cell? ⟨(ad136.add ((x15_1).toNat * 14)).block, (ad136.add ((x15_1).toNat * 14)).off + 3, none⟩ = some (.int .i64 ((rd_T46 l1 x15_1).f3)) ∧ w'.cell? ⟨(ad136.add ((x15_1).toNat * 14)).block, (ad136.add ((x15_1).toNat * 14)).off + 4, none⟩ = some (.slice A136_4 ((rd_T46 l1 x15_1).f4).length c136_4) ∧ w'.cell? ⟨(ad136.add ((x15_1).toNat * 14)).block, (ad136.add ((x15_1).toNat * 14)).off + 5, none⟩ = some (.slice A136_5 ((rd_T46 l1 x15_1).f5).length c136_5) ∧ w'.cell? ⟨(ad136.add ((x15_1).toNat * 14)).block, (ad136.add ((x15_1).toNat * 14)).off + 6, none⟩ = some (.slice A136_6 ((rd_T46 l1 x15_1).f6).length c136_6) ∧ w'.cell? ⟨(ad136.add ((x15_1).toNat * 14)).block, (ad136.add ((x15_1).toNat * 14)).off + 7, none⟩ = some (.slice A136_7 ((rd_T46 l1 x15_1).f7).length c136_7) ∧ w'.cell? ⟨(ad136.add ((x15_1).toNat * 14)).block, (ad136.add ((x15_1).toNat * 14)).off + 8, none⟩ = some (.slice A136_8 ((rd_T46 l1 x15_1).f8).length c136_8) ∧ w'.cell? ⟨(ad136.add ((x15_1).toNat * 14)).block, (ad136.add ((x15_1).toNat * 14)).off + 9, none⟩ = some (.slice A136_9 ((rd_T46 l1 x15_1).f9).length c136_9) ∧ w'.cell? ⟨(ad136.add ((x15_1).toNat * 14)).block, (ad136.add ((x15_1).toNat * 14)).off + 10, none⟩ = some (.slice A136_10 ((rd_T46 l1 x15_1).f10).length c136_10) ∧ w'.cell? ⟨(ad136.add ((x15_1).toNat * 14)).block, (ad136.add ((x15_1).toNat * 14)).off + 11, none⟩ = some (.int .u8 ((rd_T46 l1 x15_1).f11)) ∧ w'.cell? ⟨(ad136.add ((x15_1).toNat * 14)).block, (ad136.add ((x15_1).toNat * 14)).off + 12, none⟩ = some (.int .i64 ((rd_T46 l1 x15_1).f12)) ∧ w'.cell? ⟨(ad136.add ((x15_1).toNat * 14)).block, (ad136.add ((x15_1).toNat * 14)).off + 13, none⟩ = some (.int .i64 ((rd_T46 l1 x15_1).f13))) ∧ (w'.heap[s_.1]? = some (.cells #[.int .i64 0, .int .i64 0, .string (⟨#[]⟩ : ByteArray), .int .i64 0, .slice none 0 0, .slice none 0 0, .slice none 0 0, .slice none 0 0, .slice none 0 0, .slice none 0 0, .slice none 0 0, .int .u8 0, .int .i64 0, .int .i64 0] 46 (0, 0))) ∧ (w'.heap[s_.2]? = some (.cells #[.int .i64 0, .int .i64 0, .string (⟨#[]⟩ : ByteArray), .int .i64 0, .slice none 0 0, .slice none 0 0, .slice none 0 0, .slice none 0 0, .slice none 0 0, .slice none 0 0, .slice none 0 0, .int .u8 0, .int .i64 0, .int .i64 0] 46 (0, 0))) ∧ (w.heap.size ≤ s_.1) ∧ (w.heap.size ≤ s_.1) ∧ (s_.2 ≠ s_.1) ∧ (s_.1 ≠ s_.2) ∧ (w.heap.size ≤ s_.2) ∧ (w.heap.size ≤ s_.2) ∧ (Below w.heap.size w w')) ?_ ?_
                rotate_left
                · intro hCont
                  refine two_ (i := 8) (j := 9) (Ni := some 6) (Nj := some 7) #[true, true, true, true, true, true, true, true, true, false, false, false] #[true, true, true, true, true, true, true, true, false, true, false, false] rfl rfl rfl rfl (two_of HT_.out (by kernel_rfl)) (by decide) (by decide) (fun K hK => ?_) (fun K hK => ?_)
                  · skip
                    refine box_step ?hg (N := 6) ?hd (cs := #[.int .i64 0, .int .i64 0, .string (⟨#[]⟩ : ByteArray), .int .i64 0, .slice none 0 0, .slice none 0 0, .slice none 0 0, .slice none 0 0, .slice none 0 0, .slice none 0 0, .slice none 0 0, .int .u8 0, .int .i64 0, .int .i64 0]) (t := 46) ?hr ?_; (case hd => rfl); (case hg => rfl); (case hr => first | (go_simp; done) | (go_simp; rfl))
                    intro gb137 hg w10 hbox hb
                    have n0_ := Aside0.mk (below_step (by repeat (first | (with_reducible first | exact HB.out | apply below_alloc | apply pw_below_drewN | apply below_drew1) | exact HB.out)) hb)
                    have n1_ := Aside0.mk (hbox)
                    have n2_ := Aside0.mk ((by rw [hg]; exact (below_size (by repeat (first | (with_reducible first | exact HB.out | apply below_alloc | apply pw_below_drewN | apply below_drew1) | exact HB.out))) : w.heap.size ≤ gb137))
                    have n3_ := Aside0.mk ((by rw [hg]; exact (below_size (by repeat (first | (with_reducible first | exact HB.out | apply below_alloc | apply pw_below_drewN | apply below_drew1) | exact HB.out))) : w.heap.size ≤ gb137))
                    clear HB
                    have HB := n0_
                    have BK137 := n1_
                    have GW137 := n2_
                    have GE137 := n3_
                    clear n0_ n1_ n2_ n3_
                    clear hb hbox hg
                    refine hK.out _ _ ⟨((HB.out.cell (World.block_lt_of_cell? w _ hw135_0)).trans hw135_0), ((HB.out.cell (World.block_lt_of_cell? w _ hw135_1)).trans hw135_1), ((HB.out.cell (World.block_lt_of_cell? w _ hw135_2)).trans hw135_2), ((HB.out.cell (World.block_lt_of_cell? w _ hw135_3)).trans hw135_3), ((HB.out.cell (World.block_lt_of_cell? w _ hw135_4)).trans hw135_4), ((HB.out.cell (World.block_lt_of_cell? w _ hw135_5)).trans hw135_5), ((HB.out.cell (World.block_lt_of_cell? w _ hw135_6)).trans hw135_6), ((HB.out.cell (World.block_lt_of_cell? w _ hw135_7)).trans hw135_7), ((HB.out.cell (World.block_lt_of_cell? w _ hw135_8)).trans hw135_8), ((HB.out.cell (World.block_lt_of_cell? w _ hw135_9)).trans hw135_9), ((HB.out.cell (World.block_lt_of_cell? w _ hw135_10)).trans hw135_10), ((HB.out.cell (World.block_lt_of_cell? w _ hw135_11)).trans hw135_11), ((HB.out.cell (World.block_lt_of_cell? w _ hw135_12)).trans hw135_12), ((HB.out.cell (World.block_lt_of_cell? w _ hw135_13)).trans hw135_13), ((HB.out.cell (World.block_lt_of_cell? w _ hw136_0)).trans hw136_0), ((HB.out.cell (World.block_lt_of_cell? w _ hw136_1)).trans hw136_1), ((HB.out.cell (World.block_lt_of_cell? w _ hw136_2)).trans hw136_2), ((HB.out.cell (World.block_lt_of_cell? w _ hw136_3)).trans hw136_3), ((HB.out.cell (World.block_lt_of_cell? w _ hw136_4)).trans hw136_4), ((HB.out.cell (World.block_lt_of_cell? w _ hw136_5)).trans hw136_5), ((HB.out.cell (World.block_lt_of_cell? w _ hw136_6)).trans hw136_6), ((HB.out.cell (World.block_lt_of_cell? w _ hw136_7)).trans hw136_7), ((HB.out.cell (World.block_lt_of_cell? w _ hw136_8)).trans hw136_8), ((HB.out.cell (World.block_lt_of_cell? w _ hw136_9)).trans hw136_9), ((HB.out.cell (World.block_lt_of_cell? w _ hw136_10)).trans hw136_10), ((HB.out.cell (World.block_lt_of_cell? w _ hw136_11)).trans hw136_11), ((HB.out.cell (World.block_lt_of_cell? w _ hw136_12)).trans hw136_12), ((HB.out.cell (World.block_lt_of_cell? w _ hw136_13)).trans hw136_13)⟩ (fun hHeld => ?_)
                    clear hK K
                    refine norm_ (a' := ?_) ?_ ?_
                    rotate_left
                    · show Act.put _ (some 6) _ = _
                      simp only [Act.put, List.setIfInBounds_toArray, List.set_cons_zero, List.set_cons_succ, i64_w, i32_w]
                      rfl
                    refine one_ (i := 9) (N := some 7) #[true, true, true, true, true, true, true, true, true, true, false, false] rfl rfl (one_of HT_.out (by kernel_rfl)) (by decide) (fun K hK => ?_)
                    refine box_step ?hg (N := 7) ?hd (cs := #[.int .i64 0, .int .i64 0, .string (⟨#[]⟩ : ByteArray), .int .i64 0, .slice none 0 0, .slice none 0 0, .slice none 0 0, .slice none 0 0, .slice none 0 0, .slice none 0 0, .slice none 0 0, .int .u8 0, .int .i64 0, .int .i64 0]) (t := 46) ?hr ?_; (case hd => rfl); (case hg => rfl); (case hr => first | (go_simp; done) | (go_simp; rfl))
                    intro gb138 hg w11 hbox hb
                    have n0_ := Aside0.mk (blk_below (g := gb137) (o := .cells #[.int .i64 0, .int .i64 0, .string (⟨#[]⟩ : ByteArray), .int .i64 0, .slice none 0 0, .slice none 0 0, .slice none 0 0, .slice none 0 0, .slice none 0 0, .slice none 0 0, .slice none 0 0, .int .u8 0, .int .i64 0, .int .i64 0] 46 (0, 0)) (by (with_reducible repeat (first | refine blk_drewN ?_ _ | refine blk_drew ?_ | refine blk_alloc ?_ _)); exact BK137.out) hb)
                    have n1_ := Aside0.mk (below_step (by repeat (first | (with_reducible first | exact HB.out | apply below_alloc | apply pw_below_drewN | apply below_drew1 | refine below_set ?_ GE137.out) | exact HB.out)) hb)
                    have n2_ := Aside0.mk (hbox)
                    have n3_ := Aside0.mk ((by rw [hg]; exact (below_size (by repeat (first | (with_reducible first | exact HB.out | apply below_alloc | apply pw_below_drewN | apply below_drew1 | refine below_set ?_ GE137.out) | exact HB.out))) : w.heap.size ≤ gb138))
                    have n4_ := Aside0.mk ((by rw [hg]; exact (below_size (by repeat (first | (with_reducible first | exact HB.out | apply below_alloc | apply pw_below_drewN | apply below_drew1 | refine below_set ?_ GE137.out) | exact HB.out))) : w.heap.size ≤ gb138))
                    have n5_ := Aside0.mk ((by rw [hg]; exact Nat.ne_of_lt (blk_lt (g := gb137) (o := .cells #[.int .i64 0, .int .i64 0, .string (⟨#[]⟩ : ByteArray), .int .i64 0, .slice none 0 0, .slice none 0 0, .slice none 0 0, .slice none 0 0, .slice none 0 0, .slice none 0 0, .slice none 0 0, .int .u8 0, .int .i64 0, .int .i64 0] 46 (0, 0)) (by (with_reducible repeat (first | refine blk_drewN ?_ _ | refine blk_drew ?_ | refine blk_alloc ?_ _)); exact BK137.out)) : gb137 ≠ gb138))
                    have n6_ := Aside0.mk ((by rw [hg]; exact Nat.ne_of_gt (blk_lt (g := gb137) (o := .cells #[.int .i64 0, .int .i64 0, .string (⟨#[]⟩ : ByteArray), .int .i64 0, .slice none 0 0, .slice none 0 0, .slice none 0 0, .slice none 0 0, .slice none 0 0, .slice none 0 0, .slice none 0 0, .int .u8 0, .int .i64 0, .int .i64 0] 46 (0, 0)) (by (with_reducible repeat (first | refine blk_drewN ?_ _ | refine blk_drew ?_ | refine blk_alloc ?_ _)); exact BK137.out)) : gb138 ≠ gb137))
                    clear BK137
                    clear HB
                    have BK137 := n0_
                    have HB := n1_
                    have BK138 := n2_
                    have GW138 := n3_
                    have GE138 := n4_
                    have NB137_138 := n5_
                    have NB138_137 := n6_
                    clear n0_ n1_ n2_ n3_ n4_ n5_ n6_
                    clear hb hbox hg
                    refine hK.out _ _ ⟨((HB.out.cell (World.block_lt_of_cell? w _ hw135_0)).trans hw135_0), ((HB.out.cell (World.block_lt_of_cell? w _ hw135_1)).trans hw135_1), ((HB.out.cell (World.block_lt_of_cell? w _ hw135_2)).trans hw135_2), ((HB.out.cell (World.block_lt_of_cell? w _ hw135_3)).trans hw135_3), ((HB.out.cell (World.block_lt_of_cell? w _ hw135_4)).trans hw135_4), ((HB.out.cell (World.block_lt_of_cell? w _ hw135_5)).trans hw135_5), ((HB.out.cell (World.block_lt_of_cell? w _ hw135_6)).trans hw135_6), ((HB.out.cell (World.block_lt_of_cell? w _ hw135_7)).trans hw135_7), ((HB.out.cell (World.block_lt_of_cell? w _ hw135_8)).trans hw135_8), ((HB.out.cell (World.block_lt_of_cell? w _ hw135_9)).trans hw135_9), ((HB.out.cell (World.block_lt_of_cell? w _ hw135_10)).trans hw135_10), ((HB.out.cell (World.block_lt_of_cell? w _ hw135_11)).trans hw135_11), ((HB.out.cell (World.block_lt_of_cell? w _ hw135_12)).trans hw135_12), ((HB.out.cell (World.block_lt_of_cell? w _ hw135_13)).trans hw135_13), ((HB.out.cell (World.block_lt_of_cell? w _ hw136_0)).trans hw136_0), ((HB.out.cell (World.block_lt_of_cell? w _ hw136_1)).trans hw136_1), ((HB.out.cell (World.block_lt_of_cell? w _ hw136_2)).trans hw136_2), ((HB.out.cell (World.block_lt_of_cell? w _ hw136_3)).trans hw136_3), ((HB.out.cell (World.block_lt_of_cell? w _ hw136_4)).trans hw136_4), ((HB.out.cell (World.block_lt_of_cell? w _ hw136_5)).trans hw136_5), ((HB.out.cell (World.block_lt_of_cell? w _ hw136_6)).trans hw136_6), ((HB.out.cell (World.block_lt_of_cell? w _ hw136_7)).trans hw136_7), ((HB.out.cell (World.block_lt_of_cell? w _ hw136_8)).trans hw136_8), ((HB.out.cell (World.block_lt_of_cell? w _ hw136_9)).trans hw136_9), ((HB.out.cell (World.block_lt_of_cell? w _ hw136_10)).trans hw136_10), ((HB.out.cell (World.block_lt_of_cell? w _ hw136_11)).trans hw136_11), ((HB.out.cell (World.block_lt_of_cell? w _ hw136_12)).trans hw136_12), ((HB.out.cell (World.block_lt_of_cell? w _ hw136_13)).trans hw136_13)⟩ (fun hHeld => ?_)
                    clear hK K
                    refine norm_ (a' := ?_) ?_ ?_
                    rotate_left
                    · show Act.put _ (some 7) _ = _
                      simp only [Act.put, List.setIfInBounds_toArray, List.set_cons_zero, List.set_cons_succ, i64_w, i32_w]
                      rfl
                    exact norm_ (by simp only [putAll, Act.put, List.setIfInBounds_toArray, List.set_cons_zero, List.set_cons_succ]) (hCont (gb137, gb138) _ ⟨hHeld, (by (with_reducible repeat (first | refine blk_drewN ?_ _ | refine blk_drew ?_ | refine blk_alloc ?_ _)); exact BK137.out), (by (with_reducible repeat (first | refine blk_drewN ?_ _ | refine blk_drew ?_ | refine blk_alloc ?_ _)); exact BK138.out), GW137.out, GE137.out, NB138_137.out, NB137_138.out, GW138.out, GE138.out, (by repeat (first | (with_reducible first | exact HB.out | apply below_alloc | apply pw_below_drewN | apply below_drew1 | refine below_set ?_ GE137.out | refine below_set ?_ GE138.out) | exact HB.out))⟩)
                  · skip
                    refine box_step ?hg (N := 7) ?hd (cs := #[.int .i64 0, .int .i64 0, .string (⟨#[]⟩ : ByteArray), .int .i64 0, .slice none 0 0, .slice none 0 0, .slice none 0 0, .slice none 0 0, .slice none 0 0, .slice none 0 0, .slice none 0 0, .int .u8 0, .int .i64 0, .int .i64 0]) (t := 46) ?hr ?_; (case hd => rfl); (case hg => rfl); (case hr => first | (go_simp; done) | (go_simp; rfl))
                    intro gb138 hg w10 hbox hb
                    have n0_ := Aside0.mk (below_step (by repeat (first | (with_reducible first | exact HB.out | apply below_alloc | apply pw_below_drewN | apply below_drew1) | exact HB.out)) hb)
                    have n1_ := Aside0.mk (hbox)
                    have n2_ := Aside0.mk ((by rw [hg]; exact (below_size (by repeat (first | (with_reducible first | exact HB.out | apply below_alloc | apply pw_below_drewN | apply below_drew1) | exact HB.out))) : w.heap.size ≤ gb138))
                    have n3_ := Aside0.mk ((by rw [hg]; exact (below_size (by repeat (first | (with_reducible first | exact HB.out | apply below_alloc | apply pw_below_drewN | apply below_drew1) | exact HB.out))) : w.heap.size ≤ gb138))
                    clear HB
                    have HB := n0_
                    have BK138 := n1_
                    have GW138 := n2_
                    have GE138 := n3_
                    clear n0_ n1_ n2_ n3_
                    clear hb hbox hg
                    refine hK.out _ _ ⟨((HB.out.cell (World.block_lt_of_cell? w _ hw135_0)).trans hw135_0), ((HB.out.cell (World.block_lt_of_cell? w _ hw135_1)).trans hw135_1), ((HB.out.cell (World.block_lt_of_cell? w _ hw135_2)).trans hw135_2), ((HB.out.cell (World.block_lt_of_cell? w _ hw135_3)).trans hw135_3), ((HB.out.cell (World.block_lt_of_cell? w _ hw135_4)).trans hw135_4), ((HB.out.cell (World.block_lt_of_cell? w _ hw135_5)).trans hw135_5), ((HB.out.cell (World.block_lt_of_cell? w _ hw135_6)).trans hw135_6), ((HB.out.cell (World.block_lt_of_cell? w _ hw135_7)).trans hw135_7), ((HB.out.cell (World.block_lt_of_cell? w _ hw135_8)).trans hw135_8), ((HB.out.cell (World.block_lt_of_cell? w _ hw135_9)).trans hw135_9), ((HB.out.cell (World.block_lt_of_cell? w _ hw135_10)).trans hw135_10), ((HB.out.cell (World.block_lt_of_cell? w _ hw135_11)).trans hw135_11), ((HB.out.cell (World.block_lt_of_cell? w _ hw135_12)).trans hw135_12), ((HB.out.cell (World.block_lt_of_cell? w _ hw135_13)).trans hw135_13), ((HB.out.cell (World.block_lt_of_cell? w _ hw136_0)).trans hw136_0), ((HB.out.cell (World.block_lt_of_cell? w _ hw136_1)).trans hw136_1), ((HB.out.cell (World.block_lt_of_cell? w _ hw136_2)).trans hw136_2), ((HB.out.cell (World.block_lt_of_cell? w _ hw136_3)).trans hw136_3), ((HB.out.cell (World.block_lt_of_cell? w _ hw136_4)).trans hw136_4), ((HB.out.cell (World.block_lt_of_cell? w _ hw136_5)).trans hw136_5), ((HB.out.cell (World.block_lt_of_cell? w _ hw136_6)).trans hw136_6), ((HB.out.cell (World.block_lt_of_cell? w _ hw136_7)).trans hw136_7), ((HB.out.cell (World.block_lt_of_cell? w _ hw136_8)).trans hw136_8), ((HB.out.cell (World.block_lt_of_cell? w _ hw136_9)).trans hw136_9), ((HB.out.cell (World.block_lt_of_cell? w _ hw136_10)).trans hw136_10), ((HB.out.cell (World.block_lt_of_cell? w _ hw136_11)).trans hw136_11), ((HB.out.cell (World.block_lt_of_cell? w _ hw136_12)).trans hw136_12), ((HB.out.cell (World.block_lt_of_cell? w _ hw136_13)).trans hw136_13)⟩ (fun hHeld => ?_)
                    clear hK K
                    refine norm_ (a' := ?_) ?_ ?_
                    rotate_left
                    · show Act.put _ (some 7) _ = _
                      simp only [Act.put, List.setIfInBounds_toArray, List.set_cons_zero, List.set_cons_succ, i64_w, i32_w]
                      rfl
                    refine one_ (i := 8) (N := some 6) #[true, true, true, true, true, true, true, true, true, true, false, false] rfl rfl (one_of HT_.out (by kernel_rfl)) (by decide) (fun K hK => ?_)
                    refine box_step ?hg (N := 6) ?hd (cs := #[.int .i64 0, .int .i64 0, .string (⟨#[]⟩ : ByteArray), .int .i64 0, .slice none 0 0, .slice none 0 0, .slice none 0 0, .slice none 0 0, .slice none 0 0, .slice none 0 0, .slice none 0 0, .int .u8 0, .int .i64 0, .int .i64 0]) (t := 46) ?hr ?_; (case hd => rfl); (case hg => rfl); (case hr => first | (go_simp; done) | (go_simp; rfl))
                    intro gb137 hg w11 hbox hb
                    have n0_ := Aside0.mk (blk_below (g := gb138) (o := .cells #[.int .i64 0, .int .i64 0, .string (⟨#[]⟩ : ByteArray), .int .i64 0, .slice none 0 0, .slice none 0 0, .slice none 0 0, .slice none 0 0, .slice none 0 0, .slice none 0 0, .slice none 0 0, .int .u8 0, .int .i64 0, .int .i64 0] 46 (0, 0)) (by (with_reducible repeat (first | refine blk_drewN ?_ _ | refine blk_drew ?_ | refine blk_alloc ?_ _)); exact BK138.out) hb)
                    have n1_ := Aside0.mk (below_step (by repeat (first | (with_reducible first | exact HB.out | apply below_alloc | apply pw_below_drewN | apply below_drew1 | refine below_set ?_ GE138.out) | exact HB.out)) hb)
                    have n2_ := Aside0.mk (hbox)
                    have n3_ := Aside0.mk ((by rw [hg]; exact (below_size (by repeat (first | (with_reducible first | exact HB.out | apply below_alloc | apply pw_below_drewN | apply below_drew1 | refine below_set ?_ GE138.out) | exact HB.out))) : w.heap.size ≤ gb137))
                    have n4_ := Aside0.mk ((by rw [hg]; exact (below_size (by repeat (first | (with_reducible first | exact HB.out | apply below_alloc | apply pw_below_drewN | apply below_drew1 | refine below_set ?_ GE138.out) | exact HB.out))) : w.heap.size ≤ gb137))
                    have n5_ := Aside0.mk ((by rw [hg]; exact Nat.ne_of_lt (blk_lt (g := gb138) (o := .cells #[.int .i64 0, .int .i64 0, .string (⟨#[]⟩ : ByteArray), .int .i64 0, .slice none 0 0, .slice none 0 0, .slice none 0 0, .slice none 0 0, .slice none 0 0, .slice none 0 0, .slice none 0 0, .int .u8 0, .int .i64 0, .int .i64 0] 46 (0, 0)) (by (with_reducible repeat (first | refine blk_drewN ?_ _ | refine blk_drew ?_ | refine blk_alloc ?_ _)); exact BK138.out)) : gb138 ≠ gb137))
                    have n6_ := Aside0.mk ((by rw [hg]; exact Nat.ne_of_gt (blk_lt (g := gb138) (o := .cells #[.int .i64 0, .int .i64 0, .string (⟨#[]⟩ : ByteArray), .int .i64 0, .slice none 0 0, .slice none 0 0, .slice none 0 0, .slice none 0 0, .slice none 0 0, .slice none 0 0, .slice none 0 0, .int .u8 0, .int .i64 0, .int .i64 0] 46 (0, 0)) (by (with_reducible repeat (first | refine blk_drewN ?_ _ | refine blk_drew ?_ | refine blk_alloc ?_ _)); exact BK138.out)) : gb137 ≠ gb138))
                    clear BK138
                    clear HB
                    have BK138 := n0_
                    have HB := n1_
                    have BK137 := n2_
                    have GW137 := n3_
                    have GE137 := n4_
                    have NB138_137 := n5_
                    have NB137_138 := n6_
                    clear n0_ n1_ n2_ n3_ n4_ n5_ n6_
                    clear hb hbox hg
                    refine hK.out _ _ ⟨((HB.out.cell (World.block_lt_of_cell? w _ hw135_0)).trans hw135_0), ((HB.out.cell (World.block_lt_of_cell? w _ hw135_1)).trans hw135_1), ((HB.out.cell (World.block_lt_of_cell? w _ hw135_2)).trans hw135_2), ((HB.out.cell (World.block_lt_of_cell? w _ hw135_3)).trans hw135_3), ((HB.out.cell (World.block_lt_of_cell? w _ hw135_4)).trans hw135_4), ((HB.out.cell (World.block_lt_of_cell? w _ hw135_5)).trans hw135_5), ((HB.out.cell (World.block_lt_of_cell? w _ hw135_6)).trans hw135_6), ((HB.out.cell (World.block_lt_of_cell? w _ hw135_7)).trans hw135_7), ((HB.out.cell (World.block_lt_of_cell? w _ hw135_8)).trans hw135_8), ((HB.out.cell (World.block_lt_of_cell? w _ hw135_9)).trans hw135_9), ((HB.out.cell (World.block_lt_of_cell? w _ hw135_10)).trans hw135_10), ((HB.out.cell (World.block_lt_of_cell? w _ hw135_11)).trans hw135_11), ((HB.out.cell (World.block_lt_of_cell? w _ hw135_12)).trans hw135_12), ((HB.out.cell (World.block_lt_of_cell? w _ hw135_13)).trans hw135_13), ((HB.out.cell (World.block_lt_of_cell? w _ hw136_0)).trans hw136_0), ((HB.out.cell (World.block_lt_of_cell? w _ hw136_1)).trans hw136_1), ((HB.out.cell (World.block_lt_of_cell? w _ hw136_2)).trans hw136_2), ((HB.out.cell (World.block_lt_of_cell? w _ hw136_3)).trans hw136_3), ((HB.out.cell (World.block_lt_of_cell? w _ hw136_4)).trans hw136_4), ((HB.out.cell (World.block_lt_of_cell? w _ hw136_5)).trans hw136_5), ((HB.out.cell (World.block_lt_of_cell? w _ hw136_6)).trans hw136_6), ((HB.out.cell (World.block_lt_of_cell? w _ hw136_7)).trans hw136_7), ((HB.out.cell (World.block_lt_of_cell? w _ hw136_8)).trans hw136_8), ((HB.out.cell (World.block_lt_of_cell? w _ hw136_9)).trans hw136_9), ((HB.out.cell (World.block_lt_of_cell? w _ hw136_10)).trans hw136_10), ((HB.out.cell (World.block_lt_of_cell? w _ hw136_11)).trans hw136_11), ((HB.out.cell (World.block_lt_of_cell? w _ hw136_12)).trans hw136_12), ((HB.out.cell (World.block_lt_of_cell? w _ hw136_13)).trans hw136_13)⟩ (fun hHeld => ?_)
                    clear hK K
                    refine norm_ (a' := ?_) ?_ ?_
                    rotate_left
                    · show Act.put _ (some 6) _ = _
                      simp only [Act.put, List.setIfInBounds_toArray, List.set_cons_zero, List.set_cons_succ, i64_w, i32_w]
                      rfl
                    exact norm_ (by simp only [putAll, Act.put, List.setIfInBounds_toArray, List.set_cons_zero, List.set_cons_succ]) (hCont (gb137, gb138) _ ⟨hHeld, (by (with_reducible repeat (first | refine blk_drewN ?_ _ | refine blk_drew ?_ | refine blk_alloc ?_ _)); exact BK137.out), (by (with_reducible repeat (first | refine blk_drewN ?_ _ | refine blk_drew ?_ | refine blk_alloc ?_ _)); exact BK138.out), GW137.out, GE137.out, NB138_137.out, NB137_138.out, GW138.out, GE138.out, (by repeat (first | (with_reducible first | exact HB.out | apply below_alloc | apply pw_below_drewN | apply below_drew1 | refine below_set ?_ GE138.out | refine below_set ?_ GE137.out) | exact HB.out))⟩)
                rintro ⟨gb137, gb138⟩ w12 ⟨hS_, h0_, h1_, h2_, h3_, h4_, h5_, h6_, h7_, h8_⟩
                have n0_ : Aside0 (w12.heap[gb137]? = some (.cells #[.int .i64 0, .int .i64 0, .string (⟨#[]⟩ : ByteArray), .int .i64 0, .slice none 0 0, .slice none 0 0, .slice none 0 0, .slice none 0 0, .slice none 0 0, .slice none 0 0, .slice none 0 0, .int .u8 0, .int .i64 0, .int .i64 0] 46 (0, 0))) := ⟨h0_⟩
                have n1_ : Aside0 (w12.heap[gb138]? = some (.cells #[.int .i64 0, .int .i64 0, .string (⟨#[]⟩ : ByteArray), .int .i64 0, .slice none 0 0, .slice none 0 0, .slice none 0 0, .slice none 0 0, .slice none 0 0, .slice none 0 0, .slice none 0 0, .int .u8 0, .int .i64 0, .int .i64 0] 46 (0, 0))) := ⟨h1_⟩
                have n2_ : Aside0 (w.heap.size ≤ gb137) := ⟨h2_⟩
                have n3_ : Aside0 (w.heap.size ≤ gb137) := ⟨h3_⟩
                have n4_ : Aside0 (gb138 ≠ gb137) := ⟨h4_⟩
                have n5_ : Aside0 (gb137 ≠ gb138) := ⟨h5_⟩
                have n6_ : Aside0 (w.heap.size ≤ gb138) := ⟨h6_⟩
                have n7_ : Aside0 (w.heap.size ≤ gb138) := ⟨h7_⟩
                have n8_ : Aside0 (Below w.heap.size w w12) := ⟨h8_⟩
                clear HB
                clear h0_ h1_ h2_ h3_ h4_ h5_ h6_ h7_ h8_
                have BK137 := n0_
                have BK138 := n1_
                have GW137 := n2_
                have GE137 := n3_
                have NB138_137 := n4_
                have NB137_138 := n5_
                have GW138 := n6_
                have GE138 := n7_
                have HB := n8_
                clear n0_ n1_ n2_ n3_ n4_ n5_ n6_ n7_ n8_
                have hHeld : w12.cell? (ad135.add ((x15_1).toNat * 14)) = some (.int .i64 ((rd_T46 l0 x15_1).f0)) ∧ w12.cell? ⟨(ad135.add ((x15_1).toNat * 14)).block, (ad135.add ((x15_1).toNat * 14)).off + 1, none⟩ = some (.int .i64 ((rd_T46 l0 x15_1).f1)) ∧ w12.cell? ⟨(ad135.add ((x15_1).toNat * 14)).block, (ad135.add ((x15_1).toNat * 14)).off + 2, none⟩ = some (.string ((rd_T46 l0 x15_1).f2)) ∧ w12.cell? ⟨(ad135.add ((x15_1).toNat * 14)).block, (ad135.add ((x15_1).toNat * 14)).off + 3, none⟩ = some (.int .i64 ((rd_T46 l0 x15_1).f3)) ∧ w12.cell? ⟨(ad135.add ((x15_1).toNat * 14)).block, (ad135.add ((x15_1).toNat * 14)).off + 4, none⟩ = some (.slice A135_4 ((rd_T46 l0 x15_1).f4).length c135_4) ∧ w12.cell? ⟨(ad135.add ((x15_1).toNat * 14)).block, (ad135.add ((x15_1).toNat * 14)).off + 5, none⟩ = some (.slice A135_5 ((rd_T46 l0 x15_1).f5).length c135_5) ∧ w12.cell? ⟨(ad135.add ((x15_1).toNat * 14)).block, (ad135.add ((x15_1).toNat * 14)).off + 6, none⟩ = some (.slice A135_6 ((rd_T46 l0 x15_1).f6).length c135_6) ∧ w12.cell? ⟨(ad135.add ((x15_1).toNat * 14)).block, (ad135.add ((x15_1).toNat * 14)).off + 7, none⟩ = some (.slice A135_7 ((rd_T46 l0 x15_1).f7).length c135_7) ∧ w12.cell? ⟨(ad135.add ((x15_1).toNat * 14)).block, (ad135.add ((x15_1).toNat * 14)).off + 8, none⟩ = some (.slice A135_8 ((rd_T46 l0 x15_1).f8).length c135_8) ∧ w12.cell? ⟨(ad135.add ((x15_1).toNat * 14)).block, (ad135.add ((x15_1).toNat * 14)).off + 9, none⟩ = some (.slice A135_9 ((rd_T46 l0 x15_1).f9).length c135_9) ∧ w12.cell? ⟨(ad135.add ((x15_1).toNat * 14)).block, (ad135.add ((x15_1).toNat * 14)).off + 10, none⟩ = some (.slice A135_10 ((rd_T46 l0 x15_1).f10).length c135_10) ∧ w12.cell? ⟨(ad135.add ((x15_1).toNat * 14)).block, (ad135.add ((x15_1).toNat * 14)).off + 11, none⟩ = some (.int .u8 ((rd_T46 l0 x15_1).f11)) ∧ w12.cell? ⟨(ad135.add ((x15_1).toNat * 14)).block, (ad135.add ((x15_1).toNat * 14)).off + 12, none⟩ = some (.int .i64 ((rd_T46 l0 x15_1).f12)) ∧ w12.cell? ⟨(ad135.add ((x15_1).toNat * 14)).block, (ad135.add ((x15_1).toNat * 14)).off + 13, none⟩ = some (.int .i64 ((rd_T46 l0 x15_1).f13)) ∧ w12.cell? (ad136.add ((x15_1).toNat * 14)) = some (.int .i64 ((rd_T46 l1 x15_1).f0)) ∧ w12.cell? ⟨(ad136.add ((x15_1).toNat * 14)).block, (ad136.add ((x15_1).toNat * 14)).off + 1, none⟩ = some (.int .i64 ((rd_T46 l1 x15_1).f1)) ∧ w12.cell? ⟨(ad136.add ((x15_1).toNat * 14)).block, (ad136.add ((x15_1).toNat * 14)).off + 2, none⟩ = some (.string ((rd_T46 l1 x15_1).f2)) ∧ w12.cell? ⟨(ad136.add ((x15_1).toNat * 14)).block, (ad136.add ((x15_1).toNat * 14)).off + 3, none⟩ = some (.int .i64 ((rd_T46 l1 x15_1).f3)) ∧ w12.cell? ⟨(ad136.add ((x15_1).toNat * 14)).block, (ad136.add ((x15_1).toNat * 14)).off + 4, none⟩ = some (.slice A136_4 ((rd_T46 l1 x15_1).f4).length c136_4) ∧ w12.cell? ⟨(ad136.add ((x15_1).toNat * 14)).block, (ad136.add ((x15_1).toNat * 14)).off + 5, none⟩ = some (.slice A136_5 ((rd_T46 l1 x15_1).f5).length c136_5) ∧ w12.cell? ⟨(ad136.add ((x15_1).toNat * 14)).block, (ad136.add ((x15_1).toNat * 14)).off + 6, none⟩ = some (.slice A136_6 ((rd_T46 l1 x15_1).f6).length c136_6) ∧ w12.cell? ⟨(ad136.add ((x15_1).toNat * 14)).block, (ad136.add ((x15_1).toNat * 14)).off + 7, none⟩ = some (.slice A136_7 ((rd_T46 l1 x15_1).f7).length c136_7) ∧ w12.cell? ⟨(ad136.add ((x15_1).toNat * 14)).block, (ad136.add ((x15_1).toNat * 14)).off + 8, none⟩ = some (.slice A136_8 ((rd_T46 l1 x15_1).f8).length c136_8) ∧ w12.cell? ⟨(ad136.add ((x15_1).toNat * 14)).block, (ad136.add ((x15_1).toNat * 14)).off + 9, none⟩ = some (.slice A136_9 ((rd_T46 l1 x15_1).f9).length c136_9) ∧ w12.cell? ⟨(ad136.add ((x15_1).toNat * 14)).block, (ad136.add ((x15_1).toNat * 14)).off + 10, none⟩ = some (.slice A136_10 ((rd_T46 l1 x15_1).f10).length c136_10) ∧ w12.cell? ⟨(ad136.add ((x15_1).toNat * 14)).block, (ad136.add ((x15_1).toNat * 14)).off + 11, none⟩ = some (.int .u8 ((rd_T46 l1 x15_1).f11)) ∧ w12.cell? ⟨(ad136.add ((x15_1).toNat * 14)).block, (ad136.add ((x15_1).toNat * 14)).off + 12, none⟩ = some (.int .i64 ((rd_T46 l1 x15_1).f12)) ∧ w12.cell? ⟨(ad136.add ((x15_1).toNat * 14)).block, (ad136.add ((x15_1).toNat * 14)).off + 13, none⟩ = some (.int .i64 ((rd_T46 l1 x15_1).f13)) := hS_
                refine norm_ (a' := ?_) ?_ ?_
                rotate_left
                · simp only [putAll, Act.put, List.setIfInBounds_toArray, List.set_cons_zero, List.set_cons_succ]
                  rfl
                refine one_ (i := 10) (N := none) #[true, true, true, true, true, true, true, true, true, true, true, false] rfl rfl (one_of HT_.out (by kernel_rfl)) (by decide) (fun K hK => ?_)
                have hs13 : w12.cell? ⟨gb137, 0, none⟩ = some (.int .i64 0) := (blk_cell BK137.out 0).trans rfl
                have hfs13 := blk_frozen BK137.out 0
                have hns13_1 := NB138_137.out
                have hms13_1 := NB137_138.out
                have hs14 : w12.cell? ⟨gb137, 1, none⟩ = some (.int .i64 0) := (blk_cell BK137.out 1).trans rfl
                have hfs14 := blk_frozen BK137.out 1
                have hns14_1 := NB138_137.out
                have hms14_1 := NB137_138.out
                have hs15 : w12.cell? ⟨gb137, 2, none⟩ = some (.string (⟨#[]⟩ : ByteArray)) := (blk_cell BK137.out 2).trans rfl
                have hfs15 := blk_frozen BK137.out 2
                have hns15_1 := NB138_137.out
                have hms15_1 := NB137_138.out
                have hs16 : w12.cell? ⟨gb137, 3, none⟩ = some (.int .i64 0) := (blk_cell BK137.out 3).trans rfl
                have hfs16 := blk_frozen BK137.out 3
                have hns16_1 := NB138_137.out
                have hms16_1 := NB137_138.out
                have hs17 : w12.cell? ⟨gb137, 4, none⟩ = some (.slice none 0 0) := (blk_cell BK137.out 4).trans rfl
                have hfs17 := blk_frozen BK137.out 4
                have hns17_1 := NB138_137.out
                have hms17_1 := NB137_138.out
                have hs18 : w12.cell? ⟨gb137, 5, none⟩ = some (.slice none 0 0) := (blk_cell BK137.out 5).trans rfl
                have hfs18 := blk_frozen BK137.out 5
                have hns18_1 := NB138_137.out
                have hms18_1 := NB137_138.out
                have hs19 : w12.cell? ⟨gb137, 6, none⟩ = some (.slice none 0 0) := (blk_cell BK137.out 6).trans rfl
                have hfs19 := blk_frozen BK137.out 6
                have hns19_1 := NB138_137.out
                have hms19_1 := NB137_138.out
                have hs20 : w12.cell? ⟨gb137, 7, none⟩ = some (.slice none 0 0) := (blk_cell BK137.out 7).trans rfl
                have hfs20 := blk_frozen BK137.out 7
                have hns20_1 := NB138_137.out
                have hms20_1 := NB137_138.out
                have hs21 : w12.cell? ⟨gb137, 8, none⟩ = some (.slice none 0 0) := (blk_cell BK137.out 8).trans rfl
                have hfs21 := blk_frozen BK137.out 8
                have hns21_1 := NB138_137.out
                have hms21_1 := NB137_138.out
                have hs22 : w12.cell? ⟨gb137, 9, none⟩ = some (.slice none 0 0) := (blk_cell BK137.out 9).trans rfl
                have hfs22 := blk_frozen BK137.out 9
                have hns22_1 := NB138_137.out
                have hms22_1 := NB137_138.out
                have hs23 : w12.cell? ⟨gb137, 10, none⟩ = some (.slice none 0 0) := (blk_cell BK137.out 10).trans rfl
                have hfs23 := blk_frozen BK137.out 10
                have hns23_1 := NB138_137.out
                have hms23_1 := NB137_138.out
                have hs24 : w12.cell? ⟨gb137, 11, none⟩ = some (.int .u8 0) := (blk_cell BK137.out 11).trans rfl
                have hfs24 := blk_frozen BK137.out 11
                have hns24_1 := NB138_137.out
                have hms24_1 := NB137_138.out
                have hs25 : w12.cell? ⟨gb137, 12, none⟩ = some (.int .i64 0) := (blk_cell BK137.out 12).trans rfl
                have hfs25 := blk_frozen BK137.out 12
                have hns25_1 := NB138_137.out
                have hms25_1 := NB137_138.out
                have hs26 : w12.cell? ⟨gb137, 13, none⟩ = some (.int .i64 0) := (blk_cell BK137.out 13).trans rfl
                have hfs26 := blk_frozen BK137.out 13
                have hns26_1 := NB138_137.out
                have hms26_1 := NB137_138.out
                refine skipN_ (w1 := ?_) rfl rfl ?_ ?_
                rotate_left
                · go_simp
                  rfl
                refine hK.out _ _ ⟨(far14b hw135_0 GW137.out (hHeld.1)), (far14b hw135_1 GW137.out (hHeld.2.1)), (far14b hw135_2 GW137.out (hHeld.2.2.1)), (far14b hw135_3 GW137.out (hHeld.2.2.2.1)), (far14b hw135_4 GW137.out (hHeld.2.2.2.2.1)), (far14b hw135_5 GW137.out (hHeld.2.2.2.2.2.1)), (far14b hw135_6 GW137.out (hHeld.2.2.2.2.2.2.1)), (far14b hw135_7 GW137.out (hHeld.2.2.2.2.2.2.2.1)), (far14b hw135_8 GW137.out (hHeld.2.2.2.2.2.2.2.2.1)), (far14b hw135_9 GW137.out (hHeld.2.2.2.2.2.2.2.2.2.1)), (far14b hw135_10 GW137.out (hHeld.2.2.2.2.2.2.2.2.2.2.1)), (far14b hw135_11 GW137.out (hHeld.2.2.2.2.2.2.2.2.2.2.2.1)), (far14b hw135_12 GW137.out (hHeld.2.2.2.2.2.2.2.2.2.2.2.2.1)), (far14b hw135_13 GW137.out (hHeld.2.2.2.2.2.2.2.2.2.2.2.2.2.1)), (far14b hw136_0 GW137.out (hHeld.2.2.2.2.2.2.2.2.2.2.2.2.2.2.1)), (far14b hw136_1 GW137.out (hHeld.2.2.2.2.2.2.2.2.2.2.2.2.2.2.2.1)), (far14b hw136_2 GW137.out (hHeld.2.2.2.2.2.2.2.2.2.2.2.2.2.2.2.2.1)), (far14b hw136_3 GW137.out (hHeld.2.2.2.2.2.2.2.2.2.2.2.2.2.2.2.2.2.1)), (far14b hw136_4 GW137.out (hHeld.2.2.2.2.2.2.2.2.2.2.2.2.2.2.2.2.2.2.1)), (far14b hw136_5 GW137.out (hHeld.2.2.2.2.2.2.2.2.2.2.2.2.2.2.2.2.2.2.2.1)), (far14b hw136_6 GW137.out (hHeld.2.2.2.2.2.2.2.2.2.2.2.2.2.2.2.2.2.2.2.2.1)), (far14b hw136_7 GW137.out (hHeld.2.2.2.2.2.2.2.2.2.2.2.2.2.2.2.2.2.2.2.2.2.1)), (far14b hw136_8 GW137.out (hHeld.2.2.2.2.2.2.2.2.2.2.2.2.2.2.2.2.2.2.2.2.2.2.1)), (far14b hw136_9 GW137.out (hHeld.2.2.2.2.2.2.2.2.2.2.2.2.2.2.2.2.2.2.2.2.2.2.2.1)), (far14b hw136_10 GW137.out (hHeld.2.2.2.2.2.2.2.2.2.2.2.2.2.2.2.2.2.2.2.2.2.2.2.2.1)), (far14b hw136_11 GW137.out (hHeld.2.2.2.2.2.2.2.2.2.2.2.2.2.2.2.2.2.2.2.2.2.2.2.2.2.1)), (far14b hw136_12 GW137.out (hHeld.2.2.2.2.2.2.2.2.2.2.2.2.2.2.2.2.2.2.2.2.2.2.2.2.2.2.1)), (far14b hw136_13 GW137.out (hHeld.2.2.2.2.2.2.2.2.2.2.2.2.2.2.2.2.2.2.2.2.2.2.2.2.2.2.2))⟩ (fun hHeld => ?_)
                clear hK K
                refine one_ (i := 11) (N := none) #[true, true, true, true, true, true, true, true, true, true, true, true] rfl rfl (one_of HT_.out (by kernel_rfl)) (by decide) (fun K hK => ?_)
                have hs27 : w12.cell? ⟨gb138, 0, none⟩ = some (.int .i64 0) := (blk_cell BK138.out 0).trans rfl
                have hfs27 := blk_frozen BK138.out 0
                have hns27_0 := NB137_138.out
                have hms27_0 := NB138_137.out
                have hs28 : w12.cell? ⟨gb138, 1, none⟩ = some (.int .i64 0) := (blk_cell BK138.out 1).trans rfl
                have hfs28 := blk_frozen BK138.out 1
                have hns28_0 := NB137_138.out
                have hms28_0 := NB138_137.out
                have hs29 : w12.cell? ⟨gb138, 2, none⟩ = some (.string (⟨#[]⟩ : ByteArray)) := (blk_cell BK138.out 2).trans rfl
                have hfs29 := blk_frozen BK138.out 2
                have hns29_0 := NB137_138.out
                have hms29_0 := NB138_137.out
                have hs30 : w12.cell? ⟨gb138, 3, none⟩ = some (.int .i64 0) := (blk_cell BK138.out 3).trans rfl
                have hfs30 := blk_frozen BK138.out 3
                have hns30_0 := NB137_138.out
                have hms30_0 := NB138_137.out
                have hs31 : w12.cell? ⟨gb138, 4, none⟩ = some (.slice none 0 0) := (blk_cell BK138.out 4).trans rfl
                have hfs31 := blk_frozen BK138.out 4
                have hns31_0 := NB137_138.out
                have hms31_0 := NB138_137.out
                have hs32 : w12.cell? ⟨gb138, 5, none⟩ = some (.slice none 0 0) := (blk_cell BK138.out 5).trans rfl
                have hfs32 := blk_frozen BK138.out 5
                have hns32_0 := NB137_138.out
                have hms32_0 := NB138_137.out
                have hs33 : w12.cell? ⟨gb138, 6, none⟩ = some (.slice none 0 0) := (blk_cell BK138.out 6).trans rfl
                have hfs33 := blk_frozen BK138.out 6
                have hns33_0 := NB137_138.out
                have hms33_0 := NB138_137.out
                have hs34 : w12.cell? ⟨gb138, 7, none⟩ = some (.slice none 0 0) := (blk_cell BK138.out 7).trans rfl
                have hfs34 := blk_frozen BK138.out 7
                have hns34_0 := NB137_138.out
                have hms34_0 := NB138_137.out
                have hs35 : w12.cell? ⟨gb138, 8, none⟩ = some (.slice none 0 0) := (blk_cell BK138.out 8).trans rfl
                have hfs35 := blk_frozen BK138.out 8
                have hns35_0 := NB137_138.out
                have hms35_0 := NB138_137.out
                have hs36 : w12.cell? ⟨gb138, 9, none⟩ = some (.slice none 0 0) := (blk_cell BK138.out 9).trans rfl
                have hfs36 := blk_frozen BK138.out 9
                have hns36_0 := NB137_138.out
                have hms36_0 := NB138_137.out
                have hs37 : w12.cell? ⟨gb138, 10, none⟩ = some (.slice none 0 0) := (blk_cell BK138.out 10).trans rfl
                have hfs37 := blk_frozen BK138.out 10
                have hns37_0 := NB137_138.out
                have hms37_0 := NB138_137.out
                have hs38 : w12.cell? ⟨gb138, 11, none⟩ = some (.int .u8 0) := (blk_cell BK138.out 11).trans rfl
                have hfs38 := blk_frozen BK138.out 11
                have hns38_0 := NB137_138.out
                have hms38_0 := NB138_137.out
                have hs39 : w12.cell? ⟨gb138, 12, none⟩ = some (.int .i64 0) := (blk_cell BK138.out 12).trans rfl
                have hfs39 := blk_frozen BK138.out 12
                have hns39_0 := NB137_138.out
                have hms39_0 := NB138_137.out
                have hs40 : w12.cell? ⟨gb138, 13, none⟩ = some (.int .i64 0) := (blk_cell BK138.out 13).trans rfl
                have hfs40 := blk_frozen BK138.out 13
                have hns40_0 := NB137_138.out
                have hms40_0 := NB138_137.out
                refine skipN_ (w1 := ?w1_) ?hg_ ?hN_ ?hr_ ?hk_
                case hN_ => exact rfl
                case hg_ => exact rfl
                rotate_left
                · go_simp
                  rfl
                refine hK.out _ _ ⟨(far14b hw135_0 GW138.out (hHeld.1)), (far14b hw135_1 GW138.out (hHeld.2.1)), (far14b hw135_2 GW138.out (hHeld.2.2.1)), (far14b hw135_3 GW138.out (hHeld.2.2.2.1)), (far14b hw135_4 GW138.out (hHeld.2.2.2.2.1)), (far14b hw135_5 GW138.out (hHeld.2.2.2.2.2.1)), (far14b hw135_6 GW138.out (hHeld.2.2.2.2.2.2.1)), (far14b hw135_7 GW138.out (hHeld.2.2.2.2.2.2.2.1)), (far14b hw135_8 GW138.out (hHeld.2.2.2.2.2.2.2.2.1)), (far14b hw135_9 GW138.out (hHeld.2.2.2.2.2.2.2.2.2.1)), (far14b hw135_10 GW138.out (hHeld.2.2.2.2.2.2.2.2.2.2.1)), (far14b hw135_11 GW138.out (hHeld.2.2.2.2.2.2.2.2.2.2.2.1)), (far14b hw135_12 GW138.out (hHeld.2.2.2.2.2.2.2.2.2.2.2.2.1)), (far14b hw135_13 GW138.out (hHeld.2.2.2.2.2.2.2.2.2.2.2.2.2.1)), (far14b hw136_0 GW138.out (hHeld.2.2.2.2.2.2.2.2.2.2.2.2.2.2.1)), (far14b hw136_1 GW138.out (hHeld.2.2.2.2.2.2.2.2.2.2.2.2.2.2.2.1)), (far14b hw136_2 GW138.out (hHeld.2.2.2.2.2.2.2.2.2.2.2.2.2.2.2.2.1)), (far14b hw136_3 GW138.out (hHeld.2.2.2.2.2.2.2.2.2.2.2.2.2.2.2.2.2.1)), (far14b hw136_4 GW138.out (hHeld.2.2.2.2.2.2.2.2.2.2.2.2.2.2.2.2.2.2.1)), (far14b hw136_5 GW138.out (hHeld.2.2.2.2.2.2.2.2.2.2.2.2.2.2.2.2.2.2.2.1)), (far14b hw136_6 GW138.out (hHeld.2.2.2.2.2.2.2.2.2.2.2.2.2.2.2.2.2.2.2.2.1)), (far14b hw136_7 GW138.out (hHeld.2.2.2.2.2.2.2.2.2.2.2.2.2.2.2.2.2.2.2.2.2.1)), (far14b hw136_8 GW138.out (hHeld.2.2.2.2.2.2.2.2.2.2.2.2.2.2.2.2.2.2.2.2.2.2.1)), (far14b hw136_9 GW138.out (hHeld.2.2.2.2.2.2.2.2.2.2.2.2.2.2.2.2.2.2.2.2.2.2.2.1)), (far14b hw136_10 GW138.out (hHeld.2.2.2.2.2.2.2.2.2.2.2.2.2.2.2.2.2.2.2.2.2.2.2.2.1)), (far14b hw136_11 GW138.out (hHeld.2.2.2.2.2.2.2.2.2.2.2.2.2.2.2.2.2.2.2.2.2.2.2.2.2.1)), (far14b hw136_12 GW138.out (hHeld.2.2.2.2.2.2.2.2.2.2.2.2.2.2.2.2.2.2.2.2.2.2.2.2.2.2.1)), (far14b hw136_13 GW138.out (hHeld.2.2.2.2.2.2.2.2.2.2.2.2.2.2.2.2.2.2.2.2.2.2.2.2.2.2.2))⟩ (fun hHeld => ?_)
                clear hK K
                refine done_ (done_of HT_.out (by kernel_rfl)) ?_
                go_upto_region 7 with (fail)
                go_cut [65] (fun v65 wc => ∃ (kq : Nat) (x65_7 : Bool), v65 = .bool x65_7 ∧ Aside0 (relayref05_Same.j1 kq l0 l1 (l0.length : Int) x15_1 x65_7 ((rd_T46 l0 x15_1).f0) ((rd_T46 l0 x15_1).f1) ((rd_T46 l0 x15_1).f2) ((rd_T46 l0 x15_1).f3) ((rd_T46 l0 x15_1).f4) ((rd_T46 l0 x15_1).f5) ((rd_T46 l0 x15_1).f6) ((rd_T46 l0 x15_1).f7) ((rd_T46 l0 x15_1).f8) ((rd_T46 l0 x15_1).f9) ((rd_T46 l0 x15_1).f10) ((rd_T46 l0 x15_1).f11) ((rd_T46 l0 x15_1).f12) ((rd_T46 l0 x15_1).f13) ((rd_T46 l1 x15_1).f0) ((rd_T46 l1 x15_1).f1) ((rd_T46 l1 x15_1).f2) ((rd_T46 l1 x15_1).f3) ((rd_T46 l1 x15_1).f4) ((rd_T46 l1 x15_1).f5) ((rd_T46 l1 x15_1).f6) ((rd_T46 l1 x15_1).f7) ((rd_T46 l1 x15_1).f8) ((rd_T46 l1 x15_1).f9) ((rd_T46 l1 x15_1).f10) ((rd_T46 l1 x15_1).f11) ((rd_T46 l1 x15_1).f12) ((rd_T46 l1 x15_1).f13) = some r) ∧ Aside0 (kq ≤ k1) ∧ Aside0 (wc.heap[gb137]? = some (.cells #[.int .i64 ((rd_T46 l0 x15_1).f0), .int .i64 ((rd_T46 l0 x15_1).f1), .string ((rd_T46 l0 x15_1).f2), .int .i64 ((rd_T46 l0 x15_1).f3), (.slice A135_4 ((rd_T46 l0 x15_1).f4).length c135_4), (.slice A135_5 ((rd_T46 l0 x15_1).f5).length c135_5), (.slice A135_6 ((rd_T46 l0 x15_1).f6).length c135_6), (.slice A135_7 ((rd_T46 l0 x15_1).f7).length c135_7), (.slice A135_8 ((rd_T46 l0 x15_1).f8).length c135_8), (.slice A135_9 ((rd_T46 l0 x15_1).f9).length c135_9), (.slice A135_10 ((rd_T46 l0 x15_1).f10).length c135_10), .int .u8 ((rd_T46 l0 x15_1).f11), .int .i64 ((rd_T46 l0 x15_1).f12), .int .i64 ((rd_T46 l0 x15_1).f13)] 46 (0, 0))) ∧ Aside0 (wc.heap[gb138]? = some (.cells #[.int .i64 ((rd_T46 l1 x15_1).f0), .int .i64 ((rd_T46 l1 x15_1).f1), .string ((rd_T46 l1 x15_1).f2), .int .i64 ((rd_T46 l1 x15_1).f3), (.slice A136_4 ((rd_T46 l1 x15_1).f4).length c136_4), (.slice A136_5 ((rd_T46 l1 x15_1).f5).length c136_5), (.slice A136_6 ((rd_T46 l1 x15_1).f6).length c136_6), (.slice A136_7 ((rd_T46 l1 x15_1).f7).length c136_7), (.slice A136_8 ((rd_T46 l1 x15_1).f8).length c136_8), (.slice A136_9 ((rd_T46 l1 x15_1).f9).length c136_9), (.slice A136_10 ((rd_T46 l1 x15_1).f10).length c136_10), .int .u8 ((rd_T46 l1 x15_1).f11), .int .i64 ((rd_T46 l1 x15_1).f12), .int .i64 ((rd_T46 l1 x15_1).f13)] 46 (0, 0))) ∧ Aside0 (Below w.heap.size w wc))
                case first =>
                  have H := HC8.out
                  clear HC8
                  refine (Classical.em (((rd_T46 l0 x15_1).f0) = ((rd_T46 l1 x15_1).f0))).elim (fun c41 => ?p1_) (fun c41 => ?n1_)
                  case' p1_ =>
                    rw [if_pos c41] at H
                    have c41b0 : (((rd_T46 l0 x15_1).f0) == ((rd_T46 l1 x15_1).f0)) = true := beq_iff_eq.mpr c41
                    have c41b1 : (((rd_T46 l0 x15_1).f0) != ((rd_T46 l1 x15_1).f0)) = false := bne_eq_false_iff_eq.mpr c41
                    clear c41
                    (first | rw [c41b0] | (simp only [i64_w, i32_w]; rw [c41b0]) | skip)
                    refine (Classical.em (((rd_T46 l0 x15_1).f2).toList = ((rd_T46 l1 x15_1).f2).toList)).elim (fun c42 => ?p2_) (fun c42 => ?n2_)
                    case' p2_ =>
                      rw [if_pos c42] at H
                      have c42b0 : (((rd_T46 l0 x15_1).f2).toList == ((rd_T46 l1 x15_1).f2).toList) = true := beq_iff_eq.mpr c42
                      have c42b1 : (((rd_T46 l0 x15_1).f2).toList != ((rd_T46 l1 x15_1).f2).toList) = false := bne_eq_false_iff_eq.mpr c42
                      clear c42
                      refine (Classical.em (((rd_T46 l0 x15_1).f0) = 5)).elim (fun c43 => ?p3_) (fun c43 => ?n3_)
                      case' p3_ =>
                        rw [if_pos c43] at H
                        have c43b0 : (((rd_T46 l0 x15_1).f0) == 5) = true := beq_iff_eq.mpr c43
                        have c43b1 : (((rd_T46 l0 x15_1).f0) != 5) = false := bne_eq_false_iff_eq.mpr c43
                        clear c43
                        replace H := Option.bind_eq_some_iff.mp H
                        obtain ⟨t139, A440, H⟩ := H
                        replace H : (if t139 = true then ((relayref05_sameTexts.f k1 ((rd_T46 l0 x15_1).f5) ((rd_T46 l1 x15_1).f5)).bind fun t140 => (relayref05_Same.j1 k1 l0 l1 (l0.length : Int) x15_1 (!t140) ((rd_T46 l0 x15_1).f0) ((rd_T46 l0 x15_1).f1) ((rd_T46 l0 x15_1).f2) ((rd_T46 l0 x15_1).f3) ((rd_T46 l0 x15_1).f4) ((rd_T46 l0 x15_1).f5) ((rd_T46 l0 x15_1).f6) ((rd_T46 l0 x15_1).f7) ((rd_T46 l0 x15_1).f8) ((rd_T46 l0 x15_1).f9) ((rd_T46 l0 x15_1).f10) ((rd_T46 l0 x15_1).f11) ((rd_T46 l0 x15_1).f12) ((rd_T46 l0 x15_1).f13) ((rd_T46 l1 x15_1).f0) ((rd_T46 l1 x15_1).f1) ((rd_T46 l1 x15_1).f2) ((rd_T46 l1 x15_1).f3) ((rd_T46 l1 x15_1).f4) ((rd_T46 l1 x15_1).f5) ((rd_T46 l1 x15_1).f6) ((rd_T46 l1 x15_1).f7) ((rd_T46 l1 x15_1).f8) ((rd_T46 l1 x15_1).f9) ((rd_T46 l1 x15_1).f10) ((rd_T46 l1 x15_1).f11) ((rd_T46 l1 x15_1).f12) ((rd_T46 l1 x15_1).f13))) else (relayref05_Same.j1 k1 l0 l1 (l0.length : Int) x15_1 true ((rd_T46 l0 x15_1).f0) ((rd_T46 l0 x15_1).f1) ((rd_T46 l0 x15_1).f2) ((rd_T46 l0 x15_1).f3) ((rd_T46 l0 x15_1).f4) ((rd_T46 l0 x15_1).f5) ((rd_T46 l0 x15_1).f6) ((rd_T46 l0 x15_1).f7) ((rd_T46 l0 x15_1).f8) ((rd_T46 l0 x15_1).f9) ((rd_T46 l0 x15_1).f10) ((rd_T46 l0 x15_1).f11) ((rd_T46 l0 x15_1).f12) ((rd_T46 l0 x15_1).f13) ((rd_T46 l1 x15_1).f0) ((rd_T46 l1 x15_1).f1) ((rd_T46 l1 x15_1).f2) ((rd_T46 l1 x15_1).f3) ((rd_T46 l1 x15_1).f4) ((rd_T46 l1 x15_1).f5) ((rd_T46 l1 x15_1).f6) ((rd_T46 l1 x15_1).f7) ((rd_T46 l1 x15_1).f8) ((rd_T46 l1 x15_1).f9) ((rd_T46 l1 x15_1).f10) ((rd_T46 l1 x15_1).f11) ((rd_T46 l1 x15_1).f12) ((rd_T46 l1 x15_1).f13))) = some r := H
                        have A44 := Aside0.mk A440
                        clear A440
                        refine (Classical.em (t139 = true)).elim (fun c45 => ?p4_) (fun c45 => ?n4_)
                        case' p4_ =>
                          subst c45
                          have H1 : ((relayref05_sameTexts.f k1 ((rd_T46 l0 x15_1).f5) ((rd_T46 l1 x15_1).f5)).bind fun t140 => (relayref05_Same.j1 k1 l0 l1 (l0.length : Int) x15_1 (!t140) ((rd_T46 l0 x15_1).f0) ((rd_T46 l0 x15_1).f1) ((rd_T46 l0 x15_1).f2) ((rd_T46 l0 x15_1).f3) ((rd_T46 l0 x15_1).f4) ((rd_T46 l0 x15_1).f5) ((rd_T46 l0 x15_1).f6) ((rd_T46 l0 x15_1).f7) ((rd_T46 l0 x15_1).f8) ((rd_T46 l0 x15_1).f9) ((rd_T46 l0 x15_1).f10) ((rd_T46 l0 x15_1).f11) ((rd_T46 l0 x15_1).f12) ((rd_T46 l0 x15_1).f13) ((rd_T46 l1 x15_1).f0) ((rd_T46 l1 x15_1).f1) ((rd_T46 l1 x15_1).f2) ((rd_T46 l1 x15_1).f3) ((rd_T46 l1 x15_1).f4) ((rd_T46 l1 x15_1).f5) ((rd_T46 l1 x15_1).f6) ((rd_T46 l1 x15_1).f7) ((rd_T46 l1 x15_1).f8) ((rd_T46 l1 x15_1).f9) ((rd_T46 l1 x15_1).f10) ((rd_T46 l1 x15_1).f11) ((rd_T46 l1 x15_1).f12) ((rd_T46 l1 x15_1).f13))) = some r := by rw [if_pos rfl] at H; exact H
                          clear H
                          have H := H1
                          clear H1
                          replace H := Option.bind_eq_some_iff.mp H
                          obtain ⟨t140, A460, H⟩ := H
                          replace H : (relayref05_Same.j1 k1 l0 l1 (l0.length : Int) x15_1 (!t140) ((rd_T46 l0 x15_1).f0) ((rd_T46 l0 x15_1).f1) ((rd_T46 l0 x15_1).f2) ((rd_T46 l0 x15_1).f3) ((rd_T46 l0 x15_1).f4) ((rd_T46 l0 x15_1).f5) ((rd_T46 l0 x15_1).f6) ((rd_T46 l0 x15_1).f7) ((rd_T46 l0 x15_1).f8) ((rd_T46 l0 x15_1).f9) ((rd_T46 l0 x15_1).f10) ((rd_T46 l0 x15_1).f11) ((rd_T46 l0 x15_1).f12) ((rd_T46 l0 x15_1).f13) ((rd_T46 l1 x15_1).f0) ((rd_T46 l1 x15_1).f1) ((rd_T46 l1 x15_1).f2) ((rd_T46 l1 x15_1).f3) ((rd_T46 l1 x15_1).f4) ((rd_T46 l1 x15_1).f5) ((rd_T46 l1 x15_1).f6) ((rd_T46 l1 x15_1).f7) ((rd_T46 l1 x15_1).f8) ((rd_T46 l1 x15_1).f9) ((rd_T46 l1 x15_1).f10) ((rd_T46 l1 x15_1).f11) ((rd_T46 l1 x15_1).f12) ((rd_T46 l1 x15_1).f13)) = some r := H
                          have A46 := Aside0.mk A460
                          clear A460
                          have H' := Aside0.mk H
                          clear H
                          have hnb47 := NB137_138.out
                          have hnc47 := NB138_137.out
                          have hcz48_0 : w12.cell? ⟨gb137, 0, none⟩ = some (.int .i64 0) := (blk_cell BK137.out 0).trans rfl
                          have hcz48_1 : w12.cell? ⟨gb137, 1, none⟩ = some (.int .i64 0) := (blk_cell BK137.out 1).trans rfl
                          have hcz48_2 : w12.cell? ⟨gb137, 2, none⟩ = some (.string (⟨#[]⟩ : ByteArray)) := (blk_cell BK137.out 2).trans rfl
                          have hcz48_3 : w12.cell? ⟨gb137, 3, none⟩ = some (.int .i64 0) := (blk_cell BK137.out 3).trans rfl
                          have hcz48_4 : w12.cell? ⟨gb137, 4, none⟩ = some (.slice none 0 0) := (blk_cell BK137.out 4).trans rfl
                          have hcz48_5 : w12.cell? ⟨gb137, 5, none⟩ = some (.slice none 0 0) := (blk_cell BK137.out 5).trans rfl
                          have hcz48_6 : w12.cell? ⟨gb137, 6, none⟩ = some (.slice none 0 0) := (blk_cell BK137.out 6).trans rfl
                          have hcz48_7 : w12.cell? ⟨gb137, 7, none⟩ = some (.slice none 0 0) := (blk_cell BK137.out 7).trans rfl
                          have hcz48_8 : w12.cell? ⟨gb137, 8, none⟩ = some (.slice none 0 0) := (blk_cell BK137.out 8).trans rfl
                          have hcz48_9 : w12.cell? ⟨gb137, 9, none⟩ = some (.slice none 0 0) := (blk_cell BK137.out 9).trans rfl
                          have hcz48_10 : w12.cell? ⟨gb137, 10, none⟩ = some (.slice none 0 0) := (blk_cell BK137.out 10).trans rfl
                          have hcz48_11 : w12.cell? ⟨gb137, 11, none⟩ = some (.int .u8 0) := (blk_cell BK137.out 11).trans rfl
                          have hcz48_12 : w12.cell? ⟨gb137, 12, none⟩ = some (.int .i64 0) := (blk_cell BK137.out 12).trans rfl
                          have hcz48_13 : w12.cell? ⟨gb137, 13, none⟩ = some (.int .i64 0) := (blk_cell BK137.out 13).trans rfl
                          have hfz48_0 := blk_frozen BK137.out 0
                          have hfz48_1 := blk_frozen BK137.out 1
                          have hfz48_2 := blk_frozen BK137.out 2
                          have hfz48_3 := blk_frozen BK137.out 3
                          have hfz48_4 := blk_frozen BK137.out 4
                          have hfz48_5 := blk_frozen BK137.out 5
                          have hfz48_6 := blk_frozen BK137.out 6
                          have hfz48_7 := blk_frozen BK137.out 7
                          have hfz48_8 := blk_frozen BK137.out 8
                          have hfz48_9 := blk_frozen BK137.out 9
                          have hfz48_10 := blk_frozen BK137.out 10
                          have hfz48_11 := blk_frozen BK137.out 11
                          have hfz48_12 := blk_frozen BK137.out 12
                          have hfz48_13 := blk_frozen BK137.out 13
                          have hcz49_0 : w12.cell? ⟨gb138, 0, none⟩ = some (.int .i64 0) := (blk_cell BK138.out 0).trans rfl
                          have hcz49_1 : w12.cell? ⟨gb138, 1, none⟩ = some (.int .i64 0) := (blk_cell BK138.out 1).trans rfl
                          have hcz49_2 : w12.cell? ⟨gb138, 2, none⟩ = some (.string (⟨#[]⟩ : ByteArray)) := (blk_cell BK138.out 2).trans rfl
                          have hcz49_3 : w12.cell? ⟨gb138, 3, none⟩ = some (.int .i64 0) := (blk_cell BK138.out 3).trans rfl
                          have hcz49_4 : w12.cell? ⟨gb138, 4, none⟩ = some (.slice none 0 0) := (blk_cell BK138.out 4).trans rfl
                          have hcz49_5 : w12.cell? ⟨gb138, 5, none⟩ = some (.slice none 0 0) := (blk_cell BK138.out 5).trans rfl
                          have hcz49_6 : w12.cell? ⟨gb138, 6, none⟩ = some (.slice none 0 0) := (blk_cell BK138.out 6).trans rfl
                          have hcz49_7 : w12.cell? ⟨gb138, 7, none⟩ = some (.slice none 0 0) := (blk_cell BK138.out 7).trans rfl
                          have hcz49_8 : w12.cell? ⟨gb138, 8, none⟩ = some (.slice none 0 0) := (blk_cell BK138.out 8).trans rfl
                          have hcz49_9 : w12.cell? ⟨gb138, 9, none⟩ = some (.slice none 0 0) := (blk_cell BK138.out 9).trans rfl
                          have hcz49_10 : w12.cell? ⟨gb138, 10, none⟩ = some (.slice none 0 0) := (blk_cell BK138.out 10).trans rfl
                          have hcz49_11 : w12.cell? ⟨gb138, 11, none⟩ = some (.int .u8 0) := (blk_cell BK138.out 11).trans rfl
                          have hcz49_12 : w12.cell? ⟨gb138, 12, none⟩ = some (.int .i64 0) := (blk_cell BK138.out 12).trans rfl
                          have hcz49_13 : w12.cell? ⟨gb138, 13, none⟩ = some (.int .i64 0) := (blk_cell BK138.out 13).trans rfl
                          have hfz49_0 := blk_frozen BK138.out 0
                          have hfz49_1 := blk_frozen BK138.out 1
                          have hfz49_2 := blk_frozen BK138.out 2
                          have hfz49_3 := blk_frozen BK138.out 3
                          have hfz49_4 := blk_frozen BK138.out 4
                          have hfz49_5 := blk_frozen BK138.out 5
                          have hfz49_6 := blk_frozen BK138.out 6
                          have hfz49_7 := blk_frozen BK138.out 7
                          have hfz49_8 := blk_frozen BK138.out 8
                          have hfz49_9 := blk_frozen BK138.out 9
                          have hfz49_10 := blk_frozen BK138.out 10
                          have hfz49_11 := blk_frozen BK138.out 11
                          have hfz49_12 := blk_frozen BK138.out 12
                          have hfz49_13 := blk_frozen BK138.out 13
                        case' n4_ =>
                          replace c45 := Bool.eq_false_iff.mpr c45
                          subst c45
                          have H1 : (relayref05_Same.j1 k1 l0 l1 (l0.length : Int) x15_1 true ((rd_T46 l0 x15_1).f0) ((rd_T46 l0 x15_1).f1) ((rd_T46 l0 x15_1).f2) ((rd_T46 l0 x15_1).f3) ((rd_T46 l0 x15_1).f4) ((rd_T46 l0 x15_1).f5) ((rd_T46 l0 x15_1).f6) ((rd_T46 l0 x15_1).f7) ((rd_T46 l0 x15_1).f8) ((rd_T46 l0 x15_1).f9) ((rd_T46 l0 x15_1).f10) ((rd_T46 l0 x15_1).f11) ((rd_T46 l0 x15_1).f12) ((rd_T46 l0 x15_1).f13) ((rd_T46 l1 x15_1).f0) ((rd_T46 l1 x15_1).f1) ((rd_T46 l1 x15_1).f2) ((rd_T46 l1 x15_1).f3) ((rd_T46 l1 x15_1).f4) ((rd_T46 l1 x15_1).f5) ((rd_T46 l1 x15_1).f6) ((rd_T46 l1 x15_1).f7) ((rd_T46 l1 x15_1).f8) ((rd_T46 l1 x15_1).f9) ((rd_T46 l1 x15_1).f10) ((rd_T46 l1 x15_1).f11) ((rd_T46 l1 x15_1).f12) ((rd_T46 l1 x15_1).f13)) = some r := by rw [if_neg (show ¬ (false = true) by decide)] at H; exact H
                          clear H
                          have H := H1
                          clear H1
                          have H' := Aside0.mk H
                          clear H
                          have hnb53 := NB137_138.out
                          have hnc53 := NB138_137.out
                          have hcz54_0 : w12.cell? ⟨gb137, 0, none⟩ = some (.int .i64 0) := (blk_cell BK137.out 0).trans rfl
                          have hcz54_1 : w12.cell? ⟨gb137, 1, none⟩ = some (.int .i64 0) := (blk_cell BK137.out 1).trans rfl
                          have hcz54_2 : w12.cell? ⟨gb137, 2, none⟩ = some (.string (⟨#[]⟩ : ByteArray)) := (blk_cell BK137.out 2).trans rfl
                          have hcz54_3 : w12.cell? ⟨gb137, 3, none⟩ = some (.int .i64 0) := (blk_cell BK137.out 3).trans rfl
                          have hcz54_4 : w12.cell? ⟨gb137, 4, none⟩ = some (.slice none 0 0) := (blk_cell BK137.out 4).trans rfl
                          have hcz54_5 : w12.cell? ⟨gb137, 5, none⟩ = some (.slice none 0 0) := (blk_cell BK137.out 5).trans rfl
                          have hcz54_6 : w12.cell? ⟨gb137, 6, none⟩ = some (.slice none 0 0) := (blk_cell BK137.out 6).trans rfl
                          have hcz54_7 : w12.cell? ⟨gb137, 7, none⟩ = some (.slice none 0 0) := (blk_cell BK137.out 7).trans rfl
                          have hcz54_8 : w12.cell? ⟨gb137, 8, none⟩ = some (.slice none 0 0) := (blk_cell BK137.out 8).trans rfl
                          have hcz54_9 : w12.cell? ⟨gb137, 9, none⟩ = some (.slice none 0 0) := (blk_cell BK137.out 9).trans rfl
                          have hcz54_10 : w12.cell? ⟨gb137, 10, none⟩ = some (.slice none 0 0) := (blk_cell BK137.out 10).trans rfl
                          have hcz54_11 : w12.cell? ⟨gb137, 11, none⟩ = some (.int .u8 0) := (blk_cell BK137.out 11).trans rfl
                          have hcz54_12 : w12.cell? ⟨gb137, 12, none⟩ = some (.int .i64 0) := (blk_cell BK137.out 12).trans rfl
                          have hcz54_13 : w12.cell? ⟨gb137, 13, none⟩ = some (.int .i64 0) := (blk_cell BK137.out 13).trans rfl
                          have hfz54_0 := blk_frozen BK137.out 0
                          have hfz54_1 := blk_frozen BK137.out 1
                          have hfz54_2 := blk_frozen BK137.out 2
                          have hfz54_3 := blk_frozen BK137.out 3
                          have hfz54_4 := blk_frozen BK137.out 4
                          have hfz54_5 := blk_frozen BK137.out 5
                          have hfz54_6 := blk_frozen BK137.out 6
                          have hfz54_7 := blk_frozen BK137.out 7
                          have hfz54_8 := blk_frozen BK137.out 8
                          have hfz54_9 := blk_frozen BK137.out 9
                          have hfz54_10 := blk_frozen BK137.out 10
                          have hfz54_11 := blk_frozen BK137.out 11
                          have hfz54_12 := blk_frozen BK137.out 12
                          have hfz54_13 := blk_frozen BK137.out 13
                          have hcz55_0 : w12.cell? ⟨gb138, 0, none⟩ = some (.int .i64 0) := (blk_cell BK138.out 0).trans rfl
                          have hcz55_1 : w12.cell? ⟨gb138, 1, none⟩ = some (.int .i64 0) := (blk_cell BK138.out 1).trans rfl
                          have hcz55_2 : w12.cell? ⟨gb138, 2, none⟩ = some (.string (⟨#[]⟩ : ByteArray)) := (blk_cell BK138.out 2).trans rfl
                          have hcz55_3 : w12.cell? ⟨gb138, 3, none⟩ = some (.int .i64 0) := (blk_cell BK138.out 3).trans rfl
                          have hcz55_4 : w12.cell? ⟨gb138, 4, none⟩ = some (.slice none 0 0) := (blk_cell BK138.out 4).trans rfl
                          have hcz55_5 : w12.cell? ⟨gb138, 5, none⟩ = some (.slice none 0 0) := (blk_cell BK138.out 5).trans rfl
                          have hcz55_6 : w12.cell? ⟨gb138, 6, none⟩ = some (.slice none 0 0) := (blk_cell BK138.out 6).trans rfl
                          have hcz55_7 : w12.cell? ⟨gb138, 7, none⟩ = some (.slice none 0 0) := (blk_cell BK138.out 7).trans rfl
                          have hcz55_8 : w12.cell? ⟨gb138, 8, none⟩ = some (.slice none 0 0) := (blk_cell BK138.out 8).trans rfl
                          have hcz55_9 : w12.cell? ⟨gb138, 9, none⟩ = some (.slice none 0 0) := (blk_cell BK138.out 9).trans rfl
                          have hcz55_10 : w12.cell? ⟨gb138, 10, none⟩ = some (.slice none 0 0) := (blk_cell BK138.out 10).trans rfl
                          have hcz55_11 : w12.cell? ⟨gb138, 11, none⟩ = some (.int .u8 0) := (blk_cell BK138.out 11).trans rfl
                          have hcz55_12 : w12.cell? ⟨gb138, 12, none⟩ = some (.int .i64 0) := (blk_cell BK138.out 12).trans rfl
                          have hcz55_13 : w12.cell? ⟨gb138, 13, none⟩ = some (.int .i64 0) := (blk_cell BK138.out 13).trans rfl
                          have hfz55_0 := blk_frozen BK138.out 0
                          have hfz55_1 := blk_frozen BK138.out 1
                          have hfz55_2 := blk_frozen BK138.out 2
                          have hfz55_3 := blk_frozen BK138.out 3
                          have hfz55_4 := blk_frozen BK138.out 4
                          have hfz55_5 := blk_frozen BK138.out 5
                          have hfz55_6 := blk_frozen BK138.out 6
                          have hfz55_7 := blk_frozen BK138.out 7
                          have hfz55_8 := blk_frozen BK138.out 8
                          have hfz55_9 := blk_frozen BK138.out 9
                          have hfz55_10 := blk_frozen BK138.out 10
                          have hfz55_11 := blk_frozen BK138.out 11
                          have hfz55_12 := blk_frozen BK138.out 12
                          have hfz55_13 := blk_frozen BK138.out 13
                      case' n3_ =>
                        rw [if_neg c43] at H
                        have c43b0 : (((rd_T46 l0 x15_1).f0) == 5) = false := beq_eq_false_iff_ne.mpr c43
                        have c43b1 : (((rd_T46 l0 x15_1).f0) != 5) = true := bne_iff_ne.mpr c43
                        refine (Classical.em (((rd_T46 l0 x15_1).f3) = ((rd_T46 l1 x15_1).f3))).elim (fun c57 => ?p5_) (fun c57 => ?n5_)
                        case' p5_ =>
                          rw [if_pos c57] at H
                          have c57b0 : (((rd_T46 l0 x15_1).f3) == ((rd_T46 l1 x15_1).f3)) = true := beq_iff_eq.mpr c57
                          have c57b1 : (((rd_T46 l0 x15_1).f3) != ((rd_T46 l1 x15_1).f3)) = false := bne_eq_false_iff_eq.mpr c57
                          clear c57
                          replace H := Option.bind_eq_some_iff.mp H
                          obtain ⟨t141, A580, H⟩ := H
                          replace H : (if t141 = true then ((relayref05_sameTexts.f k1 ((rd_T46 l0 x15_1).f5) ((rd_T46 l1 x15_1).f5)).bind fun t142 => (relayref05_Same.j1 k1 l0 l1 (l0.length : Int) x15_1 (!t142) ((rd_T46 l0 x15_1).f0) ((rd_T46 l0 x15_1).f1) ((rd_T46 l0 x15_1).f2) ((rd_T46 l0 x15_1).f3) ((rd_T46 l0 x15_1).f4) ((rd_T46 l0 x15_1).f5) ((rd_T46 l0 x15_1).f6) ((rd_T46 l0 x15_1).f7) ((rd_T46 l0 x15_1).f8) ((rd_T46 l0 x15_1).f9) ((rd_T46 l0 x15_1).f10) ((rd_T46 l0 x15_1).f11) ((rd_T46 l0 x15_1).f12) ((rd_T46 l0 x15_1).f13) ((rd_T46 l1 x15_1).f0) ((rd_T46 l1 x15_1).f1) ((rd_T46 l1 x15_1).f2) ((rd_T46 l1 x15_1).f3) ((rd_T46 l1 x15_1).f4) ((rd_T46 l1 x15_1).f5) ((rd_T46 l1 x15_1).f6) ((rd_T46 l1 x15_1).f7) ((rd_T46 l1 x15_1).f8) ((rd_T46 l1 x15_1).f9) ((rd_T46 l1 x15_1).f10) ((rd_T46 l1 x15_1).f11) ((rd_T46 l1 x15_1).f12) ((rd_T46 l1 x15_1).f13))) else (relayref05_Same.j1 k1 l0 l1 (l0.length : Int) x15_1 true ((rd_T46 l0 x15_1).f0) ((rd_T46 l0 x15_1).f1) ((rd_T46 l0 x15_1).f2) ((rd_T46 l0 x15_1).f3) ((rd_T46 l0 x15_1).f4) ((rd_T46 l0 x15_1).f5) ((rd_T46 l0 x15_1).f6) ((rd_T46 l0 x15_1).f7) ((rd_T46 l0 x15_1).f8) ((rd_T46 l0 x15_1).f9) ((rd_T46 l0 x15_1).f10) ((rd_T46 l0 x15_1).f11) ((rd_T46 l0 x15_1).f12) ((rd_T46 l0 x15_1).f13) ((rd_T46 l1 x15_1).f0) ((rd_T46 l1 x15_1).f1) ((rd_T46 l1 x15_1).f2) ((rd_T46 l1 x15_1).f3) ((rd_T46 l1 x15_1).f4) ((rd_T46 l1 x15_1).f5) ((rd_T46 l1 x15_1).f6) ((rd_T46 l1 x15_1).f7) ((rd_T46 l1 x15_1).f8) ((rd_T46 l1 x15_1).f9) ((rd_T46 l1 x15_1).f10) ((rd_T46 l1 x15_1).f11) ((rd_T46 l1 x15_1).f12) ((rd_T46 l1 x15_1).f13))) = some r := H
                          have A58 := Aside0.mk A580
                          clear A580
                          refine (Classical.em (t141 = true)).elim (fun c59 => ?p6_) (fun c59 => ?n6_)
                          case' p6_ =>
                            subst c59
                            have H1 : ((relayref05_sameTexts.f k1 ((rd_T46 l0 x15_1).f5) ((rd_T46 l1 x15_1).f5)).bind fun t142 => (relayref05_Same.j1 k1 l0 l1 (l0.length : Int) x15_1 (!t142) ((rd_T46 l0 x15_1).f0) ((rd_T46 l0 x15_1).f1) ((rd_T46 l0 x15_1).f2) ((rd_T46 l0 x15_1).f3) ((rd_T46 l0 x15_1).f4) ((rd_T46 l0 x15_1).f5) ((rd_T46 l0 x15_1).f6) ((rd_T46 l0 x15_1).f7) ((rd_T46 l0 x15_1).f8) ((rd_T46 l0 x15_1).f9) ((rd_T46 l0 x15_1).f10) ((rd_T46 l0 x15_1).f11) ((rd_T46 l0 x15_1).f12) ((rd_T46 l0 x15_1).f13) ((rd_T46 l1 x15_1).f0) ((rd_T46 l1 x15_1).f1) ((rd_T46 l1 x15_1).f2) ((rd_T46 l1 x15_1).f3) ((rd_T46 l1 x15_1).f4) ((rd_T46 l1 x15_1).f5) ((rd_T46 l1 x15_1).f6) ((rd_T46 l1 x15_1).f7) ((rd_T46 l1 x15_1).f8) ((rd_T46 l1 x15_1).f9) ((rd_T46 l1 x15_1).f10) ((rd_T46 l1 x15_1).f11) ((rd_T46 l1 x15_1).f12) ((rd_T46 l1 x15_1).f13))) = some r := by rw [if_pos rfl] at H; exact H
                            clear H
                            have H := H1
                            clear H1
                            replace H := Option.bind_eq_some_iff.mp H
                            obtain ⟨t142, A600, H⟩ := H
                            replace H : (relayref05_Same.j1 k1 l0 l1 (l0.length : Int) x15_1 (!t142) ((rd_T46 l0 x15_1).f0) ((rd_T46 l0 x15_1).f1) ((rd_T46 l0 x15_1).f2) ((rd_T46 l0 x15_1).f3) ((rd_T46 l0 x15_1).f4) ((rd_T46 l0 x15_1).f5) ((rd_T46 l0 x15_1).f6) ((rd_T46 l0 x15_1).f7) ((rd_T46 l0 x15_1).f8) ((rd_T46 l0 x15_1).f9) ((rd_T46 l0 x15_1).f10) ((rd_T46 l0 x15_1).f11) ((rd_T46 l0 x15_1).f12) ((rd_T46 l0 x15_1).f13) ((rd_T46 l1 x15_1).f0) ((rd_T46 l1 x15_1).f1) ((rd_T46 l1 x15_1).f2) ((rd_T46 l1 x15_1).f3) ((rd_T46 l1 x15_1).f4) ((rd_T46 l1 x15_1).f5) ((rd_T46 l1 x15_1).f6) ((rd_T46 l1 x15_1).f7) ((rd_T46 l1 x15_1).f8) ((rd_T46 l1 x15_1).f9) ((rd_T46 l1 x15_1).f10) ((rd_T46 l1 x15_1).f11) ((rd_T46 l1 x15_1).f12) ((rd_T46 l1 x15_1).f13)) = some r := H
                            have A60 := Aside0.mk A600
                            clear A600
                            have H' := Aside0.mk H
                            clear H
                            have hnb61 := NB137_138.out
                            have hnc61 := NB138_137.out
                            have hcz62_0 : w12.cell? ⟨gb137, 0, none⟩ = some (.int .i64 0) := (blk_cell BK137.out 0).trans rfl
                            have hcz62_1 : w12.cell? ⟨gb137, 1, none⟩ = some (.int .i64 0) := (blk_cell BK137.out 1).trans rfl
                            have hcz62_2 : w12.cell? ⟨gb137, 2, none⟩ = some (.string (⟨#[]⟩ : ByteArray)) := (blk_cell BK137.out 2).trans rfl
                            have hcz62_3 : w12.cell? ⟨gb137, 3, none⟩ = some (.int .i64 0) := (blk_cell BK137.out 3).trans rfl
                            have hcz62_4 : w12.cell? ⟨gb137, 4, none⟩ = some (.slice none 0 0) := (blk_cell BK137.out 4).trans rfl
                            have hcz62_5 : w12.cell? ⟨gb137, 5, none⟩ = some (.slice none 0 0) := (blk_cell BK137.out 5).trans rfl
                            have hcz62_6 : w12.cell? ⟨gb137, 6, none⟩ = some (.slice none 0 0) := (blk_cell BK137.out 6).trans rfl
                            have hcz62_7 : w12.cell? ⟨gb137, 7, none⟩ = some (.slice none 0 0) := (blk_cell BK137.out 7).trans rfl
                            have hcz62_8 : w12.cell? ⟨gb137, 8, none⟩ = some (.slice none 0 0) := (blk_cell BK137.out 8).trans rfl
                            have hcz62_9 : w12.cell? ⟨gb137, 9, none⟩ = some (.slice none 0 0) := (blk_cell BK137.out 9).trans rfl
                            have hcz62_10 : w12.cell? ⟨gb137, 10, none⟩ = some (.slice none 0 0) := (blk_cell BK137.out 10).trans rfl
                            have hcz62_11 : w12.cell? ⟨gb137, 11, none⟩ = some (.int .u8 0) := (blk_cell BK137.out 11).trans rfl
                            have hcz62_12 : w12.cell? ⟨gb137, 12, none⟩ = some (.int .i64 0) := (blk_cell BK137.out 12).trans rfl
                            have hcz62_13 : w12.cell? ⟨gb137, 13, none⟩ = some (.int .i64 0) := (blk_cell BK137.out 13).trans rfl
                            have hfz62_0 := blk_frozen BK137.out 0
                            have hfz62_1 := blk_frozen BK137.out 1
                            have hfz62_2 := blk_frozen BK137.out 2
                            have hfz62_3 := blk_frozen BK137.out 3
                            have hfz62_4 := blk_frozen BK137.out 4
                            have hfz62_5 := blk_frozen BK137.out 5
                            have hfz62_6 := blk_frozen BK137.out 6
                            have hfz62_7 := blk_frozen BK137.out 7
                            have hfz62_8 := blk_frozen BK137.out 8
                            have hfz62_9 := blk_frozen BK137.out 9
                            have hfz62_10 := blk_frozen BK137.out 10
                            have hfz62_11 := blk_frozen BK137.out 11
                            have hfz62_12 := blk_frozen BK137.out 12
                            have hfz62_13 := blk_frozen BK137.out 13
                            have hcz63_0 : w12.cell? ⟨gb138, 0, none⟩ = some (.int .i64 0) := (blk_cell BK138.out 0).trans rfl
                            have hcz63_1 : w12.cell? ⟨gb138, 1, none⟩ = some (.int .i64 0) := (blk_cell BK138.out 1).trans rfl
                            have hcz63_2 : w12.cell? ⟨gb138, 2, none⟩ = some (.string (⟨#[]⟩ : ByteArray)) := (blk_cell BK138.out 2).trans rfl
                            have hcz63_3 : w12.cell? ⟨gb138, 3, none⟩ = some (.int .i64 0) := (blk_cell BK138.out 3).trans rfl
                            have hcz63_4 : w12.cell? ⟨gb138, 4, none⟩ = some (.slice none 0 0) := (blk_cell BK138.out 4).trans rfl
                            have hcz63_5 : w12.cell? ⟨gb138, 5, none⟩ = some (.slice none 0 0) := (blk_cell BK138.out 5).trans rfl
                            have hcz63_6 : w12.cell? ⟨gb138, 6, none⟩ = some (.slice none 0 0) := (blk_cell BK138.out 6).trans rfl
                            have hcz63_7 : w12.cell? ⟨gb138, 7, none⟩ = some (.slice none 0 0) := (blk_cell BK138.out 7).trans rfl
                            have hcz63_8 : w12.cell? ⟨gb138, 8, none⟩ = some (.slice none 0 0) := (blk_cell BK138.out 8).trans rfl
                            have hcz63_9 : w12.cell? ⟨gb138, 9, none⟩ = some (.slice none 0 0) := (blk_cell BK138.out 9).trans rfl
                            have hcz63_10 : w12.cell? ⟨gb138, 10, none⟩ = some (.slice none 0 0) := (blk_cell BK138.out 10).trans rfl
                            have hcz63_11 : w12.cell? ⟨gb138, 11, none⟩ = some (.int .u8 0) := (blk_cell BK138.out 11).trans rfl
                            have hcz63_12 : w12.cell? ⟨gb138, 12, none⟩ = some (.int .i64 0) := (blk_cell BK138.out 12).trans rfl
                            have hcz63_13 : w12.cell? ⟨gb138, 13, none⟩ = some (.int .i64 0) := (blk_cell BK138.out 13).trans rfl
                            have hfz63_0 := blk_frozen BK138.out 0
                            have hfz63_1 := blk_frozen BK138.out 1
                            have hfz63_2 := blk_frozen BK138.out 2
                            have hfz63_3 := blk_frozen BK138.out 3
                            have hfz63_4 := blk_frozen BK138.out 4
                            have hfz63_5 := blk_frozen BK138.out 5
                            have hfz63_6 := blk_frozen BK138.out 6
                            have hfz63_7 := blk_frozen BK138.out 7
                            have hfz63_8 := blk_frozen BK138.out 8
                            have hfz63_9 := blk_frozen BK138.out 9
                            have hfz63_10 := blk_frozen BK138.out 10
                            have hfz63_11 := blk_frozen BK138.out 11
                            have hfz63_12 := blk_frozen BK138.out 12
                            have hfz63_13 := blk_frozen BK138.out 13
                          case' n6_ =>
                            replace c59 := Bool.eq_false_iff.mpr c59
                            subst c59
                            have H1 : (relayref05_Same.j1 k1 l0 l1 (l0.length : Int) x15_1 true ((rd_T46 l0 x15_1).f0) ((rd_T46 l0 x15_1).f1) ((rd_T46 l0 x15_1).f2) ((rd_T46 l0 x15_1).f3) ((rd_T46 l0 x15_1).f4) ((rd_T46 l0 x15_1).f5) ((rd_T46 l0 x15_1).f6) ((rd_T46 l0 x15_1).f7) ((rd_T46 l0 x15_1).f8) ((rd_T46 l0 x15_1).f9) ((rd_T46 l0 x15_1).f10) ((rd_T46 l0 x15_1).f11) ((rd_T46 l0 x15_1).f12) ((rd_T46 l0 x15_1).f13) ((rd_T46 l1 x15_1).f0) ((rd_T46 l1 x15_1).f1) ((rd_T46 l1 x15_1).f2) ((rd_T46 l1 x15_1).f3) ((rd_T46 l1 x15_1).f4) ((rd_T46 l1 x15_1).f5) ((rd_T46 l1 x15_1).f6) ((rd_T46 l1 x15_1).f7) ((rd_T46 l1 x15_1).f8) ((rd_T46 l1 x15_1).f9) ((rd_T46 l1 x15_1).f10) ((rd_T46 l1 x15_1).f11) ((rd_T46 l1 x15_1).f12) ((rd_T46 l1 x15_1).f13)) = some r := by rw [if_neg (show ¬ (false = true) by decide)] at H; exact H
                            clear H
                            have H := H1
                            clear H1
                            have H' := Aside0.mk H
                            clear H
                            have hnb67 := NB137_138.out
                            have hnc67 := NB138_137.out
                            have hcz68_0 : w12.cell? ⟨gb137, 0, none⟩ = some (.int .i64 0) := (blk_cell BK137.out 0).trans rfl
                            have hcz68_1 : w12.cell? ⟨gb137, 1, none⟩ = some (.int .i64 0) := (blk_cell BK137.out 1).trans rfl
                            have hcz68_2 : w12.cell? ⟨gb137, 2, none⟩ = some (.string (⟨#[]⟩ : ByteArray)) := (blk_cell BK137.out 2).trans rfl
                            have hcz68_3 : w12.cell? ⟨gb137, 3, none⟩ = some (.int .i64 0) := (blk_cell BK137.out 3).trans rfl
                            have hcz68_4 : w12.cell? ⟨gb137, 4, none⟩ = some (.slice none 0 0) := (blk_cell BK137.out 4).trans rfl
                            have hcz68_5 : w12.cell? ⟨gb137, 5, none⟩ = some (.slice none 0 0) := (blk_cell BK137.out 5).trans rfl
                            have hcz68_6 : w12.cell? ⟨gb137, 6, none⟩ = some (.slice none 0 0) := (blk_cell BK137.out 6).trans rfl
                            have hcz68_7 : w12.cell? ⟨gb137, 7, none⟩ = some (.slice none 0 0) := (blk_cell BK137.out 7).trans rfl
                            have hcz68_8 : w12.cell? ⟨gb137, 8, none⟩ = some (.slice none 0 0) := (blk_cell BK137.out 8).trans rfl
                            have hcz68_9 : w12.cell? ⟨gb137, 9, none⟩ = some (.slice none 0 0) := (blk_cell BK137.out 9).trans rfl
                            have hcz68_10 : w12.cell? ⟨gb137, 10, none⟩ = some (.slice none 0 0) := (blk_cell BK137.out 10).trans rfl
                            have hcz68_11 : w12.cell? ⟨gb137, 11, none⟩ = some (.int .u8 0) := (blk_cell BK137.out 11).trans rfl
                            have hcz68_12 : w12.cell? ⟨gb137, 12, none⟩ = some (.int .i64 0) := (blk_cell BK137.out 12).trans rfl
                            have hcz68_13 : w12.cell? ⟨gb137, 13, none⟩ = some (.int .i64 0) := (blk_cell BK137.out 13).trans rfl
                            have hfz68_0 := blk_frozen BK137.out 0
                            have hfz68_1 := blk_frozen BK137.out 1
                            have hfz68_2 := blk_frozen BK137.out 2
                            have hfz68_3 := blk_frozen BK137.out 3
                            have hfz68_4 := blk_frozen BK137.out 4
                            have hfz68_5 := blk_frozen BK137.out 5
                            have hfz68_6 := blk_frozen BK137.out 6
                            have hfz68_7 := blk_frozen BK137.out 7
                            have hfz68_8 := blk_frozen BK137.out 8
                            have hfz68_9 := blk_frozen BK137.out 9
                            have hfz68_10 := blk_frozen BK137.out 10
                            have hfz68_11 := blk_frozen BK137.out 11
                            have hfz68_12 := blk_frozen BK137.out 12
                            have hfz68_13 := blk_frozen BK137.out 13
                            have hcz69_0 : w12.cell? ⟨gb138, 0, none⟩ = some (.int .i64 0) := (blk_cell BK138.out 0).trans rfl
                            have hcz69_1 : w12.cell? ⟨gb138, 1, none⟩ = some (.int .i64 0) := (blk_cell BK138.out 1).trans rfl
                            have hcz69_2 : w12.cell? ⟨gb138, 2, none⟩ = some (.string (⟨#[]⟩ : ByteArray)) := (blk_cell BK138.out 2).trans rfl
                            have hcz69_3 : w12.cell? ⟨gb138, 3, none⟩ = some (.int .i64 0) := (blk_cell BK138.out 3).trans rfl
                            have hcz69_4 : w12.cell? ⟨gb138, 4, none⟩ = some (.slice none 0 0) := (blk_cell BK138.out 4).trans rfl
                            have hcz69_5 : w12.cell? ⟨gb138, 5, none⟩ = some (.slice none 0 0) := (blk_cell BK138.out 5).trans rfl
                            have hcz69_6 : w12.cell? ⟨gb138, 6, none⟩ = some (.slice none 0 0) := (blk_cell BK138.out 6).trans rfl
                            have hcz69_7 : w12.cell? ⟨gb138, 7, none⟩ = some (.slice none 0 0) := (blk_cell BK138.out 7).trans rfl
                            have hcz69_8 : w12.cell? ⟨gb138, 8, none⟩ = some (.slice none 0 0) := (blk_cell BK138.out 8).trans rfl
                            have hcz69_9 : w12.cell? ⟨gb138, 9, none⟩ = some (.slice none 0 0) := (blk_cell BK138.out 9).trans rfl
                            have hcz69_10 : w12.cell? ⟨gb138, 10, none⟩ = some (.slice none 0 0) := (blk_cell BK138.out 10).trans rfl
                            have hcz69_11 : w12.cell? ⟨gb138, 11, none⟩ = some (.int .u8 0) := (blk_cell BK138.out 11).trans rfl
                            have hcz69_12 : w12.cell? ⟨gb138, 12, none⟩ = some (.int .i64 0) := (blk_cell BK138.out 12).trans rfl
                            have hcz69_13 : w12.cell? ⟨gb138, 13, none⟩ = some (.int .i64 0) := (blk_cell BK138.out 13).trans rfl
                            have hfz69_0 := blk_frozen BK138.out 0
                            have hfz69_1 := blk_frozen BK138.out 1
                            have hfz69_2 := blk_frozen BK138.out 2
                            have hfz69_3 := blk_frozen BK138.out 3
                            have hfz69_4 := blk_frozen BK138.out 4
                            have hfz69_5 := blk_frozen BK138.out 5
                            have hfz69_6 := blk_frozen BK138.out 6
                            have hfz69_7 := blk_frozen BK138.out 7
                            have hfz69_8 := blk_frozen BK138.out 8
                            have hfz69_9 := blk_frozen BK138.out 9
                            have hfz69_10 := blk_frozen BK138.out 10
                            have hfz69_11 := blk_frozen BK138.out 11
                            have hfz69_12 := blk_frozen BK138.out 12
                            have hfz69_13 := blk_frozen BK138.out 13
                        case' n5_ =>
                          rw [if_neg c57] at H
                          have c57b0 : (((rd_T46 l0 x15_1).f3) == ((rd_T46 l1 x15_1).f3)) = false := beq_eq_false_iff_ne.mpr c57
                          have c57b1 : (((rd_T46 l0 x15_1).f3) != ((rd_T46 l1 x15_1).f3)) = true := bne_iff_ne.mpr c57
                          have H' := Aside0.mk H
                          clear H
                          have hnb71 := NB137_138.out
                          have hnc71 := NB138_137.out
                          have hcz72_0 : w12.cell? ⟨gb137, 0, none⟩ = some (.int .i64 0) := (blk_cell BK137.out 0).trans rfl
                          have hcz72_1 : w12.cell? ⟨gb137, 1, none⟩ = some (.int .i64 0) := (blk_cell BK137.out 1).trans rfl
                          have hcz72_2 : w12.cell? ⟨gb137, 2, none⟩ = some (.string (⟨#[]⟩ : ByteArray)) := (blk_cell BK137.out 2).trans rfl
                          have hcz72_3 : w12.cell? ⟨gb137, 3, none⟩ = some (.int .i64 0) := (blk_cell BK137.out 3).trans rfl
                          have hcz72_4 : w12.cell? ⟨gb137, 4, none⟩ = some (.slice none 0 0) := (blk_cell BK137.out 4).trans rfl
                          have hcz72_5 : w12.cell? ⟨gb137, 5, none⟩ = some (.slice none 0 0) := (blk_cell BK137.out 5).trans rfl
                          have hcz72_6 : w12.cell? ⟨gb137, 6, none⟩ = some (.slice none 0 0) := (blk_cell BK137.out 6).trans rfl
                          have hcz72_7 : w12.cell? ⟨gb137, 7, none⟩ = some (.slice none 0 0) := (blk_cell BK137.out 7).trans rfl
                          have hcz72_8 : w12.cell? ⟨gb137, 8, none⟩ = some (.slice none 0 0) := (blk_cell BK137.out 8).trans rfl
                          have hcz72_9 : w12.cell? ⟨gb137, 9, none⟩ = some (.slice none 0 0) := (blk_cell BK137.out 9).trans rfl
                          have hcz72_10 : w12.cell? ⟨gb137, 10, none⟩ = some (.slice none 0 0) := (blk_cell BK137.out 10).trans rfl
                          have hcz72_11 : w12.cell? ⟨gb137, 11, none⟩ = some (.int .u8 0) := (blk_cell BK137.out 11).trans rfl
                          have hcz72_12 : w12.cell? ⟨gb137, 12, none⟩ = some (.int .i64 0) := (blk_cell BK137.out 12).trans rfl
                          have hcz72_13 : w12.cell? ⟨gb137, 13, none⟩ = some (.int .i64 0) := (blk_cell BK137.out 13).trans rfl
                          have hfz72_0 := blk_frozen BK137.out 0
                          have hfz72_1 := blk_frozen BK137.out 1
                          have hfz72_2 := blk_frozen BK137.out 2
                          have hfz72_3 := blk_frozen BK137.out 3
                          have hfz72_4 := blk_frozen BK137.out 4
                          have hfz72_5 := blk_frozen BK137.out 5
                          have hfz72_6 := blk_frozen BK137.out 6
                          have hfz72_7 := blk_frozen BK137.out 7
                          have hfz72_8 := blk_frozen BK137.out 8
                          have hfz72_9 := blk_frozen BK137.out 9
                          have hfz72_10 := blk_frozen BK137.out 10
                          have hfz72_11 := blk_frozen BK137.out 11
                          have hfz72_12 := blk_frozen BK137.out 12
                          have hfz72_13 := blk_frozen BK137.out 13
                          have hcz73_0 : w12.cell? ⟨gb138, 0, none⟩ = some (.int .i64 0) := (blk_cell BK138.out 0).trans rfl
                          have hcz73_1 : w12.cell? ⟨gb138, 1, none⟩ = some (.int .i64 0) := (blk_cell BK138.out 1).trans rfl
                          have hcz73_2 : w12.cell? ⟨gb138, 2, none⟩ = some (.string (⟨#[]⟩ : ByteArray)) := (blk_cell BK138.out 2).trans rfl
                          have hcz73_3 : w12.cell? ⟨gb138, 3, none⟩ = some (.int .i64 0) := (blk_cell BK138.out 3).trans rfl
                          have hcz73_4 : w12.cell? ⟨gb138, 4, none⟩ = some (.slice none 0 0) := (blk_cell BK138.out 4).trans rfl
                          have hcz73_5 : w12.cell? ⟨gb138, 5, none⟩ = some (.slice none 0 0) := (blk_cell BK138.out 5).trans rfl
                          have hcz73_6 : w12.cell? ⟨gb138, 6, none⟩ = some (.slice none 0 0) := (blk_cell BK138.out 6).trans rfl
                          have hcz73_7 : w12.cell? ⟨gb138, 7, none⟩ = some (.slice none 0 0) := (blk_cell BK138.out 7).trans rfl
                          have hcz73_8 : w12.cell? ⟨gb138, 8, none⟩ = some (.slice none 0 0) := (blk_cell BK138.out 8).trans rfl
                          have hcz73_9 : w12.cell? ⟨gb138, 9, none⟩ = some (.slice none 0 0) := (blk_cell BK138.out 9).trans rfl
                          have hcz73_10 : w12.cell? ⟨gb138, 10, none⟩ = some (.slice none 0 0) := (blk_cell BK138.out 10).trans rfl
                          have hcz73_11 : w12.cell? ⟨gb138, 11, none⟩ = some (.int .u8 0) := (blk_cell BK138.out 11).trans rfl
                          have hcz73_12 : w12.cell? ⟨gb138, 12, none⟩ = some (.int .i64 0) := (blk_cell BK138.out 12).trans rfl
                          have hcz73_13 : w12.cell? ⟨gb138, 13, none⟩ = some (.int .i64 0) := (blk_cell BK138.out 13).trans rfl
                          have hfz73_0 := blk_frozen BK138.out 0
                          have hfz73_1 := blk_frozen BK138.out 1
                          have hfz73_2 := blk_frozen BK138.out 2
                          have hfz73_3 := blk_frozen BK138.out 3
                          have hfz73_4 := blk_frozen BK138.out 4
                          have hfz73_5 := blk_frozen BK138.out 5
                          have hfz73_6 := blk_frozen BK138.out 6
                          have hfz73_7 := blk_frozen BK138.out 7
                          have hfz73_8 := blk_frozen BK138.out 8
                          have hfz73_9 := blk_frozen BK138.out 9
                          have hfz73_10 := blk_frozen BK138.out 10
                          have hfz73_11 := blk_frozen BK138.out 11
                          have hfz73_12 := blk_frozen BK138.out 12
                          have hfz73_13 := blk_frozen BK138.out 13
                          go_wp2
                          go_meet
                          case rel => exact ⟨_, (true), (by first | rfl | (simp; done) | (simp [*]; done) | (simp [*, bne]; done)), H', ⟨by have := HK1.out; first | omega | exact Nat.le_refl _⟩, ⟨by (with_reducible repeat (first | refine blk_drewN ?_ _ | refine blk_drew ?_ | refine blk_alloc ?_ _)); refine blk_far ?_ NB137_138.out _; (with_reducible repeat (first | refine blk_drewN ?_ _ | refine blk_drew ?_ | refine blk_alloc ?_ _)); refine blk_far ?_ NB137_138.out _; (with_reducible repeat (first | refine blk_drewN ?_ _ | refine blk_drew ?_ | refine blk_alloc ?_ _)); refine blk_far ?_ NB137_138.out _; (with_reducible repeat (first | refine blk_drewN ?_ _ | refine blk_drew ?_ | refine blk_alloc ?_ _)); refine blk_far ?_ NB137_138.out _; (with_reducible repeat (first | refine blk_drewN ?_ _ | refine blk_drew ?_ | refine blk_alloc ?_ _)); refine blk_far ?_ NB137_138.out _; (with_reducible repeat (first | refine blk_drewN ?_ _ | refine blk_drew ?_ | refine blk_alloc ?_ _)); refine blk_far ?_ NB137_138.out _; (with_reducible repeat (first | refine blk_drewN ?_ _ | refine blk_drew ?_ | refine blk_alloc ?_ _)); refine blk_far ?_ NB137_138.out _; (with_reducible repeat (first | refine blk_drewN ?_ _ | refine blk_drew ?_ | refine blk_alloc ?_ _)); refine blk_far ?_ NB137_138.out _; (with_reducible repeat (first | refine blk_drewN ?_ _ | refine blk_drew ?_ | refine blk_alloc ?_ _)); refine blk_far ?_ NB137_138.out _; (with_reducible repeat (first | refine blk_drewN ?_ _ | refine blk_drew ?_ | refine blk_alloc ?_ _)); refine blk_far ?_ NB137_138.out _; (with_reducible repeat (first | refine blk_drewN ?_ _ | refine blk_drew ?_ | refine blk_alloc ?_ _)); refine blk_far ?_ NB137_138.out _; (with_reducible repeat (first | refine blk_drewN ?_ _ | refine blk_drew ?_ | refine blk_alloc ?_ _)); refine blk_far ?_ NB137_138.out _; (with_reducible repeat (first | refine blk_drewN ?_ _ | refine blk_drew ?_ | refine blk_alloc ?_ _)); refine blk_far ?_ NB137_138.out _; (with_reducible repeat (first | refine blk_drewN ?_ _ | refine blk_drew ?_ | refine blk_alloc ?_ _)); refine blk_far ?_ NB137_138.out _; (with_reducible repeat (first | refine blk_drewN ?_ _ | refine blk_drew ?_ | refine blk_alloc ?_ _)); apply put14; (with_reducible repeat (first | refine blk_drewN ?_ _ | refine blk_drew ?_ | refine blk_alloc ?_ _)); exact BK137.out⟩, ⟨by (with_reducible repeat (first | refine blk_drewN ?_ _ | refine blk_drew ?_ | refine blk_alloc ?_ _)); apply put14; (with_reducible repeat (first | refine blk_drewN ?_ _ | refine blk_drew ?_ | refine blk_alloc ?_ _)); refine blk_far ?_ NB138_137.out _; (with_reducible repeat (first | refine blk_drewN ?_ _ | refine blk_drew ?_ | refine blk_alloc ?_ _)); refine blk_far ?_ NB138_137.out _; (with_reducible repeat (first | refine blk_drewN ?_ _ | refine blk_drew ?_ | refine blk_alloc ?_ _)); refine blk_far ?_ NB138_137.out _; (with_reducible repeat (first | refine blk_drewN ?_ _ | refine blk_drew ?_ | refine blk_alloc ?_ _)); refine blk_far ?_ NB138_137.out _; (with_reducible repeat (first | refine blk_drewN ?_ _ | refine blk_drew ?_ | refine blk_alloc ?_ _)); refine blk_far ?_ NB138_137.out _; (with_reducible repeat (first | refine blk_drewN ?_ _ | refine blk_drew ?_ | refine blk_alloc ?_ _)); refine blk_far ?_ NB138_137.out _; (with_reducible repeat (first | refine blk_drewN ?_ _ | refine blk_drew ?_ | refine blk_alloc ?_ _)); refine blk_far ?_ NB138_137.out _; (with_reducible repeat (first | refine blk_drewN ?_ _ | refine blk_drew ?_ | refine blk_alloc ?_ _)); refine blk_far ?_ NB138_137.out _; (with_reducible repeat (first | refine blk_drewN ?_ _ | refine blk_drew ?_ | refine blk_alloc ?_ _)); refine blk_far ?_ NB138_137.out _; (with_reducible repeat (first | refine blk_drewN ?_ _ | refine blk_drew ?_ | refine blk_alloc ?_ _)); refine blk_far ?_ NB138_137.out _; (with_reducible repeat (first | refine blk_drewN ?_ _ | refine blk_drew ?_ | refine blk_alloc ?_ _)); refine blk_far ?_ NB138_137.out _; (with_reducible repeat (first | refine blk_drewN ?_ _ | refine blk_drew ?_ | refine blk_alloc ?_ _)); refine blk_far ?_ NB138_137.out _; (with_reducible repeat (first | refine blk_drewN ?_ _ | refine blk_drew ?_ | refine blk_alloc ?_ _)); refine blk_far ?_ NB138_137.out _; (with_reducible repeat (first | refine blk_drewN ?_ _ | refine blk_drew ?_ | refine blk_alloc ?_ _)); refine blk_far ?_ NB138_137.out _; (with_reducible repeat (first | refine blk_drewN ?_ _ | refine blk_drew ?_ | refine blk_alloc ?_ _)); exact BK138.out⟩, ⟨by repeat (first | (with_reducible first | exact HB.out | apply below_alloc | apply pw_below_drewN | apply below_drew1 | refine below_set ?_ GE137.out | refine below_set ?_ GE138.out) | exact HB.out)⟩⟩
                    case' n2_ =>
                      rw [if_neg c42] at H
                      have c42b0 : (((rd_T46 l0 x15_1).f2).toList == ((rd_T46 l1 x15_1).f2).toList) = false := beq_eq_false_iff_ne.mpr c42
                      have c42b1 : (((rd_T46 l0 x15_1).f2).toList != ((rd_T46 l1 x15_1).f2).toList) = true := bne_iff_ne.mpr c42
                      have H' := Aside0.mk H
                      clear H
                      have hnb74 := NB137_138.out
                      have hnc74 := NB138_137.out
                      have hcz75_0 : w12.cell? ⟨gb137, 0, none⟩ = some (.int .i64 0) := (blk_cell BK137.out 0).trans rfl
                      have hcz75_1 : w12.cell? ⟨gb137, 1, none⟩ = some (.int .i64 0) := (blk_cell BK137.out 1).trans rfl
                      have hcz75_2 : w12.cell? ⟨gb137, 2, none⟩ = some (.string (⟨#[]⟩ : ByteArray)) := (blk_cell BK137.out 2).trans rfl
                      have hcz75_3 : w12.cell? ⟨gb137, 3, none⟩ = some (.int .i64 0) := (blk_cell BK137.out 3).trans rfl
                      have hcz75_4 : w12.cell? ⟨gb137, 4, none⟩ = some (.slice none 0 0) := (blk_cell BK137.out 4).trans rfl
                      have hcz75_5 : w12.cell? ⟨gb137, 5, none⟩ = some (.slice none 0 0) := (blk_cell BK137.out 5).trans rfl
                      have hcz75_6 : w12.cell? ⟨gb137, 6, none⟩ = some (.slice none 0 0) := (blk_cell BK137.out 6).trans rfl
                      have hcz75_7 : w12.cell? ⟨gb137, 7, none⟩ = some (.slice none 0 0) := (blk_cell BK137.out 7).trans rfl
                      have hcz75_8 : w12.cell? ⟨gb137, 8, none⟩ = some (.slice none 0 0) := (blk_cell BK137.out 8).trans rfl
                      have hcz75_9 : w12.cell? ⟨gb137, 9, none⟩ = some (.slice none 0 0) := (blk_cell BK137.out 9).trans rfl
                      have hcz75_10 : w12.cell? ⟨gb137, 10, none⟩ = some (.slice none 0 0) := (blk_cell BK137.out 10).trans rfl
                      have hcz75_11 : w12.cell? ⟨gb137, 11, none⟩ = some (.int .u8 0) := (blk_cell BK137.out 11).trans rfl
                      have hcz75_12 : w12.cell? ⟨gb137, 12, none⟩ = some (.int .i64 0) := (blk_cell BK137.out 12).trans rfl
                      have hcz75_13 : w12.cell? ⟨gb137, 13, none⟩ = some (.int .i64 0) := (blk_cell BK137.out 13).trans rfl
                      have hfz75_0 := blk_frozen BK137.out 0
                      have hfz75_1 := blk_frozen BK137.out 1
                      have hfz75_2 := blk_frozen BK137.out 2
                      have hfz75_3 := blk_frozen BK137.out 3
                      have hfz75_4 := blk_frozen BK137.out 4
                      have hfz75_5 := blk_frozen BK137.out 5
                      have hfz75_6 := blk_frozen BK137.out 6
                      have hfz75_7 := blk_frozen BK137.out 7
                      have hfz75_8 := blk_frozen BK137.out 8
                      have hfz75_9 := blk_frozen BK137.out 9
                      have hfz75_10 := blk_frozen BK137.out 10
                      have hfz75_11 := blk_frozen BK137.out 11
                      have hfz75_12 := blk_frozen BK137.out 12
                      have hfz75_13 := blk_frozen BK137.out 13
                      have hcz76_0 : w12.cell? ⟨gb138, 0, none⟩ = some (.int .i64 0) := (blk_cell BK138.out 0).trans rfl
                      have hcz76_1 : w12.cell? ⟨gb138, 1, none⟩ = some (.int .i64 0) := (blk_cell BK138.out 1).trans rfl
                      have hcz76_2 : w12.cell? ⟨gb138, 2, none⟩ = some (.string (⟨#[]⟩ : ByteArray)) := (blk_cell BK138.out 2).trans rfl
                      have hcz76_3 : w12.cell? ⟨gb138, 3, none⟩ = some (.int .i64 0) := (blk_cell BK138.out 3).trans rfl
                      have hcz76_4 : w12.cell? ⟨gb138, 4, none⟩ = some (.slice none 0 0) := (blk_cell BK138.out 4).trans rfl
                      have hcz76_5 : w12.cell? ⟨gb138, 5, none⟩ = some (.slice none 0 0) := (blk_cell BK138.out 5).trans rfl
                      have hcz76_6 : w12.cell? ⟨gb138, 6, none⟩ = some (.slice none 0 0) := (blk_cell BK138.out 6).trans rfl
                      have hcz76_7 : w12.cell? ⟨gb138, 7, none⟩ = some (.slice none 0 0) := (blk_cell BK138.out 7).trans rfl
                      have hcz76_8 : w12.cell? ⟨gb138, 8, none⟩ = some (.slice none 0 0) := (blk_cell BK138.out 8).trans rfl
                      have hcz76_9 : w12.cell? ⟨gb138, 9, none⟩ = some (.slice none 0 0) := (blk_cell BK138.out 9).trans rfl
                      have hcz76_10 : w12.cell? ⟨gb138, 10, none⟩ = some (.slice none 0 0) := (blk_cell BK138.out 10).trans rfl
                      have hcz76_11 : w12.cell? ⟨gb138, 11, none⟩ = some (.int .u8 0) := (blk_cell BK138.out 11).trans rfl
                      have hcz76_12 : w12.cell? ⟨gb138, 12, none⟩ = some (.int .i64 0) := (blk_cell BK138.out 12).trans rfl
                      have hcz76_13 : w12.cell? ⟨gb138, 13, none⟩ = some (.int .i64 0) := (blk_cell BK138.out 13).trans rfl
                      have hfz76_0 := blk_frozen BK138.out 0
                      have hfz76_1 := blk_frozen BK138.out 1
                      have hfz76_2 := blk_frozen BK138.out 2
                      have hfz76_3 := blk_frozen BK138.out 3
                      have hfz76_4 := blk_frozen BK138.out 4
                      have hfz76_5 := blk_frozen BK138.out 5
                      have hfz76_6 := blk_frozen BK138.out 6
                      have hfz76_7 := blk_frozen BK138.out 7
                      have hfz76_8 := blk_frozen BK138.out 8
                      have hfz76_9 := blk_frozen BK138.out 9
                      have hfz76_10 := blk_frozen BK138.out 10
                      have hfz76_11 := blk_frozen BK138.out 11
                      have hfz76_12 := blk_frozen BK138.out 12
                      have hfz76_13 := blk_frozen BK138.out 13
                      go_wp2
                      go_meet
                      case rel => exact ⟨_, (true), (by first | rfl | (simp; done) | (simp [*]; done) | (simp [*, bne]; done)), H', ⟨by have := HK1.out; first | omega | exact Nat.le_refl _⟩, ⟨by (with_reducible repeat (first | refine blk_drewN ?_ _ | refine blk_drew ?_ | refine blk_alloc ?_ _)); refine blk_far ?_ NB137_138.out _; (with_reducible repeat (first | refine blk_drewN ?_ _ | refine blk_drew ?_ | refine blk_alloc ?_ _)); refine blk_far ?_ NB137_138.out _; (with_reducible repeat (first | refine blk_drewN ?_ _ | refine blk_drew ?_ | refine blk_alloc ?_ _)); refine blk_far ?_ NB137_138.out _; (with_reducible repeat (first | refine blk_drewN ?_ _ | refine blk_drew ?_ | refine blk_alloc ?_ _)); refine blk_far ?_ NB137_138.out _; (with_reducible repeat (first | refine blk_drewN ?_ _ | refine blk_drew ?_ | refine blk_alloc ?_ _)); refine blk_far ?_ NB137_138.out _; (with_reducible repeat (first | refine blk_drewN ?_ _ | refine blk_drew ?_ | refine blk_alloc ?_ _)); refine blk_far ?_ NB137_138.out _; (with_reducible repeat (first | refine blk_drewN ?_ _ | refine blk_drew ?_ | refine blk_alloc ?_ _)); refine blk_far ?_ NB137_138.out _; (with_reducible repeat (first | refine blk_drewN ?_ _ | refine blk_drew ?_ | refine blk_alloc ?_ _)); refine blk_far ?_ NB137_138.out _; (with_reducible repeat (first | refine blk_drewN ?_ _ | refine blk_drew ?_ | refine blk_alloc ?_ _)); refine blk_far ?_ NB137_138.out _; (with_reducible repeat (first | refine blk_drewN ?_ _ | refine blk_drew ?_ | refine blk_alloc ?_ _)); refine blk_far ?_ NB137_138.out _; (with_reducible repeat (first | refine blk_drewN ?_ _ | refine blk_drew ?_ | refine blk_alloc ?_ _)); refine blk_far ?_ NB137_138.out _; (with_reducible repeat (first | refine blk_drewN ?_ _ | refine blk_drew ?_ | refine blk_alloc ?_ _)); refine blk_far ?_ NB137_138.out _; (with_reducible repeat (first | refine blk_drewN ?_ _ | refine blk_drew ?_ | refine blk_alloc ?_ _)); refine blk_far ?_ NB137_138.out _; (with_reducible repeat (first | refine blk_drewN ?_ _ | refine blk_drew ?_ | refine blk_alloc ?_ _)); refine blk_far ?_ NB137_138.out _; (with_reducible repeat (first | refine blk_drewN ?_ _ | refine blk_drew ?_ | refine blk_alloc ?_ _)); apply put14; (with_reducible repeat (first | refine blk_drewN ?_ _ | refine blk_drew ?_ | refine blk_alloc ?_ _)); exact BK137.out⟩, ⟨by (with_reducible repeat (first | refine blk_drewN ?_ _ | refine blk_drew ?_ | refine blk_alloc ?_ _)); apply put14; (with_reducible repeat (first | refine blk_drewN ?_ _ | refine blk_drew ?_ | refine blk_alloc ?_ _)); refine blk_far ?_ NB138_137.out _; (with_reducible repeat (first | refine blk_drewN ?_ _ | refine blk_drew ?_ | refine blk_alloc ?_ _)); refine blk_far ?_ NB138_137.out _; (with_reducible repeat (first | refine blk_drewN ?_ _ | refine blk_drew ?_ | refine blk_alloc ?_ _)); refine blk_far ?_ NB138_137.out _; (with_reducible repeat (first | refine blk_drewN ?_ _ | refine blk_drew ?_ | refine blk_alloc ?_ _)); refine blk_far ?_ NB138_137.out _; (with_reducible repeat (first | refine blk_drewN ?_ _ | refine blk_drew ?_ | refine blk_alloc ?_ _)); refine blk_far ?_ NB138_137.out _; (with_reducible repeat (first | refine blk_drewN ?_ _ | refine blk_drew ?_ | refine blk_alloc ?_ _)); refine blk_far ?_ NB138_137.out _; (with_reducible repeat (first | refine blk_drewN ?_ _ | refine blk_drew ?_ | refine blk_alloc ?_ _)); refine blk_far ?_ NB138_137.out _; (with_reducible repeat (first | refine blk_drewN ?_ _ | refine blk_drew ?_ | refine blk_alloc ?_ _)); refine blk_far ?_ NB138_137.out _; (with_reducible repeat (first | refine blk_drewN ?_ _ | refine blk_drew ?_ | refine blk_alloc ?_ _)); refine blk_far ?_ NB138_137.out _; (with_reducible repeat (first | refine blk_drewN ?_ _ | refine blk_drew ?_ | refine blk_alloc ?_ _)); refine blk_far ?_ NB138_137.out _; (with_reducible repeat (first | refine blk_drewN ?_ _ | refine blk_drew ?_ | refine blk_alloc ?_ _)); refine blk_far ?_ NB138_137.out _; (with_reducible repeat (first | refine blk_drewN ?_ _ | refine blk_drew ?_ | refine blk_alloc ?_ _)); refine blk_far ?_ NB138_137.out _; (with_reducible repeat (first | refine blk_drewN ?_ _ | refine blk_drew ?_ | refine blk_alloc ?_ _)); refine blk_far ?_ NB138_137.out _; (with_reducible repeat (first | refine blk_drewN ?_ _ | refine blk_drew ?_ | refine blk_alloc ?_ _)); refine blk_far ?_ NB138_137.out _; (with_reducible repeat (first | refine blk_drewN ?_ _ | refine blk_drew ?_ | refine blk_alloc ?_ _)); exact BK138.out⟩, ⟨by repeat (first | (with_reducible first | exact HB.out | apply below_alloc | apply pw_below_drewN | apply below_drew1 | refine below_set ?_ GE137.out | refine below_set ?_ GE138.out) | exact HB.out)⟩⟩
                  case' n1_ =>
                    rw [if_neg c41] at H
                    have c41b0 : (((rd_T46 l0 x15_1).f0) == ((rd_T46 l1 x15_1).f0)) = false := beq_eq_false_iff_ne.mpr c41
                    have c41b1 : (((rd_T46 l0 x15_1).f0) != ((rd_T46 l1 x15_1).f0)) = true := bne_iff_ne.mpr c41
                    (first | rw [c41b0] | (simp only [i64_w, i32_w]; rw [c41b0]) | skip)
                    have H' := Aside0.mk H
                    clear H
                    have hnb77 := NB137_138.out
                    have hnc77 := NB138_137.out
                    have hcz78_0 : w12.cell? ⟨gb137, 0, none⟩ = some (.int .i64 0) := (blk_cell BK137.out 0).trans rfl
                    have hcz78_1 : w12.cell? ⟨gb137, 1, none⟩ = some (.int .i64 0) := (blk_cell BK137.out 1).trans rfl
                    have hcz78_2 : w12.cell? ⟨gb137, 2, none⟩ = some (.string (⟨#[]⟩ : ByteArray)) := (blk_cell BK137.out 2).trans rfl
                    have hcz78_3 : w12.cell? ⟨gb137, 3, none⟩ = some (.int .i64 0) := (blk_cell BK137.out 3).trans rfl
                    have hcz78_4 : w12.cell? ⟨gb137, 4, none⟩ = some (.slice none 0 0) := (blk_cell BK137.out 4).trans rfl
                    have hcz78_5 : w12.cell? ⟨gb137, 5, none⟩ = some (.slice none 0 0) := (blk_cell BK137.out 5).trans rfl
                    have hcz78_6 : w12.cell? ⟨gb137, 6, none⟩ = some (.slice none 0 0) := (blk_cell BK137.out 6).trans rfl
                    have hcz78_7 : w12.cell? ⟨gb137, 7, none⟩ = some (.slice none 0 0) := (blk_cell BK137.out 7).trans rfl
                    have hcz78_8 : w12.cell? ⟨gb137, 8, none⟩ = some (.slice none 0 0) := (blk_cell BK137.out 8).trans rfl
                    have hcz78_9 : w12.cell? ⟨gb137, 9, none⟩ = some (.slice none 0 0) := (blk_cell BK137.out 9).trans rfl
                    have hcz78_10 : w12.cell? ⟨gb137, 10, none⟩ = some (.slice none 0 0) := (blk_cell BK137.out 10).trans rfl
                    have hcz78_11 : w12.cell? ⟨gb137, 11, none⟩ = some (.int .u8 0) := (blk_cell BK137.out 11).trans rfl
                    have hcz78_12 : w12.cell? ⟨gb137, 12, none⟩ = some (.int .i64 0) := (blk_cell BK137.out 12).trans rfl
                    have hcz78_13 : w12.cell? ⟨gb137, 13, none⟩ = some (.int .i64 0) := (blk_cell BK137.out 13).trans rfl
                    have hfz78_0 := blk_frozen BK137.out 0
                    have hfz78_1 := blk_frozen BK137.out 1
                    have hfz78_2 := blk_frozen BK137.out 2
                    have hfz78_3 := blk_frozen BK137.out 3
                    have hfz78_4 := blk_frozen BK137.out 4
                    have hfz78_5 := blk_frozen BK137.out 5
                    have hfz78_6 := blk_frozen BK137.out 6
                    have hfz78_7 := blk_frozen BK137.out 7
                    have hfz78_8 := blk_frozen BK137.out 8
                    have hfz78_9 := blk_frozen BK137.out 9
                    have hfz78_10 := blk_frozen BK137.out 10
                    have hfz78_11 := blk_frozen BK137.out 11
                    have hfz78_12 := blk_frozen BK137.out 12
                    have hfz78_13 := blk_frozen BK137.out 13
                    have hcz79_0 : w12.cell? ⟨gb138, 0, none⟩ = some (.int .i64 0) := (blk_cell BK138.out 0).trans rfl
                    have hcz79_1 : w12.cell? ⟨gb138, 1, none⟩ = some (.int .i64 0) := (blk_cell BK138.out 1).trans rfl
                    have hcz79_2 : w12.cell? ⟨gb138, 2, none⟩ = some (.string (⟨#[]⟩ : ByteArray)) := (blk_cell BK138.out 2).trans rfl
                    have hcz79_3 : w12.cell? ⟨gb138, 3, none⟩ = some (.int .i64 0) := (blk_cell BK138.out 3).trans rfl
                    have hcz79_4 : w12.cell? ⟨gb138, 4, none⟩ = some (.slice none 0 0) := (blk_cell BK138.out 4).trans rfl
                    have hcz79_5 : w12.cell? ⟨gb138, 5, none⟩ = some (.slice none 0 0) := (blk_cell BK138.out 5).trans rfl
                    have hcz79_6 : w12.cell? ⟨gb138, 6, none⟩ = some (.slice none 0 0) := (blk_cell BK138.out 6).trans rfl
                    have hcz79_7 : w12.cell? ⟨gb138, 7, none⟩ = some (.slice none 0 0) := (blk_cell BK138.out 7).trans rfl
                    have hcz79_8 : w12.cell? ⟨gb138, 8, none⟩ = some (.slice none 0 0) := (blk_cell BK138.out 8).trans rfl
                    have hcz79_9 : w12.cell? ⟨gb138, 9, none⟩ = some (.slice none 0 0) := (blk_cell BK138.out 9).trans rfl
                    have hcz79_10 : w12.cell? ⟨gb138, 10, none⟩ = some (.slice none 0 0) := (blk_cell BK138.out 10).trans rfl
                    have hcz79_11 : w12.cell? ⟨gb138, 11, none⟩ = some (.int .u8 0) := (blk_cell BK138.out 11).trans rfl
                    have hcz79_12 : w12.cell? ⟨gb138, 12, none⟩ = some (.int .i64 0) := (blk_cell BK138.out 12).trans rfl
                    have hcz79_13 : w12.cell? ⟨gb138, 13, none⟩ = some (.int .i64 0) := (blk_cell BK138.out 13).trans rfl
                    have hfz79_0 := blk_frozen BK138.out 0
                    have hfz79_1 := blk_frozen BK138.out 1
                    have hfz79_2 := blk_frozen BK138.out 2
                    have hfz79_3 := blk_frozen BK138.out 3
                    have hfz79_4 := blk_frozen BK138.out 4
                    have hfz79_5 := blk_frozen BK138.out 5
                    have hfz79_6 := blk_frozen BK138.out 6
                    have hfz79_7 := blk_frozen BK138.out 7
                    have hfz79_8 := blk_frozen BK138.out 8
                    have hfz79_9 := blk_frozen BK138.out 9
                    have hfz79_10 := blk_frozen BK138.out 10
                    have hfz79_11 := blk_frozen BK138.out 11
                    have hfz79_12 := blk_frozen BK138.out 12
                    have hfz79_13 := blk_frozen BK138.out 13
                    go_wp2
                    go_meet
                    case rel => exact ⟨_, (true), (by first | rfl | (simp; done) | (simp [*]; done) | (simp [*, bne]; done)), H', ⟨by have := HK1.out; first | omega | exact Nat.le_refl _⟩, ⟨by (with_reducible repeat (first | refine blk_drewN ?_ _ | refine blk_drew ?_ | refine blk_alloc ?_ _)); refine blk_far ?_ NB137_138.out _; (with_reducible repeat (first | refine blk_drewN ?_ _ | refine blk_drew ?_ | refine blk_alloc ?_ _)); refine blk_far ?_ NB137_138.out _; (with_reducible repeat (first | refine blk_drewN ?_ _ | refine blk_drew ?_ | refine blk_alloc ?_ _)); refine blk_far ?_ NB137_138.out _; (with_reducible repeat (first | refine blk_drewN ?_ _ | refine blk_drew ?_ | refine blk_alloc ?_ _)); refine blk_far ?_ NB137_138.out _; (with_reducible repeat (first | refine blk_drewN ?_ _ | refine blk_drew ?_ | refine blk_alloc ?_ _)); refine blk_far ?_ NB137_138.out _; (with_reducible repeat (first | refine blk_drewN ?_ _ | refine blk_drew ?_ | refine blk_alloc ?_ _)); refine blk_far ?_ NB137_138.out _; (with_reducible repeat (first | refine blk_drewN ?_ _ | refine blk_drew ?_ | refine blk_alloc ?_ _)); refine blk_far ?_ NB137_138.out _; (with_reducible repeat (first | refine blk_drewN ?_ _ | refine blk_drew ?_ | refine blk_alloc ?_ _)); refine blk_far ?_ NB137_138.out _; (with_reducible repeat (first | refine blk_drewN ?_ _ | refine blk_drew ?_ | refine blk_alloc ?_ _)); refine blk_far ?_ NB137_138.out _; (with_reducible repeat (first | refine blk_drewN ?_ _ | refine blk_drew ?_ | refine blk_alloc ?_ _)); refine blk_far ?_ NB137_138.out _; (with_reducible repeat (first | refine blk_drewN ?_ _ | refine blk_drew ?_ | refine blk_alloc ?_ _)); refine blk_far ?_ NB137_138.out _; (with_reducible repeat (first | refine blk_drewN ?_ _ | refine blk_drew ?_ | refine blk_alloc ?_ _)); refine blk_far ?_ NB137_138.out _; (with_reducible repeat (first | refine blk_drewN ?_ _ | refine blk_drew ?_ | refine blk_alloc ?_ _)); refine blk_far ?_ NB137_138.out _; (with_reducible repeat (first | refine blk_drewN ?_ _ | refine blk_drew ?_ | refine blk_alloc ?_ _)); refine blk_far ?_ NB137_138.out _; (with_reducible repeat (first | refine blk_drewN ?_ _ | refine blk_drew ?_ | refine blk_alloc ?_ _)); apply put14; (with_reducible repeat (first | refine blk_drewN ?_ _ | refine blk_drew ?_ | refine blk_alloc ?_ _)); exact BK137.out⟩, ⟨by (with_reducible repeat (first | refine blk_drewN ?_ _ | refine blk_drew ?_ | refine blk_alloc ?_ _)); apply put14; (with_reducible repeat (first | refine blk_drewN ?_ _ | refine blk_drew ?_ | refine blk_alloc ?_ _)); refine blk_far ?_ NB138_137.out _; (with_reducible repeat (first | refine blk_drewN ?_ _ | refine blk_drew ?_ | refine blk_alloc ?_ _)); refine blk_far ?_ NB138_137.out _; (with_reducible repeat (first | refine blk_drewN ?_ _ | refine blk_drew ?_ | refine blk_alloc ?_ _)); refine blk_far ?_ NB138_137.out _; (with_reducible repeat (first | refine blk_drewN ?_ _ | refine blk_drew ?_ | refine blk_alloc ?_ _)); refine blk_far ?_ NB138_137.out _; (with_reducible repeat (first | refine blk_drewN ?_ _ | refine blk_drew ?_ | refine blk_alloc ?_ _)); refine blk_far ?_ NB138_137.out _; (with_reducible repeat (first | refine blk_drewN ?_ _ | refine blk_drew ?_ | refine blk_alloc ?_ _)); refine blk_far ?_ NB138_137.out _; (with_reducible repeat (first | refine blk_drewN ?_ _ | refine blk_drew ?_ | refine blk_alloc ?_ _)); refine blk_far ?_ NB138_137.out _; (with_reducible repeat (first | refine blk_drewN ?_ _ | refine blk_drew ?_ | refine blk_alloc ?_ _)); refine blk_far ?_ NB138_137.out _; (with_reducible repeat (first | refine blk_drewN ?_ _ | refine blk_drew ?_ | refine blk_alloc ?_ _)); refine blk_far ?_ NB138_137.out _; (with_reducible repeat (first | refine blk_drewN ?_ _ | refine blk_drew ?_ | refine blk_alloc ?_ _)); refine blk_far ?_ NB138_137.out _; (with_reducible repeat (first | refine blk_drewN ?_ _ | refine blk_drew ?_ | refine blk_alloc ?_ _)); refine blk_far ?_ NB138_137.out _; (with_reducible repeat (first | refine blk_drewN ?_ _ | refine blk_drew ?_ | refine blk_alloc ?_ _)); refine blk_far ?_ NB138_137.out _; (with_reducible repeat (first | refine blk_drewN ?_ _ | refine blk_drew ?_ | refine blk_alloc ?_ _)); refine blk_far ?_ NB138_137.out _; (with_reducible repeat (first | refine blk_drewN ?_ _ | refine blk_drew ?_ | refine blk_alloc ?_ _)); refine blk_far ?_ NB138_137.out _; (with_reducible repeat (first | refine blk_drewN ?_ _ | refine blk_drew ?_ | refine blk_alloc ?_ _)); exact BK138.out⟩, ⟨by repeat (first | (with_reducible first | exact HB.out | apply below_alloc | apply pw_below_drewN | apply below_drew1 | refine below_set ?_ GE137.out | refine below_set ?_ GE138.out) | exact HB.out)⟩⟩
                  all_goals go_wp2_with (first | (go_at_call 28; (with_reducible refine (relayref05_sameExprs.calls k1 _ _ ((rd_T46 l0 x15_1).f4) _ _ ((rd_T46 l1 x15_1).f4) _ _ ?side1 ?side2 ?side3 ?side4 A44.out).mono ?_); (case side1 => exact Kd.C_below HR135_4.out (by repeat (first | (with_reducible first | exact HB.out | apply below_alloc | apply pw_below_drewN | apply below_drew1 | refine below_set ?_ GE137.out | refine below_set ?_ GE138.out) | exact HB.out))); (case side2 => exact HC135_4.out); (case side3 => exact Kd.C_below HR136_4.out (by repeat (first | (with_reducible first | exact HB.out | apply below_alloc | apply pw_below_drewN | apply below_drew1 | refine below_set ?_ GE137.out | refine below_set ?_ GE138.out) | exact HB.out))); (case side4 => exact HC136_4.out); rintro e w50 ⟨rfl, hb⟩; have n0_ := Aside0.mk (blk_below (g := gb137) (o := .cells #[.int .i64 ((rd_T46 l0 x15_1).f0), .int .i64 ((rd_T46 l0 x15_1).f1), .string ((rd_T46 l0 x15_1).f2), .int .i64 ((rd_T46 l0 x15_1).f3), .slice A135_4 ((rd_T46 l0 x15_1).f4).length c135_4, .slice A135_5 ((rd_T46 l0 x15_1).f5).length c135_5, .slice A135_6 ((rd_T46 l0 x15_1).f6).length c135_6, .slice A135_7 ((rd_T46 l0 x15_1).f7).length c135_7, .slice A135_8 ((rd_T46 l0 x15_1).f8).length c135_8, .slice A135_9 ((rd_T46 l0 x15_1).f9).length c135_9, .slice A135_10 ((rd_T46 l0 x15_1).f10).length c135_10, .int .u8 ((rd_T46 l0 x15_1).f11), .int .i64 ((rd_T46 l0 x15_1).f12), .int .i64 ((rd_T46 l0 x15_1).f13)] 46 (0, 0)) (by (with_reducible repeat (first | refine blk_drewN ?_ _ | refine blk_drew ?_ | refine blk_alloc ?_ _)); refine blk_far ?_ NB137_138.out _; (with_reducible repeat (first | refine blk_drewN ?_ _ | refine blk_drew ?_ | refine blk_alloc ?_ _)); refine blk_far ?_ NB137_138.out _; (with_reducible repeat (first | refine blk_drewN ?_ _ | refine blk_drew ?_ | refine blk_alloc ?_ _)); refine blk_far ?_ NB137_138.out _; (with_reducible repeat (first | refine blk_drewN ?_ _ | refine blk_drew ?_ | refine blk_alloc ?_ _)); refine blk_far ?_ NB137_138.out _; (with_reducible repeat (first | refine blk_drewN ?_ _ | refine blk_drew ?_ | refine blk_alloc ?_ _)); refine blk_far ?_ NB137_138.out _; (with_reducible repeat (first | refine blk_drewN ?_ _ | refine blk_drew ?_ | refine blk_alloc ?_ _)); refine blk_far ?_ NB137_138.out _; (with_reducible repeat (first | refine blk_drewN ?_ _ | refine blk_drew ?_ | refine blk_alloc ?_ _)); refine blk_far ?_ NB137_138.out _; (with_reducible repeat (first | refine blk_drewN ?_ _ | refine blk_drew ?_ | refine blk_alloc ?_ _)); refine blk_far ?_ NB137_138.out _; (with_reducible repeat (first | refine blk_drewN ?_ _ | refine blk_drew ?_ | refine blk_alloc ?_ _)); refine blk_far ?_ NB137_138.out _; (with_reducible repeat (first | refine blk_drewN ?_ _ | refine blk_drew ?_ | refine blk_alloc ?_ _)); refine blk_far ?_ NB137_138.out _; (with_reducible repeat (first | refine blk_drewN ?_ _ | refine blk_drew ?_ | refine blk_alloc ?_ _)); refine blk_far ?_ NB137_138.out _; (with_reducible repeat (first | refine blk_drewN ?_ _ | refine blk_drew ?_ | refine blk_alloc ?_ _)); refine blk_far ?_ NB137_138.out _; (with_reducible repeat (first | refine blk_drewN ?_ _ | refine blk_drew ?_ | refine blk_alloc ?_ _)); refine blk_far ?_ NB137_138.out _; (with_reducible repeat (first | refine blk_drewN ?_ _ | refine blk_drew ?_ | refine blk_alloc ?_ _)); refine blk_far ?_ NB137_138.out _; (with_reducible repeat (first | refine blk_drewN ?_ _ | refine blk_drew ?_ | refine blk_alloc ?_ _)); apply put14; (with_reducible repeat (first | refine blk_drewN ?_ _ | refine blk_drew ?_ | refine blk_alloc ?_ _)); exact BK137.out) hb); have n1_ := Aside0.mk (blk_below (g := gb138) (o := .cells #[.int .i64 ((rd_T46 l1 x15_1).f0), .int .i64 ((rd_T46 l1 x15_1).f1), .string ((rd_T46 l1 x15_1).f2), .int .i64 ((rd_T46 l1 x15_1).f3), .slice A136_4 ((rd_T46 l1 x15_1).f4).length c136_4, .slice A136_5 ((rd_T46 l1 x15_1).f5).length c136_5, .slice A136_6 ((rd_T46 l1 x15_1).f6).length c136_6, .slice A136_7 ((rd_T46 l1 x15_1).f7).length c136_7, .slice A136_8 ((rd_T46 l1 x15_1).f8).length c136_8, .slice A136_9 ((rd_T46 l1 x15_1).f9).length c136_9, .slice A136_10 ((rd_T46 l1 x15_1).f10).length c136_10, .int .u8 ((rd_T46 l1 x15_1).f11), .int .i64 ((rd_T46 l1 x15_1).f12), .int .i64 ((rd_T46 l1 x15_1).f13)] 46 (0, 0)) (by (with_reducible repeat (first | refine blk_drewN ?_ _ | refine blk_drew ?_ | refine blk_alloc ?_ _)); apply put14; (with_reducible repeat (first | refine blk_drewN ?_ _ | refine blk_drew ?_ | refine blk_alloc ?_ _)); refine blk_far ?_ NB138_137.out _; (with_reducible repeat (first | refine blk_drewN ?_ _ | refine blk_drew ?_ | refine blk_alloc ?_ _)); refine blk_far ?_ NB138_137.out _; (with_reducible repeat (first | refine blk_drewN ?_ _ | refine blk_drew ?_ | refine blk_alloc ?_ _)); refine blk_far ?_ NB138_137.out _; (with_reducible repeat (first | refine blk_drewN ?_ _ | refine blk_drew ?_ | refine blk_alloc ?_ _)); refine blk_far ?_ NB138_137.out _; (with_reducible repeat (first | refine blk_drewN ?_ _ | refine blk_drew ?_ | refine blk_alloc ?_ _)); refine blk_far ?_ NB138_137.out _; (with_reducible repeat (first | refine blk_drewN ?_ _ | refine blk_drew ?_ | refine blk_alloc ?_ _)); refine blk_far ?_ NB138_137.out _; (with_reducible repeat (first | refine blk_drewN ?_ _ | refine blk_drew ?_ | refine blk_alloc ?_ _)); refine blk_far ?_ NB138_137.out _; (with_reducible repeat (first | refine blk_drewN ?_ _ | refine blk_drew ?_ | refine blk_alloc ?_ _)); refine blk_far ?_ NB138_137.out _; (with_reducible repeat (first | refine blk_drewN ?_ _ | refine blk_drew ?_ | refine blk_alloc ?_ _)); refine blk_far ?_ NB138_137.out _; (with_reducible repeat (first | refine blk_drewN ?_ _ | refine blk_drew ?_ | refine blk_alloc ?_ _)); refine blk_far ?_ NB138_137.out _; (with_reducible repeat (first | refine blk_drewN ?_ _ | refine blk_drew ?_ | refine blk_alloc ?_ _)); refine blk_far ?_ NB138_137.out _; (with_reducible repeat (first | refine blk_drewN ?_ _ | refine blk_drew ?_ | refine blk_alloc ?_ _)); refine blk_far ?_ NB138_137.out _; (with_reducible repeat (first | refine blk_drewN ?_ _ | refine blk_drew ?_ | refine blk_alloc ?_ _)); refine blk_far ?_ NB138_137.out _; (with_reducible repeat (first | refine blk_drewN ?_ _ | refine blk_drew ?_ | refine blk_alloc ?_ _)); refine blk_far ?_ NB138_137.out _; (with_reducible repeat (first | refine blk_drewN ?_ _ | refine blk_drew ?_ | refine blk_alloc ?_ _)); exact BK138.out) hb); have n2_ := Aside0.mk (below_step (by repeat (first | (with_reducible first | exact HB.out | apply below_alloc | apply pw_below_drewN | apply below_drew1 | refine below_set ?_ GE137.out | refine below_set ?_ GE138.out) | exact HB.out)) hb); clear BK137; clear BK138; clear HB; have BK137 := n0_; have BK138 := n1_; have HB := n2_; clear n0_ n1_ n2_; (try clear hb); (try clear hb2); (try clear hk); (try clear hi); have hcz51_0 : w50.cell? ⟨gb137, 0, none⟩ = some (.int .i64 ((rd_T46 l0 x15_1).f0)) := (blk_cell BK137.out 0).trans rfl; have hcz51_1 : w50.cell? ⟨gb137, 1, none⟩ = some (.int .i64 ((rd_T46 l0 x15_1).f1)) := (blk_cell BK137.out 1).trans rfl; have hcz51_2 : w50.cell? ⟨gb137, 2, none⟩ = some (.string ((rd_T46 l0 x15_1).f2)) := (blk_cell BK137.out 2).trans rfl; have hcz51_3 : w50.cell? ⟨gb137, 3, none⟩ = some (.int .i64 ((rd_T46 l0 x15_1).f3)) := (blk_cell BK137.out 3).trans rfl; have hcz51_4 : w50.cell? ⟨gb137, 4, none⟩ = some (.slice A135_4 ((rd_T46 l0 x15_1).f4).length c135_4) := (blk_cell BK137.out 4).trans rfl; have hcz51_5 : w50.cell? ⟨gb137, 5, none⟩ = some (.slice A135_5 ((rd_T46 l0 x15_1).f5).length c135_5) := (blk_cell BK137.out 5).trans rfl; have hcz51_6 : w50.cell? ⟨gb137, 6, none⟩ = some (.slice A135_6 ((rd_T46 l0 x15_1).f6).length c135_6) := (blk_cell BK137.out 6).trans rfl; have hcz51_7 : w50.cell? ⟨gb137, 7, none⟩ = some (.slice A135_7 ((rd_T46 l0 x15_1).f7).length c135_7) := (blk_cell BK137.out 7).trans rfl; have hcz51_8 : w50.cell? ⟨gb137, 8, none⟩ = some (.slice A135_8 ((rd_T46 l0 x15_1).f8).length c135_8) := (blk_cell BK137.out 8).trans rfl; have hcz51_9 : w50.cell? ⟨gb137, 9, none⟩ = some (.slice A135_9 ((rd_T46 l0 x15_1).f9).length c135_9) := (blk_cell BK137.out 9).trans rfl; have hcz51_10 : w50.cell? ⟨gb137, 10, none⟩ = some (.slice A135_10 ((rd_T46 l0 x15_1).f10).length c135_10) := (blk_cell BK137.out 10).trans rfl; have hcz51_11 : w50.cell? ⟨gb137, 11, none⟩ = some (.int .u8 ((rd_T46 l0 x15_1).f11)) := (blk_cell BK137.out 11).trans rfl; have hcz51_12 : w50.cell? ⟨gb137, 12, none⟩ = some (.int .i64 ((rd_T46 l0 x15_1).f12)) := (blk_cell BK137.out 12).trans rfl; have hcz51_13 : w50.cell? ⟨gb137, 13, none⟩ = some (.int .i64 ((rd_T46 l0 x15_1).f13)) := (blk_cell BK137.out 13).trans rfl; have hfz51_0 := blk_frozen BK137.out 0; have hfz51_1 := blk_frozen BK137.out 1; have hfz51_2 := blk_frozen BK137.out 2; have hfz51_3 := blk_frozen BK137.out 3; have hfz51_4 := blk_frozen BK137.out 4; have hfz51_5 := blk_frozen BK137.out 5; have hfz51_6 := blk_frozen BK137.out 6; have hfz51_7 := blk_frozen BK137.out 7; have hfz51_8 := blk_frozen BK137.out 8; have hfz51_9 := blk_frozen BK137.out 9; have hfz51_10 := blk_frozen BK137.out 10; have hfz51_11 := blk_frozen BK137.out 11; have hfz51_12 := blk_frozen BK137.out 12; have hfz51_13 := blk_frozen BK137.out 13; have hcz52_0 : w50.cell? ⟨gb138, 0, none⟩ = some (.int .i64 ((rd_T46 l1 x15_1).f0)) := (blk_cell BK138.out 0).trans rfl; have hcz52_1 : w50.cell? ⟨gb138, 1, none⟩ = some (.int .i64 ((rd_T46 l1 x15_1).f1)) := (blk_cell BK138.out 1).trans rfl; have hcz52_2 : w50.cell? ⟨gb138, 2, none⟩ = some (.string ((rd_T46 l1 x15_1).f2)) := (blk_cell BK138.out 2).trans rfl; have hcz52_3 : w50.cell? ⟨gb138, 3, none⟩ = some (.int .i64 ((rd_T46 l1 x15_1).f3)) := (blk_cell BK138.out 3).trans rfl; have hcz52_4 : w50.cell? ⟨gb138, 4, none⟩ = some (.slice A136_4 ((rd_T46 l1 x15_1).f4).length c136_4) := (blk_cell BK138.out 4).trans rfl; have hcz52_5 : w50.cell? ⟨gb138, 5, none⟩ = some (.slice A136_5 ((rd_T46 l1 x15_1).f5).length c136_5) := (blk_cell BK138.out 5).trans rfl; have hcz52_6 : w50.cell? ⟨gb138, 6, none⟩ = some (.slice A136_6 ((rd_T46 l1 x15_1).f6).length c136_6) := (blk_cell BK138.out 6).trans rfl; have hcz52_7 : w50.cell? ⟨gb138, 7, none⟩ = some (.slice A136_7 ((rd_T46 l1 x15_1).f7).length c136_7) := (blk_cell BK138.out 7).trans rfl; have hcz52_8 : w50.cell? ⟨gb138, 8, none⟩ = some (.slice A136_8 ((rd_T46 l1 x15_1).f8).length c136_8) := (blk_cell BK138.out 8).trans rfl; have hcz52_9 : w50.cell? ⟨gb138, 9, none⟩ = some (.slice A136_9 ((rd_T46 l1 x15_1).f9).length c136_9) := (blk_cell BK138.out 9).trans rfl; have hcz52_10 : w50.cell? ⟨gb138, 10, none⟩ = some (.slice A136_10 ((rd_T46 l1 x15_1).f10).length c136_10) := (blk_cell BK138.out 10).trans rfl; have hcz52_11 : w50.cell? ⟨gb138, 11, none⟩ = some (.int .u8 ((rd_T46 l1 x15_1).f11)) := (blk_cell BK138.out 11).trans rfl; have hcz52_12 : w50.cell? ⟨gb138, 12, none⟩ = some (.int .i64 ((rd_T46 l1 x15_1).f12)) := (blk_cell BK138.out 12).trans rfl; have hcz52_13 : w50.cell? ⟨gb138, 13, none⟩ = some (.int .i64 ((rd_T46 l1 x15_1).f13)) := (blk_cell BK138.out 13).trans rfl; have hfz52_0 := blk_frozen BK138.out 0; have hfz52_1 := blk_frozen BK138.out 1; have hfz52_2 := blk_frozen BK138.out 2; have hfz52_3 := blk_frozen BK138.out 3; have hfz52_4 := blk_frozen BK138.out 4; have hfz52_5 := blk_frozen BK138.out 5; have hfz52_6 := blk_frozen BK138.out 6; have hfz52_7 := blk_frozen BK138.out 7; have hfz52_8 := blk_frozen BK138.out 8; have hfz52_9 := blk_frozen BK138.out 9; have hfz52_10 := blk_frozen BK138.out 10; have hfz52_11 := blk_frozen BK138.out 11; have hfz52_12 := blk_frozen BK138.out 12; have hfz52_13 := blk_frozen BK138.out 13) | (go_at_call 29; (with_reducible refine (relayref05_sameTexts.calls k1 _ _ ((rd_T46 l0 x15_1).f5) _ _ ((rd_T46 l1 x15_1).f5) t140 _ ?side1 ?side2 ?side3 ?side4 A46.out).mono ?_); (case side1 => repeat (first | exact (Kd.C_below HR135_5.out HB.out) | (with_reducible refine Kd.C_alloc ?_ _) | (with_reducible refine Kd.C_drewN ?_ _) | (with_reducible refine Kd.C_drew ?_))); (case side2 => exact HC135_5.out); (case side3 => repeat (first | exact (Kd.C_below HR136_5.out HB.out) | (with_reducible refine Kd.C_alloc ?_ _) | (with_reducible refine Kd.C_drewN ?_ _) | (with_reducible refine Kd.C_drew ?_))); (case side4 => exact HC136_5.out); rintro e w' ⟨rfl, ⟨nd, rfl⟩⟩) | (go_at_call 28; (with_reducible refine (relayref05_sameExprs.calls k1 _ _ ((rd_T46 l0 x15_1).f4) _ _ ((rd_T46 l1 x15_1).f4) _ _ ?side1 ?side2 ?side3 ?side4 A58.out).mono ?_); (case side1 => exact Kd.C_below HR135_4.out (by repeat (first | (with_reducible first | exact HB.out | apply below_alloc | apply pw_below_drewN | apply below_drew1 | refine below_set ?_ GE137.out | refine below_set ?_ GE138.out) | exact HB.out))); (case side2 => exact HC135_4.out); (case side3 => exact Kd.C_below HR136_4.out (by repeat (first | (with_reducible first | exact HB.out | apply below_alloc | apply pw_below_drewN | apply below_drew1 | refine below_set ?_ GE137.out | refine below_set ?_ GE138.out) | exact HB.out))); (case side4 => exact HC136_4.out); rintro e w64 ⟨rfl, hb⟩; have n0_ := Aside0.mk (blk_below (g := gb137) (o := .cells #[.int .i64 ((rd_T46 l0 x15_1).f0), .int .i64 ((rd_T46 l0 x15_1).f1), .string ((rd_T46 l0 x15_1).f2), .int .i64 ((rd_T46 l0 x15_1).f3), .slice A135_4 ((rd_T46 l0 x15_1).f4).length c135_4, .slice A135_5 ((rd_T46 l0 x15_1).f5).length c135_5, .slice A135_6 ((rd_T46 l0 x15_1).f6).length c135_6, .slice A135_7 ((rd_T46 l0 x15_1).f7).length c135_7, .slice A135_8 ((rd_T46 l0 x15_1).f8).length c135_8, .slice A135_9 ((rd_T46 l0 x15_1).f9).length c135_9, .slice A135_10 ((rd_T46 l0 x15_1).f10).length c135_10, .int .u8 ((rd_T46 l0 x15_1).f11), .int .i64 ((rd_T46 l0 x15_1).f12), .int .i64 ((rd_T46 l0 x15_1).f13)] 46 (0, 0)) (by (with_reducible repeat (first | refine blk_drewN ?_ _ | refine blk_drew ?_ | refine blk_alloc ?_ _)); refine blk_far ?_ NB137_138.out _; (with_reducible repeat (first | refine blk_drewN ?_ _ | refine blk_drew ?_ | refine blk_alloc ?_ _)); refine blk_far ?_ NB137_138.out _; (with_reducible repeat (first | refine blk_drewN ?_ _ | refine blk_drew ?_ | refine blk_alloc ?_ _)); refine blk_far ?_ NB137_138.out _; (with_reducible repeat (first | refine blk_drewN ?_ _ | refine blk_drew ?_ | refine blk_alloc ?_ _)); refine blk_far ?_ NB137_138.out _; (with_reducible repeat (first | refine blk_drewN ?_ _ | refine blk_drew ?_ | refine blk_alloc ?_ _)); refine blk_far ?_ NB137_138.out _; (with_reducible repeat (first | refine blk_drewN ?_ _ | refine blk_drew ?_ | refine blk_alloc ?_ _)); refine blk_far ?_ NB137_138.out _; (with_reducible repeat (first | refine blk_drewN ?_ _ | refine blk_drew ?_ | refine blk_alloc ?_ _)); refine blk_far ?_ NB137_138.out _; (with_reducible repeat (first | refine blk_drewN ?_ _ | refine blk_drew ?_ | refine blk_alloc ?_ _)); refine blk_far ?_ NB137_138.out _; (with_reducible repeat (first | refine blk_drewN ?_ _ | refine blk_drew ?_ | refine blk_alloc ?_ _)); refine blk_far ?_ NB137_138.out _; (with_reducible repeat (first | refine blk_drewN ?_ _ | refine blk_drew ?_ | refine blk_alloc ?_ _)); refine blk_far ?_ NB137_138.out _; (with_reducible repeat (first | refine blk_drewN ?_ _ | refine blk_drew ?_ | refine blk_alloc ?_ _)); refine blk_far ?_ NB137_138.out _; (with_reducible repeat (first | refine blk_drewN ?_ _ | refine blk_drew ?_ | refine blk_alloc ?_ _)); refine blk_far ?_ NB137_138.out _; (with_reducible repeat (first | refine blk_drewN ?_ _ | refine blk_drew ?_ | refine blk_alloc ?_ _)); refine blk_far ?_ NB137_138.out _; (with_reducible repeat (first | refine blk_drewN ?_ _ | refine blk_drew ?_ | refine blk_alloc ?_ _)); refine blk_far ?_ NB137_138.out _; (with_reducible repeat (first | refine blk_drewN ?_ _ | refine blk_drew ?_ | refine blk_alloc ?_ _)); apply put14; (with_reducible repeat (first | refine blk_drewN ?_ _ | refine blk_drew ?_ | refine blk_alloc ?_ _)); exact BK137.out) hb); have n1_ := Aside0.mk (blk_below (g := gb138) (o := .cells #[.int .i64 ((rd_T46 l1 x15_1).f0), .int .i64 ((rd_T46 l1 x15_1).f1), .string ((rd_T46 l1 x15_1).f2), .int .i64 ((rd_T46 l1 x15_1).f3), .slice A136_4 ((rd_T46 l1 x15_1).f4).length c136_4, .slice A136_5 ((rd_T46 l1 x15_1).f5).length c136_5, .slice A136_6 ((rd_T46 l1 x15_1).f6).length c136_6, .slice A136_7 ((rd_T46 l1 x15_1).f7).length c136_7, .slice A136_8 ((rd_T46 l1 x15_1).f8).length c136_8, .slice A136_9 ((rd_T46 l1 x15_1).f9).length c136_9, .slice A136_10 ((rd_T46 l1 x15_1).f10).length c136_10, .int .u8 ((rd_T46 l1 x15_1).f11), .int .i64 ((rd_T46 l1 x15_1).f12), .int .i64 ((rd_T46 l1 x15_1).f13)] 46 (0, 0)) (by (with_reducible repeat (first | refine blk_drewN ?_ _ | refine blk_drew ?_ | refine blk_alloc ?_ _)); apply put14; (with_reducible repeat (first | refine blk_drewN ?_ _ | refine blk_drew ?_ | refine blk_alloc ?_ _)); refine blk_far ?_ NB138_137.out _; (with_reducible repeat (first | refine blk_drewN ?_ _ | refine blk_drew ?_ | refine blk_alloc ?_ _)); refine blk_far ?_ NB138_137.out _; (with_reducible repeat (first | refine blk_drewN ?_ _ | refine blk_drew ?_ | refine blk_alloc ?_ _)); refine blk_far ?_ NB138_137.out _; (with_reducible repeat (first | refine blk_drewN ?_ _ | refine blk_drew ?_ | refine blk_alloc ?_ _)); refine blk_far ?_ NB138_137.out _; (with_reducible repeat (first | refine blk_drewN ?_ _ | refine blk_drew ?_ | refine blk_alloc ?_ _)); refine blk_far ?_ NB138_137.out _; (with_reducible repeat (first | refine blk_drewN ?_ _ | refine blk_drew ?_ | refine blk_alloc ?_ _)); refine blk_far ?_ NB138_137.out _; (with_reducible repeat (first | refine blk_drewN ?_ _ | refine blk_drew ?_ | refine blk_alloc ?_ _)); refine blk_far ?_ NB138_137.out _; (with_reducible repeat (first | refine blk_drewN ?_ _ | refine blk_drew ?_ | refine blk_alloc ?_ _)); refine blk_far ?_ NB138_137.out _; (with_reducible repeat (first | refine blk_drewN ?_ _ | refine blk_drew ?_ | refine blk_alloc ?_ _)); refine blk_far ?_ NB138_137.out _; (with_reducible repeat (first | refine blk_drewN ?_ _ | refine blk_drew ?_ | refine blk_alloc ?_ _)); refine blk_far ?_ NB138_137.out _; (with_reducible repeat (first | refine blk_drewN ?_ _ | refine blk_drew ?_ | refine blk_alloc ?_ _)); refine blk_far ?_ NB138_137.out _; (with_reducible repeat (first | refine blk_drewN ?_ _ | refine blk_drew ?_ | refine blk_alloc ?_ _)); refine blk_far ?_ NB138_137.out _; (with_reducible repeat (first | refine blk_drewN ?_ _ | refine blk_drew ?_ | refine blk_alloc ?_ _)); refine blk_far ?_ NB138_137.out _; (with_reducible repeat (first | refine blk_drewN ?_ _ | refine blk_drew ?_ | refine blk_alloc ?_ _)); refine blk_far ?_ NB138_137.out _; (with_reducible repeat (first | refine blk_drewN ?_ _ | refine blk_drew ?_ | refine blk_alloc ?_ _)); exact BK138.out) hb); have n2_ := Aside0.mk (below_step (by repeat (first | (with_reducible first | exact HB.out | apply below_alloc | apply pw_below_drewN | apply below_drew1 | refine below_set ?_ GE137.out | refine below_set ?_ GE138.out) | exact HB.out)) hb); clear BK137; clear BK138; clear HB; have BK137 := n0_; have BK138 := n1_; have HB := n2_; clear n0_ n1_ n2_; (try clear hb); (try clear hb2); (try clear hk); (try clear hi); have hcz65_0 : w64.cell? ⟨gb137, 0, none⟩ = some (.int .i64 ((rd_T46 l0 x15_1).f0)) := (blk_cell BK137.out 0).trans rfl; have hcz65_1 : w64.cell? ⟨gb137, 1, none⟩ = some (.int .i64 ((rd_T46 l0 x15_1).f1)) := (blk_cell BK137.out 1).trans rfl; have hcz65_2 : w64.cell? ⟨gb137, 2, none⟩ = some (.string ((rd_T46 l0 x15_1).f2)) := (blk_cell BK137.out 2).trans rfl; have hcz65_3 : w64.cell? ⟨gb137, 3, none⟩ = some (.int .i64 ((rd_T46 l0 x15_1).f3)) := (blk_cell BK137.out 3).trans rfl; have hcz65_4 : w64.cell? ⟨gb137, 4, none⟩ = some (.slice A135_4 ((rd_T46 l0 x15_1).f4).length c135_4) := (blk_cell BK137.out 4).trans rfl; have hcz65_5 : w64.cell? ⟨gb137, 5, none⟩ = some (.slice A135_5 ((rd_T46 l0 x15_1).f5).length c135_5) := (blk_cell BK137.out 5).trans rfl; have hcz65_6 : w64.cell? ⟨gb137, 6, none⟩ = some (.slice A135_6 ((rd_T46 l0 x15_1).f6).length c135_6) := (blk_cell BK137.out 6).trans rfl; have hcz65_7 : w64.cell? ⟨gb137, 7, none⟩ = some (.slice A135_7 ((rd_T46 l0 x15_1).f7).length c135_7) := (blk_cell BK137.out 7).trans rfl; have hcz65_8 : w64.cell? ⟨gb137, 8, none⟩ = some (.slice A135_8 ((rd_T46 l0 x15_1).f8).length c135_8) := (blk_cell BK137.out 8).trans rfl; have hcz65_9 : w64.cell? ⟨gb137, 9, none⟩ = some (.slice A135_9 ((rd_T46 l0 x15_1).f9).length c135_9) := (blk_cell BK137.out 9).trans rfl; have hcz65_10 : w64.cell? ⟨gb137, 10, none⟩ = some (.slice A135_10 ((rd_T46 l0 x15_1).f10).length c135_10) := (blk_cell BK137.out 10).trans rfl; have hcz65_11 : w64.cell? ⟨gb137, 11, none⟩ = some (.int .u8 ((rd_T46 l0 x15_1).f11)) := (blk_cell BK137.out 11).trans rfl; have hcz65_12 : w64.cell? ⟨gb137, 12, none⟩ = some (.int .i64 ((rd_T46 l0 x15_1).f12)) := (blk_cell BK137.out 12).trans rfl; have hcz65_13 : w64.cell? ⟨gb137, 13, none⟩ = some (.int .i64 ((rd_T46 l0 x15_1).f13)) := (blk_cell BK137.out 13).trans rfl; have hfz65_0 := blk_frozen BK137.out 0; have hfz65_1 := blk_frozen BK137.out 1; have hfz65_2 := blk_frozen BK137.out 2; have hfz65_3 := blk_frozen BK137.out 3; have hfz65_4 := blk_frozen BK137.out 4; have hfz65_5 := blk_frozen BK137.out 5; have hfz65_6 := blk_frozen BK137.out 6; have hfz65_7 := blk_frozen BK137.out 7; have hfz65_8 := blk_frozen BK137.out 8; have hfz65_9 := blk_frozen BK137.out 9; have hfz65_10 := blk_frozen BK137.out 10; have hfz65_11 := blk_frozen BK137.out 11; have hfz65_12 := blk_frozen BK137.out 12; have hfz65_13 := blk_frozen BK137.out 13; have hcz66_0 : w64.cell? ⟨gb138, 0, none⟩ = some (.int .i64 ((rd_T46 l1 x15_1).f0)) := (blk_cell BK138.out 0).trans rfl; have hcz66_1 : w64.cell? ⟨gb138, 1, none⟩ = some (.int .i64 ((rd_T46 l1 x15_1).f1)) := (blk_cell BK138.out 1).trans rfl; have hcz66_2 : w64.cell? ⟨gb138, 2, none⟩ = some (.string ((rd_T46 l1 x15_1).f2)) := (blk_cell BK138.out 2).trans rfl; have hcz66_3 : w64.cell? ⟨gb138, 3, none⟩ = some (.int .i64 ((rd_T46 l1 x15_1).f3)) := (blk_cell BK138.out 3).trans rfl; have hcz66_4 : w64.cell? ⟨gb138, 4, none⟩ = some (.slice A136_4 ((rd_T46 l1 x15_1).f4).length c136_4) := (blk_cell BK138.out 4).trans rfl; have hcz66_5 : w64.cell? ⟨gb138, 5, none⟩ = some (.slice A136_5 ((rd_T46 l1 x15_1).f5).length c136_5) := (blk_cell BK138.out 5).trans rfl; have hcz66_6 : w64.cell? ⟨gb138, 6, none⟩ = some (.slice A136_6 ((rd_T46 l1 x15_1).f6).length c136_6) := (blk_cell BK138.out 6).trans rfl; have hcz66_7 : w64.cell? ⟨gb138, 7, none⟩ = some (.slice A136_7 ((rd_T46 l1 x15_1).f7).length c136_7) := (blk_cell BK138.out 7).trans rfl; have hcz66_8 : w64.cell? ⟨gb138, 8, none⟩ = some (.slice A136_8 ((rd_T46 l1 x15_1).f8).length c136_8) := (blk_cell BK138.out 8).trans rfl; have hcz66_9 : w64.cell? ⟨gb138, 9, none⟩ = some (.slice A136_9 ((rd_T46 l1 x15_1).f9).length c136_9) := (blk_cell BK138.out 9).trans rfl; have hcz66_10 : w64.cell? ⟨gb138, 10, none⟩ = some (.slice A136_10 ((rd_T46 l1 x15_1).f10).length c136_10) := (blk_cell BK138.out 10).trans rfl; have hcz66_11 : w64.cell? ⟨gb138, 11, none⟩ = some (.int .u8 ((rd_T46 l1 x15_1).f11)) := (blk_cell BK138.out 11).trans rfl; have hcz66_12 : w64.cell? ⟨gb138, 12, none⟩ = some (.int .i64 ((rd_T46 l1 x15_1).f12)) := (blk_cell BK138.out 12).trans rfl; have hcz66_13 : w64.cell? ⟨gb138, 13, none⟩ = some (.int .i64 ((rd_T46 l1 x15_1).f13)) := (blk_cell BK138.out 13).trans rfl; have hfz66_0 := blk_frozen BK138.out 0; have hfz66_1 := blk_frozen BK138.out 1; have hfz66_2 := blk_frozen BK138.out 2; have hfz66_3 := blk_frozen BK138.out 3; have hfz66_4 := blk_frozen BK138.out 4; have hfz66_5 := blk_frozen BK138.out 5; have hfz66_6 := blk_frozen BK138.out 6; have hfz66_7 := blk_frozen BK138.out 7; have hfz66_8 := blk_frozen BK138.out 8; have hfz66_9 := blk_frozen BK138.out 9; have hfz66_10 := blk_frozen BK138.out 10; have hfz66_11 := blk_frozen BK138.out 11; have hfz66_12 := blk_frozen BK138.out 12; have hfz66_13 := blk_frozen BK138.out 13) | (go_at_call 29; (with_reducible refine (relayref05_sameTexts.calls k1 _ _ ((rd_T46 l0 x15_1).f5) _ _ ((rd_T46 l1 x15_1).f5) t142 _ ?side1 ?side2 ?side3 ?side4 A60.out).mono ?_); (case side1 => repeat (first | exact (Kd.C_below HR135_5.out HB.out) | (with_reducible refine Kd.C_alloc ?_ _) | (with_reducible refine Kd.C_drewN ?_ _) | (with_reducible refine Kd.C_drew ?_))); (case side2 => exact HC135_5.out); (case side3 => repeat (first | exact (Kd.C_below HR136_5.out HB.out) | (with_reducible refine Kd.C_alloc ?_ _) | (with_reducible refine Kd.C_drewN ?_ _) | (with_reducible refine Kd.C_drew ?_))); (case side4 => exact HC136_5.out); rintro e w' ⟨rfl, ⟨nd, rfl⟩⟩) | (go_at_call 28; (with_reducible refine (relayref05_sameExprs.calls k1 _ _ ((rd_T46 l0 x15_1).f4) _ _ ((rd_T46 l1 x15_1).f4) _ _ ?side1 ?side2 ?side3 ?side4 A44.out).mono ?_); (case side1 => exact Kd.C_below HR135_4.out (by repeat (first | (with_reducible first | exact HB.out | apply below_alloc | apply pw_below_drewN | apply below_drew1 | refine below_set ?_ GE137.out | refine below_set ?_ GE138.out) | exact HB.out))); (case side2 => exact HC135_4.out); (case side3 => exact Kd.C_below HR136_4.out (by repeat (first | (with_reducible first | exact HB.out | apply below_alloc | apply pw_below_drewN | apply below_drew1 | refine below_set ?_ GE137.out | refine below_set ?_ GE138.out) | exact HB.out))); (case side4 => exact HC136_4.out); rintro e w56 ⟨rfl, hb⟩; have n0_ := Aside0.mk (blk_below (g := gb137) (o := .cells #[.int .i64 ((rd_T46 l0 x15_1).f0), .int .i64 ((rd_T46 l0 x15_1).f1), .string ((rd_T46 l0 x15_1).f2), .int .i64 ((rd_T46 l0 x15_1).f3), .slice A135_4 ((rd_T46 l0 x15_1).f4).length c135_4, .slice A135_5 ((rd_T46 l0 x15_1).f5).length c135_5, .slice A135_6 ((rd_T46 l0 x15_1).f6).length c135_6, .slice A135_7 ((rd_T46 l0 x15_1).f7).length c135_7, .slice A135_8 ((rd_T46 l0 x15_1).f8).length c135_8, .slice A135_9 ((rd_T46 l0 x15_1).f9).length c135_9, .slice A135_10 ((rd_T46 l0 x15_1).f10).length c135_10, .int .u8 ((rd_T46 l0 x15_1).f11), .int .i64 ((rd_T46 l0 x15_1).f12), .int .i64 ((rd_T46 l0 x15_1).f13)] 46 (0, 0)) (by (with_reducible repeat (first | refine blk_drewN ?_ _ | refine blk_drew ?_ | refine blk_alloc ?_ _)); refine blk_far ?_ NB137_138.out _; (with_reducible repeat (first | refine blk_drewN ?_ _ | refine blk_drew ?_ | refine blk_alloc ?_ _)); refine blk_far ?_ NB137_138.out _; (with_reducible repeat (first | refine blk_drewN ?_ _ | refine blk_drew ?_ | refine blk_alloc ?_ _)); refine blk_far ?_ NB137_138.out _; (with_reducible repeat (first | refine blk_drewN ?_ _ | refine blk_drew ?_ | refine blk_alloc ?_ _)); refine blk_far ?_ NB137_138.out _; (with_reducible repeat (first | refine blk_drewN ?_ _ | refine blk_drew ?_ | refine blk_alloc ?_ _)); refine blk_far ?_ NB137_138.out _; (with_reducible repeat (first | refine blk_drewN ?_ _ | refine blk_drew ?_ | refine blk_alloc ?_ _)); refine blk_far ?_ NB137_138.out _; (with_reducible repeat (first | refine blk_drewN ?_ _ | refine blk_drew ?_ | refine blk_alloc ?_ _)); refine blk_far ?_ NB137_138.out _; (with_reducible repeat (first | refine blk_drewN ?_ _ | refine blk_drew ?_ | refine blk_alloc ?_ _)); refine blk_far ?_ NB137_138.out _; (with_reducible repeat (first | refine blk_drewN ?_ _ | refine blk_drew ?_ | refine blk_alloc ?_ _)); refine blk_far ?_ NB137_138.out _; (with_reducible repeat (first | refine blk_drewN ?_ _ | refine blk_drew ?_ | refine blk_alloc ?_ _)); refine blk_far ?_ NB137_138.out _; (with_reducible repeat (first | refine blk_drewN ?_ _ | refine blk_drew ?_ | refine blk_alloc ?_ _)); refine blk_far ?_ NB137_138.out _; (with_reducible repeat (first | refine blk_drewN ?_ _ | refine blk_drew ?_ | refine blk_alloc ?_ _)); refine blk_far ?_ NB137_138.out _; (with_reducible repeat (first | refine blk_drewN ?_ _ | refine blk_drew ?_ | refine blk_alloc ?_ _)); refine blk_far ?_ NB137_138.out _; (with_reducible repeat (first | refine blk_drewN ?_ _ | refine blk_drew ?_ | refine blk_alloc ?_ _)); refine blk_far ?_ NB137_138.out _; (with_reducible repeat (first | refine blk_drewN ?_ _ | refine blk_drew ?_ | refine blk_alloc ?_ _)); apply put14; (with_reducible repeat (first | refine blk_drewN ?_ _ | refine blk_drew ?_ | refine blk_alloc ?_ _)); exact BK137.out) hb); have n1_ := Aside0.mk (blk_below (g := gb138) (o := .cells #[.int .i64 ((rd_T46 l1 x15_1).f0), .int .i64 ((rd_T46 l1 x15_1).f1), .string ((rd_T46 l1 x15_1).f2), .int .i64 ((rd_T46 l1 x15_1).f3), .slice A136_4 ((rd_T46 l1 x15_1).f4).length c136_4, .slice A136_5 ((rd_T46 l1 x15_1).f5).length c136_5, .slice A136_6 ((rd_T46 l1 x15_1).f6).length c136_6, .slice A136_7 ((rd_T46 l1 x15_1).f7).length c136_7, .slice A136_8 ((rd_T46 l1 x15_1).f8).length c136_8, .slice A136_9 ((rd_T46 l1 x15_1).f9).length c136_9, .slice A136_10 ((rd_T46 l1 x15_1).f10).length c136_10, .int .u8 ((rd_T46 l1 x15_1).f11), .int .i64 ((rd_T46 l1 x15_1).f12), .int .i64 ((rd_T46 l1 x15_1).f13)] 46 (0, 0)) (by (with_reducible repeat (first | refine blk_drewN ?_ _ | refine blk_drew ?_ | refine blk_alloc ?_ _)); apply put14; (with_reducible repeat (first | refine blk_drewN ?_ _ | refine blk_drew ?_ | refine blk_alloc ?_ _)); refine blk_far ?_ NB138_137.out _; (with_reducible repeat (first | refine blk_drewN ?_ _ | refine blk_drew ?_ | refine blk_alloc ?_ _)); refine blk_far ?_ NB138_137.out _; (with_reducible repeat (first | refine blk_drewN ?_ _ | refine blk_drew ?_ | refine blk_alloc ?_ _)); refine blk_far ?_ NB138_137.out _; (with_reducible repeat (first | refine blk_drewN ?_ _ | refine blk_drew ?_ | refine blk_alloc ?_ _)); refine blk_far ?_ NB138_137.out _; (with_reducible repeat (first | refine blk_drewN ?_ _ | refine blk_drew ?_ | refine blk_alloc ?_ _)); refine blk_far ?_ NB138_137.out _; (with_reducible repeat (first | refine blk_drewN ?_ _ | refine blk_drew ?_ | refine blk_alloc ?_ _)); refine blk_far ?_ NB138_137.out _; (with_reducible repeat (first | refine blk_drewN ?_ _ | refine blk_drew ?_ | refine blk_alloc ?_ _)); refine blk_far ?_ NB138_137.out _; (with_reducible repeat (first | refine blk_drewN ?_ _ | refine blk_drew ?_ | refine blk_alloc ?_ _)); refine blk_far ?_ NB138_137.out _; (with_reducible repeat (first | refine blk_drewN ?_ _ | refine blk_drew ?_ | refine blk_alloc ?_ _)); refine blk_far ?_ NB138_137.out _; (with_reducible repeat (first | refine blk_drewN ?_ _ | refine blk_drew ?_ | refine blk_alloc ?_ _)); refine blk_far ?_ NB138_137.out _; (with_reducible repeat (first | refine blk_drewN ?_ _ | refine blk_drew ?_ | refine blk_alloc ?_ _)); refine blk_far ?_ NB138_137.out _; (with_reducible repeat (first | refine blk_drewN ?_ _ | refine blk_drew ?_ | refine blk_alloc ?_ _)); refine blk_far ?_ NB138_137.out _; (with_reducible repeat (first | refine blk_drewN ?_ _ | refine blk_drew ?_ | refine blk_alloc ?_ _)); refine blk_far ?_ NB138_137.out _; (with_reducible repeat (first | refine blk_drewN ?_ _ | refine blk_drew ?_ | refine blk_alloc ?_ _)); refine blk_far ?_ NB138_137.out _; (with_reducible repeat (first | refine blk_drewN ?_ _ | refine blk_drew ?_ | refine blk_alloc ?_ _)); exact BK138.out) hb); have n2_ := Aside0.mk (below_step (by repeat (first | (with_reducible first | exact HB.out | apply below_alloc | apply pw_below_drewN | apply below_drew1 | refine below_set ?_ GE137.out | refine below_set ?_ GE138.out) | exact HB.out)) hb); clear BK137; clear BK138; clear HB; have BK137 := n0_; have BK138 := n1_; have HB := n2_; clear n0_ n1_ n2_; (try clear hb); (try clear hb2); (try clear hk); (try clear hi)) | (go_at_call 28; (with_reducible refine (relayref05_sameExprs.calls k1 _ _ ((rd_T46 l0 x15_1).f4) _ _ ((rd_T46 l1 x15_1).f4) _ _ ?side1 ?side2 ?side3 ?side4 A58.out).mono ?_); (case side1 => exact Kd.C_below HR135_4.out (by repeat (first | (with_reducible first | exact HB.out | apply below_alloc | apply pw_below_drewN | apply below_drew1 | refine below_set ?_ GE137.out | refine below_set ?_ GE138.out) | exact HB.out))); (case side2 => exact HC135_4.out); (case side3 => exact Kd.C_below HR136_4.out (by repeat (first | (with_reducible first | exact HB.out | apply below_alloc | apply pw_below_drewN | apply below_drew1 | refine below_set ?_ GE137.out | refine below_set ?_ GE138.out) | exact HB.out))); (case side4 => exact HC136_4.out); rintro e w70 ⟨rfl, hb⟩; have n0_ := Aside0.mk (blk_below (g := gb137) (o := .cells #[.int .i64 ((rd_T46 l0 x15_1).f0), .int .i64 ((rd_T46 l0 x15_1).f1), .string ((rd_T46 l0 x15_1).f2), .int .i64 ((rd_T46 l0 x15_1).f3), .slice A135_4 ((rd_T46 l0 x15_1).f4).length c135_4, .slice A135_5 ((rd_T46 l0 x15_1).f5).length c135_5, .slice A135_6 ((rd_T46 l0 x15_1).f6).length c135_6, .slice A135_7 ((rd_T46 l0 x15_1).f7).length c135_7, .slice A135_8 ((rd_T46 l0 x15_1).f8).length c135_8, .slice A135_9 ((rd_T46 l0 x15_1).f9).length c135_9, .slice A135_10 ((rd_T46 l0 x15_1).f10).length c135_10, .int .u8 ((rd_T46 l0 x15_1).f11), .int .i64 ((rd_T46 l0 x15_1).f12), .int .i64 ((rd_T46 l0 x15_1).f13)] 46 (0, 0)) (by (with_reducible repeat (first | refine blk_drewN ?_ _ | refine blk_drew ?_ | refine blk_alloc ?_ _)); refine blk_far ?_ NB137_138.out _; (with_reducible repeat (first | refine blk_drewN ?_ _ | refine blk_drew ?_ | refine blk_alloc ?_ _)); refine blk_far ?_ NB137_138.out _; (with_reducible repeat (first | refine blk_drewN ?_ _ | refine blk_drew ?_ | refine blk_alloc ?_ _)); refine blk_far ?_ NB137_138.out _; (with_reducible repeat (first | refine blk_drewN ?_ _ | refine blk_drew ?_ | refine blk_alloc ?_ _)); refine blk_far ?_ NB137_138.out _; (with_reducible repeat (first | refine blk_drewN ?_ _ | refine blk_drew ?_ | refine blk_alloc ?_ _)); refine blk_far ?_ NB137_138.out _; (with_reducible repeat (first | refine blk_drewN ?_ _ | refine blk_drew ?_ | refine blk_alloc ?_ _)); refine blk_far ?_ NB137_138.out _; (with_reducible repeat (first | refine blk_drewN ?_ _ | refine blk_drew ?_ | refine blk_alloc ?_ _)); refine blk_far ?_ NB137_138.out _; (with_reducible repeat (first | refine blk_drewN ?_ _ | refine blk_drew ?_ | refine blk_alloc ?_ _)); refine blk_far ?_ NB137_138.out _; (with_reducible repeat (first | refine blk_drewN ?_ _ | refine blk_drew ?_ | refine blk_alloc ?_ _)); refine blk_far ?_ NB137_138.out _; (with_reducible repeat (first | refine blk_drewN ?_ _ | refine blk_drew ?_ | refine blk_alloc ?_ _)); refine blk_far ?_ NB137_138.out _; (with_reducible repeat (first | refine blk_drewN ?_ _ | refine blk_drew ?_ | refine blk_alloc ?_ _)); refine blk_far ?_ NB137_138.out _; (with_reducible repeat (first | refine blk_drewN ?_ _ | refine blk_drew ?_ | refine blk_alloc ?_ _)); refine blk_far ?_ NB137_138.out _; (with_reducible repeat (first | refine blk_drewN ?_ _ | refine blk_drew ?_ | refine blk_alloc ?_ _)); refine blk_far ?_ NB137_138.out _; (with_reducible repeat (first | refine blk_drewN ?_ _ | refine blk_drew ?_ | refine blk_alloc ?_ _)); refine blk_far ?_ NB137_138.out _; (with_reducible repeat (first | refine blk_drewN ?_ _ | refine blk_drew ?_ | refine blk_alloc ?_ _)); apply put14; (with_reducible repeat (first | refine blk_drewN ?_ _ | refine blk_drew ?_ | refine blk_alloc ?_ _)); exact BK137.out) hb); have n1_ := Aside0.mk (blk_below (g := gb138) (o := .cells #[.int .i64 ((rd_T46 l1 x15_1).f0), .int .i64 ((rd_T46 l1 x15_1).f1), .string ((rd_T46 l1 x15_1).f2), .int .i64 ((rd_T46 l1 x15_1).f3), .slice A136_4 ((rd_T46 l1 x15_1).f4).length c136_4, .slice A136_5 ((rd_T46 l1 x15_1).f5).length c136_5, .slice A136_6 ((rd_T46 l1 x15_1).f6).length c136_6, .slice A136_7 ((rd_T46 l1 x15_1).f7).length c136_7, .slice A136_8 ((rd_T46 l1 x15_1).f8).length c136_8, .slice A136_9 ((rd_T46 l1 x15_1).f9).length c136_9, .slice A136_10 ((rd_T46 l1 x15_1).f10).length c136_10, .int .u8 ((rd_T46 l1 x15_1).f11), .int .i64 ((rd_T46 l1 x15_1).f12), .int .i64 ((rd_T46 l1 x15_1).f13)] 46 (0, 0)) (by (with_reducible repeat (first | refine blk_drewN ?_ _ | refine blk_drew ?_ | refine blk_alloc ?_ _)); apply put14; (with_reducible repeat (first | refine blk_drewN ?_ _ | refine blk_drew ?_ | refine blk_alloc ?_ _)); refine blk_far ?_ NB138_137.out _; (with_reducible repeat (first | refine blk_drewN ?_ _ | refine blk_drew ?_ | refine blk_alloc ?_ _)); refine blk_far ?_ NB138_137.out _; (with_reducible repeat (first | refine blk_drewN ?_ _ | refine blk_drew ?_ | refine blk_alloc ?_ _)); refine blk_far ?_ NB138_137.out _; (with_reducible repeat (first | refine blk_drewN ?_ _ | refine blk_drew ?_ | refine blk_alloc ?_ _)); refine blk_far ?_ NB138_137.out _; (with_reducible repeat (first | refine blk_drewN ?_ _ | refine blk_drew ?_ | refine blk_alloc ?_ _)); refine blk_far ?_ NB138_137.out _; (with_reducible repeat (first | refine blk_drewN ?_ _ | refine blk_drew ?_ | refine blk_alloc ?_ _)); refine blk_far ?_ NB138_137.out _; (with_reducible repeat (first | refine blk_drewN ?_ _ | refine blk_drew ?_ | refine blk_alloc ?_ _)); refine blk_far ?_ NB138_137.out _; (with_reducible repeat (first | refine blk_drewN ?_ _ | refine blk_drew ?_ | refine blk_alloc ?_ _)); refine blk_far ?_ NB138_137.out _; (with_reducible repeat (first | refine blk_drewN ?_ _ | refine blk_drew ?_ | refine blk_alloc ?_ _)); refine blk_far ?_ NB138_137.out _; (with_reducible repeat (first | refine blk_drewN ?_ _ | refine blk_drew ?_ | refine blk_alloc ?_ _)); refine blk_far ?_ NB138_137.out _; (with_reducible repeat (first | refine blk_drewN ?_ _ | refine blk_drew ?_ | refine blk_alloc ?_ _)); refine blk_far ?_ NB138_137.out _; (with_reducible repeat (first | refine blk_drewN ?_ _ | refine blk_drew ?_ | refine blk_alloc ?_ _)); refine blk_far ?_ NB138_137.out _; (with_reducible repeat (first | refine blk_drewN ?_ _ | refine blk_drew ?_ | refine blk_alloc ?_ _)); refine blk_far ?_ NB138_137.out _; (with_reducible repeat (first | refine blk_drewN ?_ _ | refine blk_drew ?_ | refine blk_alloc ?_ _)); refine blk_far ?_ NB138_137.out _; (with_reducible repeat (first | refine blk_drewN ?_ _ | refine blk_drew ?_ | refine blk_alloc ?_ _)); exact BK138.out) hb); have n2_ := Aside0.mk (below_step (by repeat (first | (with_reducible first | exact HB.out | apply below_alloc | apply pw_below_drewN | apply below_drew1 | refine below_set ?_ GE137.out | refine below_set ?_ GE138.out) | exact HB.out)) hb); clear BK137; clear BK138; clear HB; have BK137 := n0_; have BK138 := n1_; have HB := n2_; clear n0_ n1_ n2_; (try clear hb); (try clear hb2); (try clear hk); (try clear hi)))
                  all_goals first
                    | (go_meet
                       case rel => exact ⟨_, (!t140), (by first | rfl | (simp; done) | (simp [*]; done) | (simp [*, bne]; done)), H', ⟨by have := HK1.out; first | omega | exact Nat.le_refl _⟩, ⟨by (with_reducible repeat (first | refine blk_drewN ?_ _ | refine blk_drew ?_ | refine blk_alloc ?_ _)); exact BK137.out⟩, ⟨by (with_reducible repeat (first | refine blk_drewN ?_ _ | refine blk_drew ?_ | refine blk_alloc ?_ _)); exact BK138.out⟩, ⟨by repeat (first | (with_reducible first | exact HB.out | apply below_alloc | apply pw_below_drewN | apply below_drew1 | refine below_set ?_ GE137.out | refine below_set ?_ GE138.out) | exact HB.out)⟩⟩)
                    | (go_meet
                       case rel => exact ⟨_, (true), (by first | rfl | (simp; done) | (simp [*]; done) | (simp [*, bne]; done)), H', ⟨by have := HK1.out; first | omega | exact Nat.le_refl _⟩, ⟨by (with_reducible repeat (first | refine blk_drewN ?_ _ | refine blk_drew ?_ | refine blk_alloc ?_ _)); exact BK137.out⟩, ⟨by (with_reducible repeat (first | refine blk_drewN ?_ _ | refine blk_drew ?_ | refine blk_alloc ?_ _)); exact BK138.out⟩, ⟨by repeat (first | (with_reducible first | exact HB.out | apply below_alloc | apply pw_below_drewN | apply below_drew1 | refine below_set ?_ GE137.out | refine below_set ?_ GE138.out) | exact HB.out)⟩⟩)
                    | (go_meet
                       case rel => exact ⟨_, (!t142), (by first | rfl | (simp; done) | (simp [*]; done) | (simp [*, bne]; done)), H', ⟨by have := HK1.out; first | omega | exact Nat.le_refl _⟩, ⟨by (with_reducible repeat (first | refine blk_drewN ?_ _ | refine blk_drew ?_ | refine blk_alloc ?_ _)); exact BK137.out⟩, ⟨by (with_reducible repeat (first | refine blk_drewN ?_ _ | refine blk_drew ?_ | refine blk_alloc ?_ _)); exact BK138.out⟩, ⟨by repeat (first | (with_reducible first | exact HB.out | apply below_alloc | apply pw_below_drewN | apply below_drew1 | refine below_set ?_ GE137.out | refine below_set ?_ GE138.out) | exact HB.out)⟩⟩)
                case rest =>
                  clear HC8
                  try clear c1
                  try clear p2
                  try clear c4
                  try clear c5
                  try clear c6
                  try clear c7
                  try clear c13
                  try clear c41
                  try clear c41b0
                  try clear c41b1
                  try clear c42
                  try clear c42b0
                  try clear c42b1
                  try clear c43
                  try clear c43b0
                  try clear c43b1
                  try clear c45
                  try clear c47
                  try clear c53
                  try clear c57
                  try clear c57b0
                  try clear c57b1
                  try clear c59
                  try clear c61
                  try clear c67
                  try clear c71
                  try clear c74
                  try clear c77
                  try clear hcz48_0
                  try clear hcz48_1
                  try clear hcz48_10
                  try clear hcz48_11
                  try clear hcz48_12
                  try clear hcz48_13
                  try clear hcz48_2
                  try clear hcz48_3
                  try clear hcz48_4
                  try clear hcz48_5
                  try clear hcz48_6
                  try clear hcz48_7
                  try clear hcz48_8
                  try clear hcz48_9
                  try clear hcz49_0
                  try clear hcz49_1
                  try clear hcz49_10
                  try clear hcz49_11
                  try clear hcz49_12
                  try clear hcz49_13
                  try clear hcz49_2
                  try clear hcz49_3
                  try clear hcz49_4
                  try clear hcz49_5
                  try clear hcz49_6
                  try clear hcz49_7
                  try clear hcz49_8
                  try clear hcz49_9
                  try clear hcz51_0
                  try clear hcz51_1
                  try clear hcz51_10
                  try clear hcz51_11
                  try clear hcz51_12
                  try clear hcz51_13
                  try clear hcz51_2
                  try clear hcz51_3
                  try clear hcz51_4
                  try clear hcz51_5
                  try clear hcz51_6
                  try clear hcz51_7
                  try clear hcz51_8
                  try clear hcz51_9
                  try clear hcz52_0
                  try clear hcz52_1
                  try clear hcz52_10
                  try clear hcz52_11
                  try clear hcz52_12
                  try clear hcz52_13
                  try clear hcz52_2
                  try clear hcz52_3
                  try clear hcz52_4
                  try clear hcz52_5
                  try clear hcz52_6
                  try clear hcz52_7
                  try clear hcz52_8
                  try clear hcz52_9
                  try clear hcz54_0
                  try clear hcz54_1
                  try clear hcz54_10
                  try clear hcz54_11
                  try clear hcz54_12
                  try clear hcz54_13
                  try clear hcz54_2
                  try clear hcz54_3
                  try clear hcz54_4
                  try clear hcz54_5
                  try clear hcz54_6
                  try clear hcz54_7
                  try clear hcz54_8
                  try clear hcz54_9
                  try clear hcz55_0
                  try clear hcz55_1
                  try clear hcz55_10
                  try clear hcz55_11
                  try clear hcz55_12
                  try clear hcz55_13
                  try clear hcz55_2
                  try clear hcz55_3
                  try clear hcz55_4
                  try clear hcz55_5
                  try clear hcz55_6
                  try clear hcz55_7
                  try clear hcz55_8
                  try clear hcz55_9
                  try clear hcz62_0
                  try clear hcz62_1
                  try clear hcz62_10
                  try clear hcz62_11
                  try clear hcz62_12
                  try clear hcz62_13
                  try clear hcz62_2
                  try clear hcz62_3
                  try clear hcz62_4
                  try clear hcz62_5
                  try clear hcz62_6
                  try clear hcz62_7
                  try clear hcz62_8
                  try clear hcz62_9
                  try clear hcz63_0
                  try clear hcz63_1
                  try clear hcz63_10
                  try clear hcz63_11
                  try clear hcz63_12
                  try clear hcz63_13
                  try clear hcz63_2
                  try clear hcz63_3
                  try clear hcz63_4
                  try clear hcz63_5
                  try clear hcz63_6
                  try clear hcz63_7
                  try clear hcz63_8
                  try clear hcz63_9
                  try clear hcz65_0
                  try clear hcz65_1
                  try clear hcz65_10
                  try clear hcz65_11
                  try clear hcz65_12
                  try clear hcz65_13
                  try clear hcz65_2
                  try clear hcz65_3
                  try clear hcz65_4
                  try clear hcz65_5
                  try clear hcz65_6
                  try clear hcz65_7
                  try clear hcz65_8
                  try clear hcz65_9
                  try clear hcz66_0
                  try clear hcz66_1
                  try clear hcz66_10
                  try clear hcz66_11
                  try clear hcz66_12
                  try clear hcz66_13
                  try clear hcz66_2
                  try clear hcz66_3
                  try clear hcz66_4
                  try clear hcz66_5
                  try clear hcz66_6
                  try clear hcz66_7
                  try clear hcz66_8
                  try clear hcz66_9
                  try clear hcz68_0
                  try clear hcz68_1
                  try clear hcz68_10
                  try clear hcz68_11
                  try clear hcz68_12
                  try clear hcz68_13
                  try clear hcz68_2
                  try clear hcz68_3
                  try clear hcz68_4
                  try clear hcz68_5
                  try clear hcz68_6
                  try clear hcz68_7
                  try clear hcz68_8
                  try clear hcz68_9
                  try clear hcz69_0
                  try clear hcz69_1
                  try clear hcz69_10
                  try clear hcz69_11
                  try clear hcz69_12
                  try clear hcz69_13
                  try clear hcz69_2
                  try clear hcz69_3
                  try clear hcz69_4
                  try clear hcz69_5
                  try clear hcz69_6
                  try clear hcz69_7
                  try clear hcz69_8
                  try clear hcz69_9
                  try clear hcz72_0
                  try clear hcz72_1
                  try clear hcz72_10
                  try clear hcz72_11
                  try clear hcz72_12
                  try clear hcz72_13
                  try clear hcz72_2
                  try clear hcz72_3
                  try clear hcz72_4
                  try clear hcz72_5
                  try clear hcz72_6
                  try clear hcz72_7
                  try clear hcz72_8
                  try clear hcz72_9
                  try clear hcz73_0
                  try clear hcz73_1
                  try clear hcz73_10
                  try clear hcz73_11
                  try clear hcz73_12
                  try clear hcz73_13
                  try clear hcz73_2
                  try clear hcz73_3
                  try clear hcz73_4
                  try clear hcz73_5
                  try clear hcz73_6
                  try clear hcz73_7
                  try clear hcz73_8
                  try clear hcz73_9
                  try clear hcz75_0
                  try clear hcz75_1
                  try clear hcz75_10
                  try clear hcz75_11
                  try clear hcz75_12
                  try clear hcz75_13
                  try clear hcz75_2
                  try clear hcz75_3
                  try clear hcz75_4
                  try clear hcz75_5
                  try clear hcz75_6
                  try clear hcz75_7
                  try clear hcz75_8
                  try clear hcz75_9
                  try clear hcz76_0
                  try clear hcz76_1
                  try clear hcz76_10
                  try clear hcz76_11
                  try clear hcz76_12
                  try clear hcz76_13
                  try clear hcz76_2
                  try clear hcz76_3
                  try clear hcz76_4
                  try clear hcz76_5
                  try clear hcz76_6
                  try clear hcz76_7
                  try clear hcz76_8
                  try clear hcz76_9
                  try clear hcz78_0
                  try clear hcz78_1
                  try clear hcz78_10
                  try clear hcz78_11
                  try clear hcz78_12
                  try clear hcz78_13
                  try clear hcz78_2
                  try clear hcz78_3
                  try clear hcz78_4
                  try clear hcz78_5
                  try clear hcz78_6
                  try clear hcz78_7
                  try clear hcz78_8
                  try clear hcz78_9
                  try clear hcz79_0
                  try clear hcz79_1
                  try clear hcz79_10
                  try clear hcz79_11
                  try clear hcz79_12
                  try clear hcz79_13
                  try clear hcz79_2
                  try clear hcz79_3
                  try clear hcz79_4
                  try clear hcz79_5
                  try clear hcz79_6
                  try clear hcz79_7
                  try clear hcz79_8
                  try clear hcz79_9
                  try clear hfz48_0
                  try clear hfz48_1
                  try clear hfz48_10
                  try clear hfz48_11
                  try clear hfz48_12
                  try clear hfz48_13
                  try clear hfz48_2
                  try clear hfz48_3
                  try clear hfz48_4
                  try clear hfz48_5
                  try clear hfz48_6
                  try clear hfz48_7
                  try clear hfz48_8
                  try clear hfz48_9
                  try clear hfz49_0
                  try clear hfz49_1
                  try clear hfz49_10
                  try clear hfz49_11
                  try clear hfz49_12
                  try clear hfz49_13
                  try clear hfz49_2
                  try clear hfz49_3
                  try clear hfz49_4
                  try clear hfz49_5
                  try clear hfz49_6
                  try clear hfz49_7
                  try clear hfz49_8
                  try clear hfz49_9
                  try clear hfz51_0
                  try clear hfz51_1
                  try clear hfz51_10
                  try clear hfz51_11
                  try clear hfz51_12
                  try clear hfz51_13
                  try clear hfz51_2
                  try clear hfz51_3
                  try clear hfz51_4
                  try clear hfz51_5
                  try clear hfz51_6
                  try clear hfz51_7
                  try clear hfz51_8
                  try clear hfz51_9
                  try clear hfz52_0
                  try clear hfz52_1
                  try clear hfz52_10
                  try clear hfz52_11
                  try clear hfz52_12
                  try clear hfz52_13
                  try clear hfz52_2
                  try clear hfz52_3
                  try clear hfz52_4
                  try clear hfz52_5
                  try clear hfz52_6
                  try clear hfz52_7
                  try clear hfz52_8
                  try clear hfz52_9
                  try clear hfz54_0
                  try clear hfz54_1
                  try clear hfz54_10
                  try clear hfz54_11
                  try clear hfz54_12
                  try clear hfz54_13
                  try clear hfz54_2
                  try clear hfz54_3
                  try clear hfz54_4
                  try clear hfz54_5
                  try clear hfz54_6
                  try clear hfz54_7
                  try clear hfz54_8
                  try clear hfz54_9
                  try clear hfz55_0
                  try clear hfz55_1
                  try clear hfz55_10
                  try clear hfz55_11
                  try clear hfz55_12
                  try clear hfz55_13
                  try clear hfz55_2
                  try clear hfz55_3
                  try clear hfz55_4
                  try clear hfz55_5
                  try clear hfz55_6
                  try clear hfz55_7
                  try clear hfz55_8
                  try clear hfz55_9
                  try clear hfz62_0
                  try clear hfz62_1
                  try clear hfz62_10
                  try clear hfz62_11
                  try clear hfz62_12
                  try clear hfz62_13
                  try clear hfz62_2
                  try clear hfz62_3
                  try clear hfz62_4
                  try clear hfz62_5
                  try clear hfz62_6
                  try clear hfz62_7
                  try clear hfz62_8
                  try clear hfz62_9
                  try clear hfz63_0
                  try clear hfz63_1
                  try clear hfz63_10
                  try clear hfz63_11
                  try clear hfz63_12
                  try clear hfz63_13
                  try clear hfz63_2
                  try clear hfz63_3
                  try clear hfz63_4
                  try clear hfz63_5
                  try clear hfz63_6
                  try clear hfz63_7
                  try clear hfz63_8
                  try clear hfz63_9
                  try clear hfz65_0
                  try clear hfz65_1
                  try clear hfz65_10
                  try clear hfz65_11
                  try clear hfz65_12
                  try clear hfz65_13
                  try clear hfz65_2
                  try clear hfz65_3
                  try clear hfz65_4
                  try clear hfz65_5
                  try clear hfz65_6
                  try clear hfz65_7
                  try clear hfz65_8
                  try clear hfz65_9
                  try clear hfz66_0
                  try clear hfz66_1
                  try clear hfz66_10
                  try clear hfz66_11
                  try clear hfz66_12
                  try clear hfz66_13
                  try clear hfz66_2
                  try clear hfz66_3
                  try clear hfz66_4
                  try clear hfz66_5
                  try clear hfz66_6
                  try clear hfz66_7
                  try clear hfz66_8
                  try clear hfz66_9
                  try clear hfz68_0
                  try clear hfz68_1
                  try clear hfz68_10
                  try clear hfz68_11
                  try clear hfz68_12
                  try clear hfz68_13
                  try clear hfz68_2
                  try clear hfz68_3
                  try clear hfz68_4
                  try clear hfz68_5
                  try clear hfz68_6
                  try clear hfz68_7
                  try clear hfz68_8
                  try clear hfz68_9
                  try clear hfz69_0
                  try clear hfz69_1
                  try clear hfz69_10
                  try clear hfz69_11
                  try clear hfz69_12
                  try clear hfz69_13
                  try clear hfz69_2
                  try clear hfz69_3
                  try clear hfz69_4
                  try clear hfz69_5
                  try clear hfz69_6
                  try clear hfz69_7
                  try clear hfz69_8
                  try clear hfz69_9
                  try clear hfz72_0
                  try clear hfz72_1
                  try clear hfz72_10
                  try clear hfz72_11
                  try clear hfz72_12
                  try clear hfz72_13
                  try clear hfz72_2
                  try clear hfz72_3
                  try clear hfz72_4
                  try clear hfz72_5
                  try clear hfz72_6
                  try clear hfz72_7
                  try clear hfz72_8
                  try clear hfz72_9
                  try clear hfz73_0
                  try clear hfz73_1
                  try clear hfz73_10
                  try clear hfz73_11
                  try clear hfz73_12
                  try clear hfz73_13
                  try clear hfz73_2
                  try clear hfz73_3
                  try clear hfz73_4
                  try clear hfz73_5
                  try clear hfz73_6
                  try clear hfz73_7
                  try clear hfz73_8
                  try clear hfz73_9
                  try clear hfz75_0
                  try clear hfz75_1
                  try clear hfz75_10
                  try clear hfz75_11
                  try clear hfz75_12
                  try clear hfz75_13
                  try clear hfz75_2
                  try clear hfz75_3
                  try clear hfz75_4
                  try clear hfz75_5
                  try clear hfz75_6
                  try clear hfz75_7
                  try clear hfz75_8
                  try clear hfz75_9
                  try clear hfz76_0
                  try clear hfz76_1
                  try clear hfz76_10
                  try clear hfz76_11
                  try clear hfz76_12
                  try clear hfz76_13
                  try clear hfz76_2
                  try clear hfz76_3
                  try clear hfz76_4
                  try clear hfz76_5
                  try clear hfz76_6
                  try clear hfz76_7
                  try clear hfz76_8
                  try clear hfz76_9
                  try clear hfz78_0
                  try clear hfz78_1
                  try clear hfz78_10
                  try clear hfz78_11
                  try clear hfz78_12
                  try clear hfz78_13
                  try clear hfz78_2
                  try clear hfz78_3
                  try clear hfz78_4
                  try clear hfz78_5
                  try clear hfz78_6
                  try clear hfz78_7
                  try clear hfz78_8
                  try clear hfz78_9
                  try clear hfz79_0
                  try clear hfz79_1
                  try clear hfz79_10
                  try clear hfz79_11
                  try clear hfz79_12
                  try clear hfz79_13
                  try clear hfz79_2
                  try clear hfz79_3
                  try clear hfz79_4
                  try clear hfz79_5
                  try clear hfz79_6
                  try clear hfz79_7
                  try clear hfz79_8
                  try clear hfz79_9
                  obtain ⟨kq, x65_7, rfl, HA, HJ7, BK137, BK138, HB⟩ := hcut
                  cases kq with
                  | zero => exact absurd HA.out (by simp [relayref05_Same.j1])
                  | succ kj7 =>
                    have H := HA.out
                    clear HA
                    simp only [relayref05_Same.j1] at H
                    refine (Classical.em (x65_7 = true)).elim (fun c80 => ?p7_) (fun c80 => ?n7_)
                    case' p7_ =>
                      subst c80
                      have H1 : (some false) = some r := by rw [if_pos rfl] at H; exact H
                      clear H
                      have H := H1
                      clear H1
                      obtain rfl := Option.some.inj H
                      go_wp2
                      go_ret
                      exact ⟨by first | rfl | (simp [errW_none, errW_some] <;> rfl) | (simp [*, errW_none, errW_some] <;> rfl), by repeat (first | (with_reducible first | exact HB.out | apply below_alloc | apply pw_below_drewN | apply below_drew1 | refine below_set ?_ GE137.out | refine below_set ?_ GE138.out) | exact HB.out)⟩
                    case' n7_ =>
                      replace c80 := Bool.eq_false_iff.mpr c80
                      subst c80
                      have H1 : ((relayref05_sameExprs.f kj7 ((rd_T46 l0 x15_1).f6) ((rd_T46 l1 x15_1).f6)).bind fun t143 => (if t143 = true then ((relayref05_sameTexts.f kj7 ((rd_T46 l0 x15_1).f7) ((rd_T46 l1 x15_1).f7)).bind fun t144 => (if t144 = true then ((relayref05_sameRanges.f kj7 ((rd_T46 l0 x15_1).f8) ((rd_T46 l1 x15_1).f8)).bind fun t145 => (if t145 = true then ((relayref05_Same.f kj7 ((rd_T46 l0 x15_1).f9) ((rd_T46 l1 x15_1).f9)).bind fun t146 => (if t146 = true then ((relayref05_Same.f kj7 ((rd_T46 l0 x15_1).f10) ((rd_T46 l1 x15_1).f10)).bind fun t147 => (if t147 = true then (relayref05_Same.l0 kj7 l0 l1 (l0.length : Int) (wrap64 (x15_1 + 1))) else (some false))) else (some false))) else (some false))) else (some false))) else (some false))) = some r := by rw [if_neg (show ¬ (false = true) by decide)] at H; exact H
                      clear H
                      have H := H1
                      clear H1
                      replace H := Option.bind_eq_some_iff.mp H
                      obtain ⟨t143, A810, H⟩ := H
                      replace H : (if t143 = true then ((relayref05_sameTexts.f kj7 ((rd_T46 l0 x15_1).f7) ((rd_T46 l1 x15_1).f7)).bind fun t144 => (if t144 = true then ((relayref05_sameRanges.f kj7 ((rd_T46 l0 x15_1).f8) ((rd_T46 l1 x15_1).f8)).bind fun t145 => (if t145 = true then ((relayref05_Same.f kj7 ((rd_T46 l0 x15_1).f9) ((rd_T46 l1 x15_1).f9)).bind fun t146 => (if t146 = true then ((relayref05_Same.f kj7 ((rd_T46 l0 x15_1).f10) ((rd_T46 l1 x15_1).f10)).bind fun t147 => (if t147 = true then (relayref05_Same.l0 kj7 l0 l1 (l0.length : Int) (wrap64 (x15_1 + 1))) else (some false))) else (some false))) else (some false))) else (some false))) else (some false)) = some r := H
                      have A81 := Aside0.mk A810
                      clear A810
                      refine (Classical.em (t143 = true)).elim (fun c82 => ?p8_) (fun c82 => ?n8_)
                      case' p8_ =>
                        subst c82
                        have H1 : ((relayref05_sameTexts.f kj7 ((rd_T46 l0 x15_1).f7) ((rd_T46 l1 x15_1).f7)).bind fun t144 => (if t144 = true then ((relayref05_sameRanges.f kj7 ((rd_T46 l0 x15_1).f8) ((rd_T46 l1 x15_1).f8)).bind fun t145 => (if t145 = true then ((relayref05_Same.f kj7 ((rd_T46 l0 x15_1).f9) ((rd_T46 l1 x15_1).f9)).bind fun t146 => (if t146 = true then ((relayref05_Same.f kj7 ((rd_T46 l0 x15_1).f10) ((rd_T46 l1 x15_1).f10)).bind fun t147 => (if t147 = true then (relayref05_Same.l0 kj7 l0 l1 (l0.length : Int) (wrap64 (x15_1 + 1))) else (some false))) else (some false))) else (some false))) else (some false))) = some r := by rw [if_pos rfl] at H; exact H
                        clear H
                        have H := H1
                        clear H1
                        replace H := Option.bind_eq_some_iff.mp H
                        obtain ⟨t144, A830, H⟩ := H
                        replace H : (if t144 = true then ((relayref05_sameRanges.f kj7 ((rd_T46 l0 x15_1).f8) ((rd_T46 l1 x15_1).f8)).bind fun t145 => (if t145 = true then ((relayref05_Same.f kj7 ((rd_T46 l0 x15_1).f9) ((rd_T46 l1 x15_1).f9)).bind fun t146 => (if t146 = true then ((relayref05_Same.f kj7 ((rd_T46 l0 x15_1).f10) ((rd_T46 l1 x15_1).f10)).bind fun t147 => (if t147 = true then (relayref05_Same.l0 kj7 l0 l1 (l0.length : Int) (wrap64 (x15_1 + 1))) else (some false))) else (some false))) else (some false))) else (some false)) = some r := H
                        have A83 := Aside0.mk A830
                        clear A830
                        refine (Classical.em (t144 = true)).elim (fun c84 => ?p9_) (fun c84 => ?n9_)
                        case' p9_ =>
                          subst c84
                          have H1 : ((relayref05_sameRanges.f kj7 ((rd_T46 l0 x15_1).f8) ((rd_T46 l1 x15_1).f8)).bind fun t145 => (if t145 = true then ((relayref05_Same.f kj7 ((rd_T46 l0 x15_1).f9) ((rd_T46 l1 x15_1).f9)).bind fun t146 => (if t146 = true then ((relayref05_Same.f kj7 ((rd_T46 l0 x15_1).f10) ((rd_T46 l1 x15_1).f10)).bind fun t147 => (if t147 = true then (relayref05_Same.l0 kj7 l0 l1 (l0.length : Int) (wrap64 (x15_1 + 1))) else (some false))) else (some false))) else (some false))) = some r := by rw [if_pos rfl] at H; exact H
                          clear H
                          have H := H1
                          clear H1
                          replace H := Option.bind_eq_some_iff.mp H
                          obtain ⟨t145, A850, H⟩ := H
                          replace H : (if t145 = true then ((relayref05_Same.f kj7 ((rd_T46 l0 x15_1).f9) ((rd_T46 l1 x15_1).f9)).bind fun t146 => (if t146 = true then ((relayref05_Same.f kj7 ((rd_T46 l0 x15_1).f10) ((rd_T46 l1 x15_1).f10)).bind fun t147 => (if t147 = true then (relayref05_Same.l0 kj7 l0 l1 (l0.length : Int) (wrap64 (x15_1 + 1))) else (some false))) else (some false))) else (some false)) = some r := H
                          have A85 := Aside0.mk A850
                          clear A850
                          refine (Classical.em (t145 = true)).elim (fun c86 => ?p10_) (fun c86 => ?n10_)
                          case' p10_ =>
                            subst c86
                            have H1 : ((relayref05_Same.f kj7 ((rd_T46 l0 x15_1).f9) ((rd_T46 l1 x15_1).f9)).bind fun t146 => (if t146 = true then ((relayref05_Same.f kj7 ((rd_T46 l0 x15_1).f10) ((rd_T46 l1 x15_1).f10)).bind fun t147 => (if t147 = true then (relayref05_Same.l0 kj7 l0 l1 (l0.length : Int) (wrap64 (x15_1 + 1))) else (some false))) else (some false))) = some r := by rw [if_pos rfl] at H; exact H
                            clear H
                            have H := H1
                            clear H1
                            replace H := Option.bind_eq_some_iff.mp H
                            obtain ⟨t146, A870, H⟩ := H
                            replace H : (if t146 = true then ((relayref05_Same.f kj7 ((rd_T46 l0 x15_1).f10) ((rd_T46 l1 x15_1).f10)).bind fun t147 => (if t147 = true then (relayref05_Same.l0 kj7 l0 l1 (l0.length : Int) (wrap64 (x15_1 + 1))) else (some false))) else (some false)) = some r := H
                            have A87 := Aside0.mk A870
                            clear A870
                            refine (Classical.em (t146 = true)).elim (fun c88 => ?p11_) (fun c88 => ?n11_)
                            case' p11_ =>
                              subst c88
                              have H1 : ((relayref05_Same.f kj7 ((rd_T46 l0 x15_1).f10) ((rd_T46 l1 x15_1).f10)).bind fun t147 => (if t147 = true then (relayref05_Same.l0 kj7 l0 l1 (l0.length : Int) (wrap64 (x15_1 + 1))) else (some false))) = some r := by rw [if_pos rfl] at H; exact H
                              clear H
                              have H := H1
                              clear H1
                              replace H := Option.bind_eq_some_iff.mp H
                              obtain ⟨t147, A890, H⟩ := H
                              replace H : (if t147 = true then (relayref05_Same.l0 kj7 l0 l1 (l0.length : Int) (wrap64 (x15_1 + 1))) else (some false)) = some r := H
                              have A89 := Aside0.mk A890
                              clear A890
                              refine (Classical.em (t147 = true)).elim (fun c90 => ?p12_) (fun c90 => ?n12_)
                              case' p12_ =>
                                subst c90
                                have H1 : (relayref05_Same.l0 kj7 l0 l1 (l0.length : Int) (wrap64 (x15_1 + 1))) = some r := by rw [if_pos rfl] at H; exact H
                                clear H
                                have H := H1
                                clear H1
                                have H' := Aside0.mk H
                                clear H
                                have hnb91 := NB137_138.out
                                have hnc91 := NB138_137.out
                                have hcz92_0 : wc.cell? ⟨gb137, 0, none⟩ = some (.int .i64 ((rd_T46 l0 x15_1).f0)) := (blk_cell BK137.out 0).trans rfl
                                have hcz92_1 : wc.cell? ⟨gb137, 1, none⟩ = some (.int .i64 ((rd_T46 l0 x15_1).f1)) := (blk_cell BK137.out 1).trans rfl
                                have hcz92_2 : wc.cell? ⟨gb137, 2, none⟩ = some (.string ((rd_T46 l0 x15_1).f2)) := (blk_cell BK137.out 2).trans rfl
                                have hcz92_3 : wc.cell? ⟨gb137, 3, none⟩ = some (.int .i64 ((rd_T46 l0 x15_1).f3)) := (blk_cell BK137.out 3).trans rfl
                                have hcz92_4 : wc.cell? ⟨gb137, 4, none⟩ = some (.slice A135_4 ((rd_T46 l0 x15_1).f4).length c135_4) := (blk_cell BK137.out 4).trans rfl
                                have hcz92_5 : wc.cell? ⟨gb137, 5, none⟩ = some (.slice A135_5 ((rd_T46 l0 x15_1).f5).length c135_5) := (blk_cell BK137.out 5).trans rfl
                                have hcz92_6 : wc.cell? ⟨gb137, 6, none⟩ = some (.slice A135_6 ((rd_T46 l0 x15_1).f6).length c135_6) := (blk_cell BK137.out 6).trans rfl
                                have hcz92_7 : wc.cell? ⟨gb137, 7, none⟩ = some (.slice A135_7 ((rd_T46 l0 x15_1).f7).length c135_7) := (blk_cell BK137.out 7).trans rfl
                                have hcz92_8 : wc.cell? ⟨gb137, 8, none⟩ = some (.slice A135_8 ((rd_T46 l0 x15_1).f8).length c135_8) := (blk_cell BK137.out 8).trans rfl
                                have hcz92_9 : wc.cell? ⟨gb137, 9, none⟩ = some (.slice A135_9 ((rd_T46 l0 x15_1).f9).length c135_9) := (blk_cell BK137.out 9).trans rfl
                                have hcz92_10 : wc.cell? ⟨gb137, 10, none⟩ = some (.slice A135_10 ((rd_T46 l0 x15_1).f10).length c135_10) := (blk_cell BK137.out 10).trans rfl
                                have hcz92_11 : wc.cell? ⟨gb137, 11, none⟩ = some (.int .u8 ((rd_T46 l0 x15_1).f11)) := (blk_cell BK137.out 11).trans rfl
                                have hcz92_12 : wc.cell? ⟨gb137, 12, none⟩ = some (.int .i64 ((rd_T46 l0 x15_1).f12)) := (blk_cell BK137.out 12).trans rfl
                                have hcz92_13 : wc.cell? ⟨gb137, 13, none⟩ = some (.int .i64 ((rd_T46 l0 x15_1).f13)) := (blk_cell BK137.out 13).trans rfl
                                have hfz92_0 := blk_frozen BK137.out 0
                                have hfz92_1 := blk_frozen BK137.out 1
                                have hfz92_2 := blk_frozen BK137.out 2
                                have hfz92_3 := blk_frozen BK137.out 3
                                have hfz92_4 := blk_frozen BK137.out 4
                                have hfz92_5 := blk_frozen BK137.out 5
                                have hfz92_6 := blk_frozen BK137.out 6
                                have hfz92_7 := blk_frozen BK137.out 7
                                have hfz92_8 := blk_frozen BK137.out 8
                                have hfz92_9 := blk_frozen BK137.out 9
                                have hfz92_10 := blk_frozen BK137.out 10
                                have hfz92_11 := blk_frozen BK137.out 11
                                have hfz92_12 := blk_frozen BK137.out 12
                                have hfz92_13 := blk_frozen BK137.out 13
                                have hcz93_0 : wc.cell? ⟨gb138, 0, none⟩ = some (.int .i64 ((rd_T46 l1 x15_1).f0)) := (blk_cell BK138.out 0).trans rfl
                                have hcz93_1 : wc.cell? ⟨gb138, 1, none⟩ = some (.int .i64 ((rd_T46 l1 x15_1).f1)) := (blk_cell BK138.out 1).trans rfl
                                have hcz93_2 : wc.cell? ⟨gb138, 2, none⟩ = some (.string ((rd_T46 l1 x15_1).f2)) := (blk_cell BK138.out 2).trans rfl
                                have hcz93_3 : wc.cell? ⟨gb138, 3, none⟩ = some (.int .i64 ((rd_T46 l1 x15_1).f3)) := (blk_cell BK138.out 3).trans rfl
                                have hcz93_4 : wc.cell? ⟨gb138, 4, none⟩ = some (.slice A136_4 ((rd_T46 l1 x15_1).f4).length c136_4) := (blk_cell BK138.out 4).trans rfl
                                have hcz93_5 : wc.cell? ⟨gb138, 5, none⟩ = some (.slice A136_5 ((rd_T46 l1 x15_1).f5).length c136_5) := (blk_cell BK138.out 5).trans rfl
                                have hcz93_6 : wc.cell? ⟨gb138, 6, none⟩ = some (.slice A136_6 ((rd_T46 l1 x15_1).f6).length c136_6) := (blk_cell BK138.out 6).trans rfl
                                have hcz93_7 : wc.cell? ⟨gb138, 7, none⟩ = some (.slice A136_7 ((rd_T46 l1 x15_1).f7).length c136_7) := (blk_cell BK138.out 7).trans rfl
                                have hcz93_8 : wc.cell? ⟨gb138, 8, none⟩ = some (.slice A136_8 ((rd_T46 l1 x15_1).f8).length c136_8) := (blk_cell BK138.out 8).trans rfl
                                have hcz93_9 : wc.cell? ⟨gb138, 9, none⟩ = some (.slice A136_9 ((rd_T46 l1 x15_1).f9).length c136_9) := (blk_cell BK138.out 9).trans rfl
                                have hcz93_10 : wc.cell? ⟨gb138, 10, none⟩ = some (.slice A136_10 ((rd_T46 l1 x15_1).f10).length c136_10) := (blk_cell BK138.out 10).trans rfl
                                have hcz93_11 : wc.cell? ⟨gb138, 11, none⟩ = some (.int .u8 ((rd_T46 l1 x15_1).f11)) := (blk_cell BK138.out 11).trans rfl
                                have hcz93_12 : wc.cell? ⟨gb138, 12, none⟩ = some (.int .i64 ((rd_T46 l1 x15_1).f12)) := (blk_cell BK138.out 12).trans rfl
                                have hcz93_13 : wc.cell? ⟨gb138, 13, none⟩ = some (.int .i64 ((rd_T46 l1 x15_1).f13)) := (blk_cell BK138.out 13).trans rfl
                                have hfz93_0 := blk_frozen BK138.out 0
                                have hfz93_1 := blk_frozen BK138.out 1
                                have hfz93_2 := blk_frozen BK138.out 2
                                have hfz93_3 := blk_frozen BK138.out 3
                                have hfz93_4 := blk_frozen BK138.out 4
                                have hfz93_5 := blk_frozen BK138.out 5
                                have hfz93_6 := blk_frozen BK138.out 6
                                have hfz93_7 := blk_frozen BK138.out 7
                                have hfz93_8 := blk_frozen BK138.out 8
                                have hfz93_9 := blk_frozen BK138.out 9
                                have hfz93_10 := blk_frozen BK138.out 10
                                have hfz93_11 := blk_frozen BK138.out 11
                                have hfz93_12 := blk_frozen BK138.out 12
                                have hfz93_13 := blk_frozen BK138.out 13
                              case' n12_ =>
                                replace c90 := Bool.eq_false_iff.mpr c90
                                subst c90
                                have H1 : (some false) = some r := by rw [if_neg (show ¬ (false = true) by decide)] at H; exact H
                                clear H
                                have H := H1
                                clear H1
                                obtain rfl := Option.some.inj H
                                have hnb101 := NB137_138.out
                                have hnc101 := NB138_137.out
                                have hcz102_0 : wc.cell? ⟨gb137, 0, none⟩ = some (.int .i64 ((rd_T46 l0 x15_1).f0)) := (blk_cell BK137.out 0).trans rfl
                                have hcz102_1 : wc.cell? ⟨gb137, 1, none⟩ = some (.int .i64 ((rd_T46 l0 x15_1).f1)) := (blk_cell BK137.out 1).trans rfl
                                have hcz102_2 : wc.cell? ⟨gb137, 2, none⟩ = some (.string ((rd_T46 l0 x15_1).f2)) := (blk_cell BK137.out 2).trans rfl
                                have hcz102_3 : wc.cell? ⟨gb137, 3, none⟩ = some (.int .i64 ((rd_T46 l0 x15_1).f3)) := (blk_cell BK137.out 3).trans rfl
                                have hcz102_4 : wc.cell? ⟨gb137, 4, none⟩ = some (.slice A135_4 ((rd_T46 l0 x15_1).f4).length c135_4) := (blk_cell BK137.out 4).trans rfl
                                have hcz102_5 : wc.cell? ⟨gb137, 5, none⟩ = some (.slice A135_5 ((rd_T46 l0 x15_1).f5).length c135_5) := (blk_cell BK137.out 5).trans rfl
                                have hcz102_6 : wc.cell? ⟨gb137, 6, none⟩ = some (.slice A135_6 ((rd_T46 l0 x15_1).f6).length c135_6) := (blk_cell BK137.out 6).trans rfl
                                have hcz102_7 : wc.cell? ⟨gb137, 7, none⟩ = some (.slice A135_7 ((rd_T46 l0 x15_1).f7).length c135_7) := (blk_cell BK137.out 7).trans rfl
                                have hcz102_8 : wc.cell? ⟨gb137, 8, none⟩ = some (.slice A135_8 ((rd_T46 l0 x15_1).f8).length c135_8) := (blk_cell BK137.out 8).trans rfl
                                have hcz102_9 : wc.cell? ⟨gb137, 9, none⟩ = some (.slice A135_9 ((rd_T46 l0 x15_1).f9).length c135_9) := (blk_cell BK137.out 9).trans rfl
                                have hcz102_10 : wc.cell? ⟨gb137, 10, none⟩ = some (.slice A135_10 ((rd_T46 l0 x15_1).f10).length c135_10) := (blk_cell BK137.out 10).trans rfl
                                have hcz102_11 : wc.cell? ⟨gb137, 11, none⟩ = some (.int .u8 ((rd_T46 l0 x15_1).f11)) := (blk_cell BK137.out 11).trans rfl
                                have hcz102_12 : wc.cell? ⟨gb137, 12, none⟩ = some (.int .i64 ((rd_T46 l0 x15_1).f12)) := (blk_cell BK137.out 12).trans rfl
                                have hcz102_13 : wc.cell? ⟨gb137, 13, none⟩ = some (.int .i64 ((rd_T46 l0 x15_1).f13)) := (blk_cell BK137.out 13).trans rfl
                                have hfz102_0 := blk_frozen BK137.out 0
                                have hfz102_1 := blk_frozen BK137.out 1
                                have hfz102_2 := blk_frozen BK137.out 2
                                have hfz102_3 := blk_frozen BK137.out 3
                                have hfz102_4 := blk_frozen BK137.out 4
                                have hfz102_5 := blk_frozen BK137.out 5
                                have hfz102_6 := blk_frozen BK137.out 6
                                have hfz102_7 := blk_frozen BK137.out 7
                                have hfz102_8 := blk_frozen BK137.out 8
                                have hfz102_9 := blk_frozen BK137.out 9
                                have hfz102_10 := blk_frozen BK137.out 10
                                have hfz102_11 := blk_frozen BK137.out 11
                                have hfz102_12 := blk_frozen BK137.out 12
                                have hfz102_13 := blk_frozen BK137.out 13
                                have hcz103_0 : wc.cell? ⟨gb138, 0, none⟩ = some (.int .i64 ((rd_T46 l1 x15_1).f0)) := (blk_cell BK138.out 0).trans rfl
                                have hcz103_1 : wc.cell? ⟨gb138, 1, none⟩ = some (.int .i64 ((rd_T46 l1 x15_1).f1)) := (blk_cell BK138.out 1).trans rfl
                                have hcz103_2 : wc.cell? ⟨gb138, 2, none⟩ = some (.string ((rd_T46 l1 x15_1).f2)) := (blk_cell BK138.out 2).trans rfl
                                have hcz103_3 : wc.cell? ⟨gb138, 3, none⟩ = some (.int .i64 ((rd_T46 l1 x15_1).f3)) := (blk_cell BK138.out 3).trans rfl
                                have hcz103_4 : wc.cell? ⟨gb138, 4, none⟩ = some (.slice A136_4 ((rd_T46 l1 x15_1).f4).length c136_4) := (blk_cell BK138.out 4).trans rfl
                                have hcz103_5 : wc.cell? ⟨gb138, 5, none⟩ = some (.slice A136_5 ((rd_T46 l1 x15_1).f5).length c136_5) := (blk_cell BK138.out 5).trans rfl
                                have hcz103_6 : wc.cell? ⟨gb138, 6, none⟩ = some (.slice A136_6 ((rd_T46 l1 x15_1).f6).length c136_6) := (blk_cell BK138.out 6).trans rfl
                                have hcz103_7 : wc.cell? ⟨gb138, 7, none⟩ = some (.slice A136_7 ((rd_T46 l1 x15_1).f7).length c136_7) := (blk_cell BK138.out 7).trans rfl
                                have hcz103_8 : wc.cell? ⟨gb138, 8, none⟩ = some (.slice A136_8 ((rd_T46 l1 x15_1).f8).length c136_8) := (blk_cell BK138.out 8).trans rfl
                                have hcz103_9 : wc.cell? ⟨gb138, 9, none⟩ = some (.slice A136_9 ((rd_T46 l1 x15_1).f9).length c136_9) := (blk_cell BK138.out 9).trans rfl
                                have hcz103_10 : wc.cell? ⟨gb138, 10, none⟩ = some (.slice A136_10 ((rd_T46 l1 x15_1).f10).length c136_10) := (blk_cell BK138.out 10).trans rfl
                                have hcz103_11 : wc.cell? ⟨gb138, 11, none⟩ = some (.int .u8 ((rd_T46 l1 x15_1).f11)) := (blk_cell BK138.out 11).trans rfl
                                have hcz103_12 : wc.cell? ⟨gb138, 12, none⟩ = some (.int .i64 ((rd_T46 l1 x15_1).f12)) := (blk_cell BK138.out 12).trans rfl
                                have hcz103_13 : wc.cell? ⟨gb138, 13, none⟩ = some (.int .i64 ((rd_T46 l1 x15_1).f13)) := (blk_cell BK138.out 13).trans rfl
                                have hfz103_0 := blk_frozen BK138.out 0
                                have hfz103_1 := blk_frozen BK138.out 1
                                have hfz103_2 := blk_frozen BK138.out 2
                                have hfz103_3 := blk_frozen BK138.out 3
                                have hfz103_4 := blk_frozen BK138.out 4
                                have hfz103_5 := blk_frozen BK138.out 5
                                have hfz103_6 := blk_frozen BK138.out 6
                                have hfz103_7 := blk_frozen BK138.out 7
                                have hfz103_8 := blk_frozen BK138.out 8
                                have hfz103_9 := blk_frozen BK138.out 9
                                have hfz103_10 := blk_frozen BK138.out 10
                                have hfz103_11 := blk_frozen BK138.out 11
                                have hfz103_12 := blk_frozen BK138.out 12
                                have hfz103_13 := blk_frozen BK138.out 13
                            case' n11_ =>
                              replace c88 := Bool.eq_false_iff.mpr c88
                              subst c88
                              have H1 : (some false) = some r := by rw [if_neg (show ¬ (false = true) by decide)] at H; exact H
                              clear H
                              have H := H1
                              clear H1
                              obtain rfl := Option.some.inj H
                              have hnb111 := NB137_138.out
                              have hnc111 := NB138_137.out
                              have hcz112_0 : wc.cell? ⟨gb137, 0, none⟩ = some (.int .i64 ((rd_T46 l0 x15_1).f0)) := (blk_cell BK137.out 0).trans rfl
                              have hcz112_1 : wc.cell? ⟨gb137, 1, none⟩ = some (.int .i64 ((rd_T46 l0 x15_1).f1)) := (blk_cell BK137.out 1).trans rfl
                              have hcz112_2 : wc.cell? ⟨gb137, 2, none⟩ = some (.string ((rd_T46 l0 x15_1).f2)) := (blk_cell BK137.out 2).trans rfl
                              have hcz112_3 : wc.cell? ⟨gb137, 3, none⟩ = some (.int .i64 ((rd_T46 l0 x15_1).f3)) := (blk_cell BK137.out 3).trans rfl
                              have hcz112_4 : wc.cell? ⟨gb137, 4, none⟩ = some (.slice A135_4 ((rd_T46 l0 x15_1).f4).length c135_4) := (blk_cell BK137.out 4).trans rfl
                              have hcz112_5 : wc.cell? ⟨gb137, 5, none⟩ = some (.slice A135_5 ((rd_T46 l0 x15_1).f5).length c135_5) := (blk_cell BK137.out 5).trans rfl
                              have hcz112_6 : wc.cell? ⟨gb137, 6, none⟩ = some (.slice A135_6 ((rd_T46 l0 x15_1).f6).length c135_6) := (blk_cell BK137.out 6).trans rfl
                              have hcz112_7 : wc.cell? ⟨gb137, 7, none⟩ = some (.slice A135_7 ((rd_T46 l0 x15_1).f7).length c135_7) := (blk_cell BK137.out 7).trans rfl
                              have hcz112_8 : wc.cell? ⟨gb137, 8, none⟩ = some (.slice A135_8 ((rd_T46 l0 x15_1).f8).length c135_8) := (blk_cell BK137.out 8).trans rfl
                              have hcz112_9 : wc.cell? ⟨gb137, 9, none⟩ = some (.slice A135_9 ((rd_T46 l0 x15_1).f9).length c135_9) := (blk_cell BK137.out 9).trans rfl
                              have hcz112_10 : wc.cell? ⟨gb137, 10, none⟩ = some (.slice A135_10 ((rd_T46 l0 x15_1).f10).length c135_10) := (blk_cell BK137.out 10).trans rfl
                              have hcz112_11 : wc.cell? ⟨gb137, 11, none⟩ = some (.int .u8 ((rd_T46 l0 x15_1).f11)) := (blk_cell BK137.out 11).trans rfl
                              have hcz112_12 : wc.cell? ⟨gb137, 12, none⟩ = some (.int .i64 ((rd_T46 l0 x15_1).f12)) := (blk_cell BK137.out 12).trans rfl
                              have hcz112_13 : wc.cell? ⟨gb137, 13, none⟩ = some (.int .i64 ((rd_T46 l0 x15_1).f13)) := (blk_cell BK137.out 13).trans rfl
                              have hfz112_0 := blk_frozen BK137.out 0
                              have hfz112_1 := blk_frozen BK137.out 1
                              have hfz112_2 := blk_frozen BK137.out 2
                              have hfz112_3 := blk_frozen BK137.out 3
                              have hfz112_4 := blk_frozen BK137.out 4
                              have hfz112_5 := blk_frozen BK137.out 5
                              have hfz112_6 := blk_frozen BK137.out 6
                              have hfz112_7 := blk_frozen BK137.out 7
                              have hfz112_8 := blk_frozen BK137.out 8
                              have hfz112_9 := blk_frozen BK137.out 9
                              have hfz112_10 := blk_frozen BK137.out 10
                              have hfz112_11 := blk_frozen BK137.out 11
                              have hfz112_12 := blk_frozen BK137.out 12
                              have hfz112_13 := blk_frozen BK137.out 13
                              have hcz113_0 : wc.cell? ⟨gb138, 0, none⟩ = some (.int .i64 ((rd_T46 l1 x15_1).f0)) := (blk_cell BK138.out 0).trans rfl
                              have hcz113_1 : wc.cell? ⟨gb138, 1, none⟩ = some (.int .i64 ((rd_T46 l1 x15_1).f1)) := (blk_cell BK138.out 1).trans rfl
                              have hcz113_2 : wc.cell? ⟨gb138, 2, none⟩ = some (.string ((rd_T46 l1 x15_1).f2)) := (blk_cell BK138.out 2).trans rfl
                              have hcz113_3 : wc.cell? ⟨gb138, 3, none⟩ = some (.int .i64 ((rd_T46 l1 x15_1).f3)) := (blk_cell BK138.out 3).trans rfl
                              have hcz113_4 : wc.cell? ⟨gb138, 4, none⟩ = some (.slice A136_4 ((rd_T46 l1 x15_1).f4).length c136_4) := (blk_cell BK138.out 4).trans rfl
                              have hcz113_5 : wc.cell? ⟨gb138, 5, none⟩ = some (.slice A136_5 ((rd_T46 l1 x15_1).f5).length c136_5) := (blk_cell BK138.out 5).trans rfl
                              have hcz113_6 : wc.cell? ⟨gb138, 6, none⟩ = some (.slice A136_6 ((rd_T46 l1 x15_1).f6).length c136_6) := (blk_cell BK138.out 6).trans rfl
                              have hcz113_7 : wc.cell? ⟨gb138, 7, none⟩ = some (.slice A136_7 ((rd_T46 l1 x15_1).f7).length c136_7) := (blk_cell BK138.out 7).trans rfl
                              have hcz113_8 : wc.cell? ⟨gb138, 8, none⟩ = some (.slice A136_8 ((rd_T46 l1 x15_1).f8).length c136_8) := (blk_cell BK138.out 8).trans rfl
                              have hcz113_9 : wc.cell? ⟨gb138, 9, none⟩ = some (.slice A136_9 ((rd_T46 l1 x15_1).f9).length c136_9) := (blk_cell BK138.out 9).trans rfl
                              have hcz113_10 : wc.cell? ⟨gb138, 10, none⟩ = some (.slice A136_10 ((rd_T46 l1 x15_1).f10).length c136_10) := (blk_cell BK138.out 10).trans rfl
                              have hcz113_11 : wc.cell? ⟨gb138, 11, none⟩ = some (.int .u8 ((rd_T46 l1 x15_1).f11)) := (blk_cell BK138.out 11).trans rfl
                              have hcz113_12 : wc.cell? ⟨gb138, 12, none⟩ = some (.int .i64 ((rd_T46 l1 x15_1).f12)) := (blk_cell BK138.out 12).trans rfl
                              have hcz113_13 : wc.cell? ⟨gb138, 13, none⟩ = some (.int .i64 ((rd_T46 l1 x15_1).f13)) := (blk_cell BK138.out 13).trans rfl
                              have hfz113_0 := blk_frozen BK138.out 0
                              have hfz113_1 := blk_frozen BK138.out 1
                              have hfz113_2 := blk_frozen BK138.out 2
                              have hfz113_3 := blk_frozen BK138.out 3
                              have hfz113_4 := blk_frozen BK138.out 4
                              have hfz113_5 := blk_frozen BK138.out 5
                              have hfz113_6 := blk_frozen BK138.out 6
                              have hfz113_7 := blk_frozen BK138.out 7
                              have hfz113_8 := blk_frozen BK138.out 8
                              have hfz113_9 := blk_frozen BK138.out 9
                              have hfz113_10 := blk_frozen BK138.out 10
                              have hfz113_11 := blk_frozen BK138.out 11
                              have hfz113_12 := blk_frozen BK138.out 12
                              have hfz113_13 := blk_frozen BK138.out 13
                          case' n10_ =>
                            replace c86 := Bool.eq_false_iff.mpr c86
                            subst c86
                            have H1 : (some false) = some r := by rw [if_neg (show ¬ (false = true) by decide)] at H; exact H
                            clear H
                            have H := H1
                            clear H1
                            obtain rfl := Option.some.inj H
                            have hnb118 := NB137_138.out
                            have hnc118 := NB138_137.out
                            have hcz119_0 : wc.cell? ⟨gb137, 0, none⟩ = some (.int .i64 ((rd_T46 l0 x15_1).f0)) := (blk_cell BK137.out 0).trans rfl
                            have hcz119_1 : wc.cell? ⟨gb137, 1, none⟩ = some (.int .i64 ((rd_T46 l0 x15_1).f1)) := (blk_cell BK137.out 1).trans rfl
                            have hcz119_2 : wc.cell? ⟨gb137, 2, none⟩ = some (.string ((rd_T46 l0 x15_1).f2)) := (blk_cell BK137.out 2).trans rfl
                            have hcz119_3 : wc.cell? ⟨gb137, 3, none⟩ = some (.int .i64 ((rd_T46 l0 x15_1).f3)) := (blk_cell BK137.out 3).trans rfl
                            have hcz119_4 : wc.cell? ⟨gb137, 4, none⟩ = some (.slice A135_4 ((rd_T46 l0 x15_1).f4).length c135_4) := (blk_cell BK137.out 4).trans rfl
                            have hcz119_5 : wc.cell? ⟨gb137, 5, none⟩ = some (.slice A135_5 ((rd_T46 l0 x15_1).f5).length c135_5) := (blk_cell BK137.out 5).trans rfl
                            have hcz119_6 : wc.cell? ⟨gb137, 6, none⟩ = some (.slice A135_6 ((rd_T46 l0 x15_1).f6).length c135_6) := (blk_cell BK137.out 6).trans rfl
                            have hcz119_7 : wc.cell? ⟨gb137, 7, none⟩ = some (.slice A135_7 ((rd_T46 l0 x15_1).f7).length c135_7) := (blk_cell BK137.out 7).trans rfl
                            have hcz119_8 : wc.cell? ⟨gb137, 8, none⟩ = some (.slice A135_8 ((rd_T46 l0 x15_1).f8).length c135_8) := (blk_cell BK137.out 8).trans rfl
                            have hcz119_9 : wc.cell? ⟨gb137, 9, none⟩ = some (.slice A135_9 ((rd_T46 l0 x15_1).f9).length c135_9) := (blk_cell BK137.out 9).trans rfl
                            have hcz119_10 : wc.cell? ⟨gb137, 10, none⟩ = some (.slice A135_10 ((rd_T46 l0 x15_1).f10).length c135_10) := (blk_cell BK137.out 10).trans rfl
                            have hcz119_11 : wc.cell? ⟨gb137, 11, none⟩ = some (.int .u8 ((rd_T46 l0 x15_1).f11)) := (blk_cell BK137.out 11).trans rfl
                            have hcz119_12 : wc.cell? ⟨gb137, 12, none⟩ = some (.int .i64 ((rd_T46 l0 x15_1).f12)) := (blk_cell BK137.out 12).trans rfl
                            have hcz119_13 : wc.cell? ⟨gb137, 13, none⟩ = some (.int .i64 ((rd_T46 l0 x15_1).f13)) := (blk_cell BK137.out 13).trans rfl
                            have hfz119_0 := blk_frozen BK137.out 0
                            have hfz119_1 := blk_frozen BK137.out 1
                            have hfz119_2 := blk_frozen BK137.out 2
                            have hfz119_3 := blk_frozen BK137.out 3
                            have hfz119_4 := blk_frozen BK137.out 4
                            have hfz119_5 := blk_frozen BK137.out 5
                            have hfz119_6 := blk_frozen BK137.out 6
                            have hfz119_7 := blk_frozen BK137.out 7
                            have hfz119_8 := blk_frozen BK137.out 8
                            have hfz119_9 := blk_frozen BK137.out 9
                            have hfz119_10 := blk_frozen BK137.out 10
                            have hfz119_11 := blk_frozen BK137.out 11
                            have hfz119_12 := blk_frozen BK137.out 12
                            have hfz119_13 := blk_frozen BK137.out 13
                            have hcz120_0 : wc.cell? ⟨gb138, 0, none⟩ = some (.int .i64 ((rd_T46 l1 x15_1).f0)) := (blk_cell BK138.out 0).trans rfl
                            have hcz120_1 : wc.cell? ⟨gb138, 1, none⟩ = some (.int .i64 ((rd_T46 l1 x15_1).f1)) := (blk_cell BK138.out 1).trans rfl
                            have hcz120_2 : wc.cell? ⟨gb138, 2, none⟩ = some (.string ((rd_T46 l1 x15_1).f2)) := (blk_cell BK138.out 2).trans rfl
                            have hcz120_3 : wc.cell? ⟨gb138, 3, none⟩ = some (.int .i64 ((rd_T46 l1 x15_1).f3)) := (blk_cell BK138.out 3).trans rfl
                            have hcz120_4 : wc.cell? ⟨gb138, 4, none⟩ = some (.slice A136_4 ((rd_T46 l1 x15_1).f4).length c136_4) := (blk_cell BK138.out 4).trans rfl
                            have hcz120_5 : wc.cell? ⟨gb138, 5, none⟩ = some (.slice A136_5 ((rd_T46 l1 x15_1).f5).length c136_5) := (blk_cell BK138.out 5).trans rfl
                            have hcz120_6 : wc.cell? ⟨gb138, 6, none⟩ = some (.slice A136_6 ((rd_T46 l1 x15_1).f6).length c136_6) := (blk_cell BK138.out 6).trans rfl
                            have hcz120_7 : wc.cell? ⟨gb138, 7, none⟩ = some (.slice A136_7 ((rd_T46 l1 x15_1).f7).length c136_7) := (blk_cell BK138.out 7).trans rfl
                            have hcz120_8 : wc.cell? ⟨gb138, 8, none⟩ = some (.slice A136_8 ((rd_T46 l1 x15_1).f8).length c136_8) := (blk_cell BK138.out 8).trans rfl
                            have hcz120_9 : wc.cell? ⟨gb138, 9, none⟩ = some (.slice A136_9 ((rd_T46 l1 x15_1).f9).length c136_9) := (blk_cell BK138.out 9).trans rfl
                            have hcz120_10 : wc.cell? ⟨gb138, 10, none⟩ = some (.slice A136_10 ((rd_T46 l1 x15_1).f10).length c136_10) := (blk_cell BK138.out 10).trans rfl
                            have hcz120_11 : wc.cell? ⟨gb138, 11, none⟩ = some (.int .u8 ((rd_T46 l1 x15_1).f11)) := (blk_cell BK138.out 11).trans rfl
                            have hcz120_12 : wc.cell? ⟨gb138, 12, none⟩ = some (.int .i64 ((rd_T46 l1 x15_1).f12)) := (blk_cell BK138.out 12).trans rfl
                            have hcz120_13 : wc.cell? ⟨gb138, 13, none⟩ = some (.int .i64 ((rd_T46 l1 x15_1).f13)) := (blk_cell BK138.out 13).trans rfl
                            have hfz120_0 := blk_frozen BK138.out 0
                            have hfz120_1 := blk_frozen BK138.out 1
                            have hfz120_2 := blk_frozen BK138.out 2
                            have hfz120_3 := blk_frozen BK138.out 3
                            have hfz120_4 := blk_frozen BK138.out 4
                            have hfz120_5 := blk_frozen BK138.out 5
                            have hfz120_6 := blk_frozen BK138.out 6
                            have hfz120_7 := blk_frozen BK138.out 7
                            have hfz120_8 := blk_frozen BK138.out 8
                            have hfz120_9 := blk_frozen BK138.out 9
                            have hfz120_10 := blk_frozen BK138.out 10
                            have hfz120_11 := blk_frozen BK138.out 11
                            have hfz120_12 := blk_frozen BK138.out 12
                            have hfz120_13 := blk_frozen BK138.out 13
                        case' n9_ =>
                          replace c84 := Bool.eq_false_iff.mpr c84
                          subst c84
                          have H1 : (some false) = some r := by rw [if_neg (show ¬ (false = true) by decide)] at H; exact H
                          clear H
                          have H := H1
                          clear H1
                          obtain rfl := Option.some.inj H
                          have hnb124 := NB137_138.out
                          have hnc124 := NB138_137.out
                          have hcz125_0 : wc.cell? ⟨gb137, 0, none⟩ = some (.int .i64 ((rd_T46 l0 x15_1).f0)) := (blk_cell BK137.out 0).trans rfl
                          have hcz125_1 : wc.cell? ⟨gb137, 1, none⟩ = some (.int .i64 ((rd_T46 l0 x15_1).f1)) := (blk_cell BK137.out 1).trans rfl
                          have hcz125_2 : wc.cell? ⟨gb137, 2, none⟩ = some (.string ((rd_T46 l0 x15_1).f2)) := (blk_cell BK137.out 2).trans rfl
                          have hcz125_3 : wc.cell? ⟨gb137, 3, none⟩ = some (.int .i64 ((rd_T46 l0 x15_1).f3)) := (blk_cell BK137.out 3).trans rfl
                          have hcz125_4 : wc.cell? ⟨gb137, 4, none⟩ = some (.slice A135_4 ((rd_T46 l0 x15_1).f4).length c135_4) := (blk_cell BK137.out 4).trans rfl
                          have hcz125_5 : wc.cell? ⟨gb137, 5, none⟩ = some (.slice A135_5 ((rd_T46 l0 x15_1).f5).length c135_5) := (blk_cell BK137.out 5).trans rfl
                          have hcz125_6 : wc.cell? ⟨gb137, 6, none⟩ = some (.slice A135_6 ((rd_T46 l0 x15_1).f6).length c135_6) := (blk_cell BK137.out 6).trans rfl
                          have hcz125_7 : wc.cell? ⟨gb137, 7, none⟩ = some (.slice A135_7 ((rd_T46 l0 x15_1).f7).length c135_7) := (blk_cell BK137.out 7).trans rfl
                          have hcz125_8 : wc.cell? ⟨gb137, 8, none⟩ = some (.slice A135_8 ((rd_T46 l0 x15_1).f8).length c135_8) := (blk_cell BK137.out 8).trans rfl
                          have hcz125_9 : wc.cell? ⟨gb137, 9, none⟩ = some (.slice A135_9 ((rd_T46 l0 x15_1).f9).length c135_9) := (blk_cell BK137.out 9).trans rfl
                          have hcz125_10 : wc.cell? ⟨gb137, 10, none⟩ = some (.slice A135_10 ((rd_T46 l0 x15_1).f10).length c135_10) := (blk_cell BK137.out 10).trans rfl
                          have hcz125_11 : wc.cell? ⟨gb137, 11, none⟩ = some (.int .u8 ((rd_T46 l0 x15_1).f11)) := (blk_cell BK137.out 11).trans rfl
                          have hcz125_12 : wc.cell? ⟨gb137, 12, none⟩ = some (.int .i64 ((rd_T46 l0 x15_1).f12)) := (blk_cell BK137.out 12).trans rfl
                          have hcz125_13 : wc.cell? ⟨gb137, 13, none⟩ = some (.int .i64 ((rd_T46 l0 x15_1).f13)) := (blk_cell BK137.out 13).trans rfl
                          have hfz125_0 := blk_frozen BK137.out 0
                          have hfz125_1 := blk_frozen BK137.out 1
                          have hfz125_2 := blk_frozen BK137.out 2
                          have hfz125_3 := blk_frozen BK137.out 3
                          have hfz125_4 := blk_frozen BK137.out 4
                          have hfz125_5 := blk_frozen BK137.out 5
                          have hfz125_6 := blk_frozen BK137.out 6
                          have hfz125_7 := blk_frozen BK137.out 7
                          have hfz125_8 := blk_frozen BK137.out 8
                          have hfz125_9 := blk_frozen BK137.out 9
                          have hfz125_10 := blk_frozen BK137.out 10
                          have hfz125_11 := blk_frozen BK137.out 11
                          have hfz125_12 := blk_frozen BK137.out 12
                          have hfz125_13 := blk_frozen BK137.out 13
                          have hcz126_0 : wc.cell? ⟨gb138, 0, none⟩ = some (.int .i64 ((rd_T46 l1 x15_1).f0)) := (blk_cell BK138.out 0).trans rfl
                          have hcz126_1 : wc.cell? ⟨gb138, 1, none⟩ = some (.int .i64 ((rd_T46 l1 x15_1).f1)) := (blk_cell BK138.out 1).trans rfl
                          have hcz126_2 : wc.cell? ⟨gb138, 2, none⟩ = some (.string ((rd_T46 l1 x15_1).f2)) := (blk_cell BK138.out 2).trans rfl
                          have hcz126_3 : wc.cell? ⟨gb138, 3, none⟩ = some (.int .i64 ((rd_T46 l1 x15_1).f3)) := (blk_cell BK138.out 3).trans rfl
                          have hcz126_4 : wc.cell? ⟨gb138, 4, none⟩ = some (.slice A136_4 ((rd_T46 l1 x15_1).f4).length c136_4) := (blk_cell BK138.out 4).trans rfl
                          have hcz126_5 : wc.cell? ⟨gb138, 5, none⟩ = some (.slice A136_5 ((rd_T46 l1 x15_1).f5).length c136_5) := (blk_cell BK138.out 5).trans rfl
                          have hcz126_6 : wc.cell? ⟨gb138, 6, none⟩ = some (.slice A136_6 ((rd_T46 l1 x15_1).f6).length c136_6) := (blk_cell BK138.out 6).trans rfl
                          have hcz126_7 : wc.cell? ⟨gb138, 7, none⟩ = some (.slice A136_7 ((rd_T46 l1 x15_1).f7).length c136_7) := (blk_cell BK138.out 7).trans rfl
                          have hcz126_8 : wc.cell? ⟨gb138, 8, none⟩ = some (.slice A136_8 ((rd_T46 l1 x15_1).f8).length c136_8) := (blk_cell BK138.out 8).trans rfl
                          have hcz126_9 : wc.cell? ⟨gb138, 9, none⟩ = some (.slice A136_9 ((rd_T46 l1 x15_1).f9).length c136_9) := (blk_cell BK138.out 9).trans rfl
                          have hcz126_10 : wc.cell? ⟨gb138, 10, none⟩ = some (.slice A136_10 ((rd_T46 l1 x15_1).f10).length c136_10) := (blk_cell BK138.out 10).trans rfl
                          have hcz126_11 : wc.cell? ⟨gb138, 11, none⟩ = some (.int .u8 ((rd_T46 l1 x15_1).f11)) := (blk_cell BK138.out 11).trans rfl
                          have hcz126_12 : wc.cell? ⟨gb138, 12, none⟩ = some (.int .i64 ((rd_T46 l1 x15_1).f12)) := (blk_cell BK138.out 12).trans rfl
                          have hcz126_13 : wc.cell? ⟨gb138, 13, none⟩ = some (.int .i64 ((rd_T46 l1 x15_1).f13)) := (blk_cell BK138.out 13).trans rfl
                          have hfz126_0 := blk_frozen BK138.out 0
                          have hfz126_1 := blk_frozen BK138.out 1
                          have hfz126_2 := blk_frozen BK138.out 2
                          have hfz126_3 := blk_frozen BK138.out 3
                          have hfz126_4 := blk_frozen BK138.out 4
                          have hfz126_5 := blk_frozen BK138.out 5
                          have hfz126_6 := blk_frozen BK138.out 6
                          have hfz126_7 := blk_frozen BK138.out 7
                          have hfz126_8 := blk_frozen BK138.out 8
                          have hfz126_9 := blk_frozen BK138.out 9
                          have hfz126_10 := blk_frozen BK138.out 10
                          have hfz126_11 := blk_frozen BK138.out 11
                          have hfz126_12 := blk_frozen BK138.out 12
                          have hfz126_13 := blk_frozen BK138.out 13
                      case' n8_ =>
                        replace c82 := Bool.eq_false_iff.mpr c82
                        subst c82
                        have H1 : (some false) = some r := by rw [if_neg (show ¬ (false = true) by decide)] at H; exact H
                        clear H
                        have H := H1
                        clear H1
                        obtain rfl := Option.some.inj H
                        have hnb130 := NB137_138.out
                        have hnc130 := NB138_137.out
                        have hcz131_0 : wc.cell? ⟨gb137, 0, none⟩ = some (.int .i64 ((rd_T46 l0 x15_1).f0)) := (blk_cell BK137.out 0).trans rfl
                        have hcz131_1 : wc.cell? ⟨gb137, 1, none⟩ = some (.int .i64 ((rd_T46 l0 x15_1).f1)) := (blk_cell BK137.out 1).trans rfl
                        have hcz131_2 : wc.cell? ⟨gb137, 2, none⟩ = some (.string ((rd_T46 l0 x15_1).f2)) := (blk_cell BK137.out 2).trans rfl
                        have hcz131_3 : wc.cell? ⟨gb137, 3, none⟩ = some (.int .i64 ((rd_T46 l0 x15_1).f3)) := (blk_cell BK137.out 3).trans rfl
                        have hcz131_4 : wc.cell? ⟨gb137, 4, none⟩ = some (.slice A135_4 ((rd_T46 l0 x15_1).f4).length c135_4) := (blk_cell BK137.out 4).trans rfl
                        have hcz131_5 : wc.cell? ⟨gb137, 5, none⟩ = some (.slice A135_5 ((rd_T46 l0 x15_1).f5).length c135_5) := (blk_cell BK137.out 5).trans rfl
                        have hcz131_6 : wc.cell? ⟨gb137, 6, none⟩ = some (.slice A135_6 ((rd_T46 l0 x15_1).f6).length c135_6) := (blk_cell BK137.out 6).trans rfl
                        have hcz131_7 : wc.cell? ⟨gb137, 7, none⟩ = some (.slice A135_7 ((rd_T46 l0 x15_1).f7).length c135_7) := (blk_cell BK137.out 7).trans rfl
                        have hcz131_8 : wc.cell? ⟨gb137, 8, none⟩ = some (.slice A135_8 ((rd_T46 l0 x15_1).f8).length c135_8) := (blk_cell BK137.out 8).trans rfl
                        have hcz131_9 : wc.cell? ⟨gb137, 9, none⟩ = some (.slice A135_9 ((rd_T46 l0 x15_1).f9).length c135_9) := (blk_cell BK137.out 9).trans rfl
                        have hcz131_10 : wc.cell? ⟨gb137, 10, none⟩ = some (.slice A135_10 ((rd_T46 l0 x15_1).f10).length c135_10) := (blk_cell BK137.out 10).trans rfl
                        have hcz131_11 : wc.cell? ⟨gb137, 11, none⟩ = some (.int .u8 ((rd_T46 l0 x15_1).f11)) := (blk_cell BK137.out 11).trans rfl
                        have hcz131_12 : wc.cell? ⟨gb137, 12, none⟩ = some (.int .i64 ((rd_T46 l0 x15_1).f12)) := (blk_cell BK137.out 12).trans rfl
                        have hcz131_13 : wc.cell? ⟨gb137, 13, none⟩ = some (.int .i64 ((rd_T46 l0 x15_1).f13)) := (blk_cell BK137.out 13).trans rfl
                        have hfz131_0 := blk_frozen BK137.out 0
                        have hfz131_1 := blk_frozen BK137.out 1
                        have hfz131_2 := blk_frozen BK137.out 2
                        have hfz131_3 := blk_frozen BK137.out 3
                        have hfz131_4 := blk_frozen BK137.out 4
                        have hfz131_5 := blk_frozen BK137.out 5
                        have hfz131_6 := blk_frozen BK137.out 6
                        have hfz131_7 := blk_frozen BK137.out 7
                        have hfz131_8 := blk_frozen BK137.out 8
                        have hfz131_9 := blk_frozen BK137.out 9
                        have hfz131_10 := blk_frozen BK137.out 10
                        have hfz131_11 := blk_frozen BK137.out 11
                        have hfz131_12 := blk_frozen BK137.out 12
                        have hfz131_13 := blk_frozen BK137.out 13
                        have hcz132_0 : wc.cell? ⟨gb138, 0, none⟩ = some (.int .i64 ((rd_T46 l1 x15_1).f0)) := (blk_cell BK138.out 0).trans rfl
                        have hcz132_1 : wc.cell? ⟨gb138, 1, none⟩ = some (.int .i64 ((rd_T46 l1 x15_1).f1)) := (blk_cell BK138.out 1).trans rfl
                        have hcz132_2 : wc.cell? ⟨gb138, 2, none⟩ = some (.string ((rd_T46 l1 x15_1).f2)) := (blk_cell BK138.out 2).trans rfl
                        have hcz132_3 : wc.cell? ⟨gb138, 3, none⟩ = some (.int .i64 ((rd_T46 l1 x15_1).f3)) := (blk_cell BK138.out 3).trans rfl
                        have hcz132_4 : wc.cell? ⟨gb138, 4, none⟩ = some (.slice A136_4 ((rd_T46 l1 x15_1).f4).length c136_4) := (blk_cell BK138.out 4).trans rfl
                        have hcz132_5 : wc.cell? ⟨gb138, 5, none⟩ = some (.slice A136_5 ((rd_T46 l1 x15_1).f5).length c136_5) := (blk_cell BK138.out 5).trans rfl
                        have hcz132_6 : wc.cell? ⟨gb138, 6, none⟩ = some (.slice A136_6 ((rd_T46 l1 x15_1).f6).length c136_6) := (blk_cell BK138.out 6).trans rfl
                        have hcz132_7 : wc.cell? ⟨gb138, 7, none⟩ = some (.slice A136_7 ((rd_T46 l1 x15_1).f7).length c136_7) := (blk_cell BK138.out 7).trans rfl
                        have hcz132_8 : wc.cell? ⟨gb138, 8, none⟩ = some (.slice A136_8 ((rd_T46 l1 x15_1).f8).length c136_8) := (blk_cell BK138.out 8).trans rfl
                        have hcz132_9 : wc.cell? ⟨gb138, 9, none⟩ = some (.slice A136_9 ((rd_T46 l1 x15_1).f9).length c136_9) := (blk_cell BK138.out 9).trans rfl
                        have hcz132_10 : wc.cell? ⟨gb138, 10, none⟩ = some (.slice A136_10 ((rd_T46 l1 x15_1).f10).length c136_10) := (blk_cell BK138.out 10).trans rfl
                        have hcz132_11 : wc.cell? ⟨gb138, 11, none⟩ = some (.int .u8 ((rd_T46 l1 x15_1).f11)) := (blk_cell BK138.out 11).trans rfl
                        have hcz132_12 : wc.cell? ⟨gb138, 12, none⟩ = some (.int .i64 ((rd_T46 l1 x15_1).f12)) := (blk_cell BK138.out 12).trans rfl
                        have hcz132_13 : wc.cell? ⟨gb138, 13, none⟩ = some (.int .i64 ((rd_T46 l1 x15_1).f13)) := (blk_cell BK138.out 13).trans rfl
                        have hfz132_0 := blk_frozen BK138.out 0
                        have hfz132_1 := blk_frozen BK138.out 1
                        have hfz132_2 := blk_frozen BK138.out 2
                        have hfz132_3 := blk_frozen BK138.out 3
                        have hfz132_4 := blk_frozen BK138.out 4
                        have hfz132_5 := blk_frozen BK138.out 5
                        have hfz132_6 := blk_frozen BK138.out 6
                        have hfz132_7 := blk_frozen BK138.out 7
                        have hfz132_8 := blk_frozen BK138.out 8
                        have hfz132_9 := blk_frozen BK138.out 9
                        have hfz132_10 := blk_frozen BK138.out 10
                        have hfz132_11 := blk_frozen BK138.out 11
                        have hfz132_12 := blk_frozen BK138.out 12
                        have hfz132_13 := blk_frozen BK138.out 13
                    all_goals go_wp2_with (first | ((with_reducible refine gate_callee (f := 28) rfl ?_); refine goesL_ (some 70) rfl rfl Try.func28 (by kernel_rfl) rfl #[.slice A135_6 ((rd_T46 l0 x15_1).f6).length c135_6, .slice A136_6 ((rd_T46 l1 x15_1).f6).length c136_6] rfl (by (try simp only [List.map_toArray, List.map_cons, List.map_nil]); first | done | rfl | (simp only [List.length_drop, List.length_take]; rfl)) ?_; (with_reducible refine (relayref05_sameExprs.calls kj7 _ _ ((rd_T46 l0 x15_1).f6) _ _ ((rd_T46 l1 x15_1).f6) _ _ ?side1 ?side2 ?side3 ?side4 A81.out).mono ?_); (case side1 => repeat (first | exact (Kd.C_below HR135_6.out HB.out) | (with_reducible refine Kd.C_alloc ?_ _) | (with_reducible refine Kd.C_drewN ?_ _) | (with_reducible refine Kd.C_drew ?_))); (case side2 => exact HC135_6.out); (case side3 => repeat (first | exact (Kd.C_below HR136_6.out HB.out) | (with_reducible refine Kd.C_alloc ?_ _) | (with_reducible refine Kd.C_drewN ?_ _) | (with_reducible refine Kd.C_drew ?_))); (case side4 => exact HC136_6.out); rintro e w94 ⟨rfl, hb⟩; refine ⟨_, rfl, ?_⟩; have n0_ := Aside0.mk (blk_below (g := gb137) (o := .cells #[.int .i64 ((rd_T46 l0 x15_1).f0), .int .i64 ((rd_T46 l0 x15_1).f1), .string ((rd_T46 l0 x15_1).f2), .int .i64 ((rd_T46 l0 x15_1).f3), .slice A135_4 ((rd_T46 l0 x15_1).f4).length c135_4, .slice A135_5 ((rd_T46 l0 x15_1).f5).length c135_5, .slice A135_6 ((rd_T46 l0 x15_1).f6).length c135_6, .slice A135_7 ((rd_T46 l0 x15_1).f7).length c135_7, .slice A135_8 ((rd_T46 l0 x15_1).f8).length c135_8, .slice A135_9 ((rd_T46 l0 x15_1).f9).length c135_9, .slice A135_10 ((rd_T46 l0 x15_1).f10).length c135_10, .int .u8 ((rd_T46 l0 x15_1).f11), .int .i64 ((rd_T46 l0 x15_1).f12), .int .i64 ((rd_T46 l0 x15_1).f13)] 46 (0, 0)) (by (with_reducible repeat (first | refine blk_drewN ?_ _ | refine blk_drew ?_ | refine blk_alloc ?_ _)); exact BK137.out) hb); have n1_ := Aside0.mk (blk_below (g := gb138) (o := .cells #[.int .i64 ((rd_T46 l1 x15_1).f0), .int .i64 ((rd_T46 l1 x15_1).f1), .string ((rd_T46 l1 x15_1).f2), .int .i64 ((rd_T46 l1 x15_1).f3), .slice A136_4 ((rd_T46 l1 x15_1).f4).length c136_4, .slice A136_5 ((rd_T46 l1 x15_1).f5).length c136_5, .slice A136_6 ((rd_T46 l1 x15_1).f6).length c136_6, .slice A136_7 ((rd_T46 l1 x15_1).f7).length c136_7, .slice A136_8 ((rd_T46 l1 x15_1).f8).length c136_8, .slice A136_9 ((rd_T46 l1 x15_1).f9).length c136_9, .slice A136_10 ((rd_T46 l1 x15_1).f10).length c136_10, .int .u8 ((rd_T46 l1 x15_1).f11), .int .i64 ((rd_T46 l1 x15_1).f12), .int .i64 ((rd_T46 l1 x15_1).f13)] 46 (0, 0)) (by (with_reducible repeat (first | refine blk_drewN ?_ _ | refine blk_drew ?_ | refine blk_alloc ?_ _)); exact BK138.out) hb); have n2_ := Aside0.mk (below_step (by repeat (first | (with_reducible first | exact HB.out | apply below_alloc | apply pw_below_drewN | apply below_drew1 | refine below_set ?_ GE137.out | refine below_set ?_ GE138.out) | exact HB.out)) hb); clear BK137; clear BK138; clear HB; have BK137 := n0_; have BK138 := n1_; have HB := n2_; clear n0_ n1_ n2_; (try clear hb); (try clear hb2); (try clear hk); (try clear hi); have hcz95_0 : w94.cell? ⟨gb137, 0, none⟩ = some (.int .i64 ((rd_T46 l0 x15_1).f0)) := (blk_cell BK137.out 0).trans rfl; have hcz95_1 : w94.cell? ⟨gb137, 1, none⟩ = some (.int .i64 ((rd_T46 l0 x15_1).f1)) := (blk_cell BK137.out 1).trans rfl; have hcz95_2 : w94.cell? ⟨gb137, 2, none⟩ = some (.string ((rd_T46 l0 x15_1).f2)) := (blk_cell BK137.out 2).trans rfl; have hcz95_3 : w94.cell? ⟨gb137, 3, none⟩ = some (.int .i64 ((rd_T46 l0 x15_1).f3)) := (blk_cell BK137.out 3).trans rfl; have hcz95_4 : w94.cell? ⟨gb137, 4, none⟩ = some (.slice A135_4 ((rd_T46 l0 x15_1).f4).length c135_4) := (blk_cell BK137.out 4).trans rfl; have hcz95_5 : w94.cell? ⟨gb137, 5, none⟩ = some (.slice A135_5 ((rd_T46 l0 x15_1).f5).length c135_5) := (blk_cell BK137.out 5).trans rfl; have hcz95_6 : w94.cell? ⟨gb137, 6, none⟩ = some (.slice A135_6 ((rd_T46 l0 x15_1).f6).length c135_6) := (blk_cell BK137.out 6).trans rfl; have hcz95_7 : w94.cell? ⟨gb137, 7, none⟩ = some (.slice A135_7 ((rd_T46 l0 x15_1).f7).length c135_7) := (blk_cell BK137.out 7).trans rfl; have hcz95_8 : w94.cell? ⟨gb137, 8, none⟩ = some (.slice A135_8 ((rd_T46 l0 x15_1).f8).length c135_8) := (blk_cell BK137.out 8).trans rfl; have hcz95_9 : w94.cell? ⟨gb137, 9, none⟩ = some (.slice A135_9 ((rd_T46 l0 x15_1).f9).length c135_9) := (blk_cell BK137.out 9).trans rfl; have hcz95_10 : w94.cell? ⟨gb137, 10, none⟩ = some (.slice A135_10 ((rd_T46 l0 x15_1).f10).length c135_10) := (blk_cell BK137.out 10).trans rfl; have hcz95_11 : w94.cell? ⟨gb137, 11, none⟩ = some (.int .u8 ((rd_T46 l0 x15_1).f11)) := (blk_cell BK137.out 11).trans rfl; have hcz95_12 : w94.cell? ⟨gb137, 12, none⟩ = some (.int .i64 ((rd_T46 l0 x15_1).f12)) := (blk_cell BK137.out 12).trans rfl; have hcz95_13 : w94.cell? ⟨gb137, 13, none⟩ = some (.int .i64 ((rd_T46 l0 x15_1).f13)) := (blk_cell BK137.out 13).trans rfl; have hfz95_0 := blk_frozen BK137.out 0; have hfz95_1 := blk_frozen BK137.out 1; have hfz95_2 := blk_frozen BK137.out 2; have hfz95_3 := blk_frozen BK137.out 3; have hfz95_4 := blk_frozen BK137.out 4; have hfz95_5 := blk_frozen BK137.out 5; have hfz95_6 := blk_frozen BK137.out 6; have hfz95_7 := blk_frozen BK137.out 7; have hfz95_8 := blk_frozen BK137.out 8; have hfz95_9 := blk_frozen BK137.out 9; have hfz95_10 := blk_frozen BK137.out 10; have hfz95_11 := blk_frozen BK137.out 11; have hfz95_12 := blk_frozen BK137.out 12; have hfz95_13 := blk_frozen BK137.out 13; have hcz96_0 : w94.cell? ⟨gb138, 0, none⟩ = some (.int .i64 ((rd_T46 l1 x15_1).f0)) := (blk_cell BK138.out 0).trans rfl; have hcz96_1 : w94.cell? ⟨gb138, 1, none⟩ = some (.int .i64 ((rd_T46 l1 x15_1).f1)) := (blk_cell BK138.out 1).trans rfl; have hcz96_2 : w94.cell? ⟨gb138, 2, none⟩ = some (.string ((rd_T46 l1 x15_1).f2)) := (blk_cell BK138.out 2).trans rfl; have hcz96_3 : w94.cell? ⟨gb138, 3, none⟩ = some (.int .i64 ((rd_T46 l1 x15_1).f3)) := (blk_cell BK138.out 3).trans rfl; have hcz96_4 : w94.cell? ⟨gb138, 4, none⟩ = some (.slice A136_4 ((rd_T46 l1 x15_1).f4).length c136_4) := (blk_cell BK138.out 4).trans rfl; have hcz96_5 : w94.cell? ⟨gb138, 5, none⟩ = some (.slice A136_5 ((rd_T46 l1 x15_1).f5).length c136_5) := (blk_cell BK138.out 5).trans rfl; have hcz96_6 : w94.cell? ⟨gb138, 6, none⟩ = some (.slice A136_6 ((rd_T46 l1 x15_1).f6).length c136_6) := (blk_cell BK138.out 6).trans rfl; have hcz96_7 : w94.cell? ⟨gb138, 7, none⟩ = some (.slice A136_7 ((rd_T46 l1 x15_1).f7).length c136_7) := (blk_cell BK138.out 7).trans rfl; have hcz96_8 : w94.cell? ⟨gb138, 8, none⟩ = some (.slice A136_8 ((rd_T46 l1 x15_1).f8).length c136_8) := (blk_cell BK138.out 8).trans rfl; have hcz96_9 : w94.cell? ⟨gb138, 9, none⟩ = some (.slice A136_9 ((rd_T46 l1 x15_1).f9).length c136_9) := (blk_cell BK138.out 9).trans rfl; have hcz96_10 : w94.cell? ⟨gb138, 10, none⟩ = some (.slice A136_10 ((rd_T46 l1 x15_1).f10).length c136_10) := (blk_cell BK138.out 10).trans rfl; have hcz96_11 : w94.cell? ⟨gb138, 11, none⟩ = some (.int .u8 ((rd_T46 l1 x15_1).f11)) := (blk_cell BK138.out 11).trans rfl; have hcz96_12 : w94.cell? ⟨gb138, 12, none⟩ = some (.int .i64 ((rd_T46 l1 x15_1).f12)) := (blk_cell BK138.out 12).trans rfl; have hcz96_13 : w94.cell? ⟨gb138, 13, none⟩ = some (.int .i64 ((rd_T46 l1 x15_1).f13)) := (blk_cell BK138.out 13).trans rfl; have hfz96_0 := blk_frozen BK138.out 0; have hfz96_1 := blk_frozen BK138.out 1; have hfz96_2 := blk_frozen BK138.out 2; have hfz96_3 := blk_frozen BK138.out 3; have hfz96_4 := blk_frozen BK138.out 4; have hfz96_5 := blk_frozen BK138.out 5; have hfz96_6 := blk_frozen BK138.out 6; have hfz96_7 := blk_frozen BK138.out 7; have hfz96_8 := blk_frozen BK138.out 8; have hfz96_9 := blk_frozen BK138.out 9; have hfz96_10 := blk_frozen BK138.out 10; have hfz96_11 := blk_frozen BK138.out 11; have hfz96_12 := blk_frozen BK138.out 12; have hfz96_13 := blk_frozen BK138.out 13) | (go_at_call 29; (with_reducible refine (relayref05_sameTexts.calls kj7 _ _ ((rd_T46 l0 x15_1).f7) _ _ ((rd_T46 l1 x15_1).f7) _ _ ?side1 ?side2 ?side3 ?side4 A83.out).mono ?_); (case side1 => repeat (first | exact (Kd.C_below HR135_7.out HB.out) | (with_reducible refine Kd.C_alloc ?_ _) | (with_reducible refine Kd.C_drewN ?_ _) | (with_reducible refine Kd.C_drew ?_))); (case side2 => exact HC135_7.out); (case side3 => repeat (first | exact (Kd.C_below HR136_7.out HB.out) | (with_reducible refine Kd.C_alloc ?_ _) | (with_reducible refine Kd.C_drewN ?_ _) | (with_reducible refine Kd.C_drew ?_))); (case side4 => exact HC136_7.out); rintro e w' ⟨rfl, ⟨nd, rfl⟩⟩) | (go_at_call 30; (with_reducible refine (relayref05_sameRanges.calls kj7 _ _ ((rd_T46 l0 x15_1).f8) _ _ ((rd_T46 l1 x15_1).f8) _ _ ?side1 ?side2 ?side3 ?side4 A85.out).mono ?_); (case side1 => repeat (first | exact (Kd.C_below HR135_8.out (by repeat (first | (with_reducible first | exact HB.out | apply below_alloc | apply pw_below_drewN | apply below_drew1 | refine below_set ?_ GE137.out | refine below_set ?_ GE138.out) | exact HB.out))) | (with_reducible refine Kd.C_alloc ?_ _) | (with_reducible refine Kd.C_drewN ?_ _) | (with_reducible refine Kd.C_drew ?_))); (case side2 => exact HC135_8.out); (case side3 => repeat (first | exact (Kd.C_below HR136_8.out (by repeat (first | (with_reducible first | exact HB.out | apply below_alloc | apply pw_below_drewN | apply below_drew1 | refine below_set ?_ GE137.out | refine below_set ?_ GE138.out) | exact HB.out))) | (with_reducible refine Kd.C_alloc ?_ _) | (with_reducible refine Kd.C_drewN ?_ _) | (with_reducible refine Kd.C_drew ?_))); (case side4 => exact HC136_8.out); rintro e w' ⟨rfl, ⟨nd, rfl⟩⟩) | (go_at_call 11; (with_reducible refine (ih kj7 (by have := HK1.out; have := HJ7.out; omega) _ _ ((rd_T46 l0 x15_1).f9) _ _ ((rd_T46 l1 x15_1).f9) _ _ ?side1 ?side2 ?side3 ?side4 A87.out).mono ?_); (case side1 => repeat (first | exact (Kd.C_below HR135_9.out (by repeat (first | (with_reducible first | exact HB.out | apply below_alloc | apply pw_below_drewN | apply below_drew1 | refine below_set ?_ GE137.out | refine below_set ?_ GE138.out) | exact HB.out))) | (with_reducible refine Kd.C_alloc ?_ _) | (with_reducible refine Kd.C_drewN ?_ _) | (with_reducible refine Kd.C_drew ?_))); (case side2 => exact HC135_9.out); (case side3 => repeat (first | exact (Kd.C_below HR136_9.out (by repeat (first | (with_reducible first | exact HB.out | apply below_alloc | apply pw_below_drewN | apply below_drew1 | refine below_set ?_ GE137.out | refine below_set ?_ GE138.out) | exact HB.out))) | (with_reducible refine Kd.C_alloc ?_ _) | (with_reducible refine Kd.C_drewN ?_ _) | (with_reducible refine Kd.C_drew ?_))); (case side4 => exact HC136_9.out); rintro e w97 ⟨rfl, hb⟩; have n0_ := Aside0.mk (blk_below (g := gb137) (o := .cells #[.int .i64 ((rd_T46 l0 x15_1).f0), .int .i64 ((rd_T46 l0 x15_1).f1), .string ((rd_T46 l0 x15_1).f2), .int .i64 ((rd_T46 l0 x15_1).f3), .slice A135_4 ((rd_T46 l0 x15_1).f4).length c135_4, .slice A135_5 ((rd_T46 l0 x15_1).f5).length c135_5, .slice A135_6 ((rd_T46 l0 x15_1).f6).length c135_6, .slice A135_7 ((rd_T46 l0 x15_1).f7).length c135_7, .slice A135_8 ((rd_T46 l0 x15_1).f8).length c135_8, .slice A135_9 ((rd_T46 l0 x15_1).f9).length c135_9, .slice A135_10 ((rd_T46 l0 x15_1).f10).length c135_10, .int .u8 ((rd_T46 l0 x15_1).f11), .int .i64 ((rd_T46 l0 x15_1).f12), .int .i64 ((rd_T46 l0 x15_1).f13)] 46 (0, 0)) (by (with_reducible repeat (first | refine blk_drewN ?_ _ | refine blk_drew ?_ | refine blk_alloc ?_ _)); exact BK137.out) hb); have n1_ := Aside0.mk (blk_below (g := gb138) (o := .cells #[.int .i64 ((rd_T46 l1 x15_1).f0), .int .i64 ((rd_T46 l1 x15_1).f1), .string ((rd_T46 l1 x15_1).f2), .int .i64 ((rd_T46 l1 x15_1).f3), .slice A136_4 ((rd_T46 l1 x15_1).f4).length c136_4, .slice A136_5 ((rd_T46 l1 x15_1).f5).length c136_5, .slice A136_6 ((rd_T46 l1 x15_1).f6).length c136_6, .slice A136_7 ((rd_T46 l1 x15_1).f7).length c136_7, .slice A136_8 ((rd_T46 l1 x15_1).f8).length c136_8, .slice A136_9 ((rd_T46 l1 x15_1).f9).length c136_9, .slice A136_10 ((rd_T46 l1 x15_1).f10).length c136_10, .int .u8 ((rd_T46 l1 x15_1).f11), .int .i64 ((rd_T46 l1 x15_1).f12), .int .i64 ((rd_T46 l1 x15_1).f13)] 46 (0, 0)) (by (with_reducible repeat (first | refine blk_drewN ?_ _ | refine blk_drew ?_ | refine blk_alloc ?_ _)); exact BK138.out) hb); have n2_ := Aside0.mk (below_step (by repeat (first | (with_reducible first | exact HB.out | apply below_alloc | apply pw_below_drewN | apply below_drew1 | refine below_set ?_ GE137.out | refine below_set ?_ GE138.out) | exact HB.out)) hb); clear BK137; clear BK138; clear HB; have BK137 := n0_; have BK138 := n1_; have HB := n2_; clear n0_ n1_ n2_; (try clear hb); (try clear hb2); (try clear hk); (try clear hi); have hcz98_0 : w97.cell? ⟨gb137, 0, none⟩ = some (.int .i64 ((rd_T46 l0 x15_1).f0)) := (blk_cell BK137.out 0).trans rfl; have hcz98_1 : w97.cell? ⟨gb137, 1, none⟩ = some (.int .i64 ((rd_T46 l0 x15_1).f1)) := (blk_cell BK137.out 1).trans rfl; have hcz98_2 : w97.cell? ⟨gb137, 2, none⟩ = some (.string ((rd_T46 l0 x15_1).f2)) := (blk_cell BK137.out 2).trans rfl; have hcz98_3 : w97.cell? ⟨gb137, 3, none⟩ = some (.int .i64 ((rd_T46 l0 x15_1).f3)) := (blk_cell BK137.out 3).trans rfl; have hcz98_4 : w97.cell? ⟨gb137, 4, none⟩ = some (.slice A135_4 ((rd_T46 l0 x15_1).f4).length c135_4) := (blk_cell BK137.out 4).trans rfl; have hcz98_5 : w97.cell? ⟨gb137, 5, none⟩ = some (.slice A135_5 ((rd_T46 l0 x15_1).f5).length c135_5) := (blk_cell BK137.out 5).trans rfl; have hcz98_6 : w97.cell? ⟨gb137, 6, none⟩ = some (.slice A135_6 ((rd_T46 l0 x15_1).f6).length c135_6) := (blk_cell BK137.out 6).trans rfl; have hcz98_7 : w97.cell? ⟨gb137, 7, none⟩ = some (.slice A135_7 ((rd_T46 l0 x15_1).f7).length c135_7) := (blk_cell BK137.out 7).trans rfl; have hcz98_8 : w97.cell? ⟨gb137, 8, none⟩ = some (.slice A135_8 ((rd_T46 l0 x15_1).f8).length c135_8) := (blk_cell BK137.out 8).trans rfl; have hcz98_9 : w97.cell? ⟨gb137, 9, none⟩ = some (.slice A135_9 ((rd_T46 l0 x15_1).f9).length c135_9) := (blk_cell BK137.out 9).trans rfl; have hcz98_10 : w97.cell? ⟨gb137, 10, none⟩ = some (.slice A135_10 ((rd_T46 l0 x15_1).f10).length c135_10) := (blk_cell BK137.out 10).trans rfl; have hcz98_11 : w97.cell? ⟨gb137, 11, none⟩ = some (.int .u8 ((rd_T46 l0 x15_1).f11)) := (blk_cell BK137.out 11).trans rfl; have hcz98_12 : w97.cell? ⟨gb137, 12, none⟩ = some (.int .i64 ((rd_T46 l0 x15_1).f12)) := (blk_cell BK137.out 12).trans rfl; have hcz98_13 : w97.cell? ⟨gb137, 13, none⟩ = some (.int .i64 ((rd_T46 l0 x15_1).f13)) := (blk_cell BK137.out 13).trans rfl; have hfz98_0 := blk_frozen BK137.out 0; have hfz98_1 := blk_frozen BK137.out 1; have hfz98_2 := blk_frozen BK137.out 2; have hfz98_3 := blk_frozen BK137.out 3; have hfz98_4 := blk_frozen BK137.out 4; have hfz98_5 := blk_frozen BK137.out 5; have hfz98_6 := blk_frozen BK137.out 6; have hfz98_7 := blk_frozen BK137.out 7; have hfz98_8 := blk_frozen BK137.out 8; have hfz98_9 := blk_frozen BK137.out 9; have hfz98_10 := blk_frozen BK137.out 10; have hfz98_11 := blk_frozen BK137.out 11; have hfz98_12 := blk_frozen BK137.out 12; have hfz98_13 := blk_frozen BK137.out 13; have hcz99_0 : w97.cell? ⟨gb138, 0, none⟩ = some (.int .i64 ((rd_T46 l1 x15_1).f0)) := (blk_cell BK138.out 0).trans rfl; have hcz99_1 : w97.cell? ⟨gb138, 1, none⟩ = some (.int .i64 ((rd_T46 l1 x15_1).f1)) := (blk_cell BK138.out 1).trans rfl; have hcz99_2 : w97.cell? ⟨gb138, 2, none⟩ = some (.string ((rd_T46 l1 x15_1).f2)) := (blk_cell BK138.out 2).trans rfl; have hcz99_3 : w97.cell? ⟨gb138, 3, none⟩ = some (.int .i64 ((rd_T46 l1 x15_1).f3)) := (blk_cell BK138.out 3).trans rfl; have hcz99_4 : w97.cell? ⟨gb138, 4, none⟩ = some (.slice A136_4 ((rd_T46 l1 x15_1).f4).length c136_4) := (blk_cell BK138.out 4).trans rfl; have hcz99_5 : w97.cell? ⟨gb138, 5, none⟩ = some (.slice A136_5 ((rd_T46 l1 x15_1).f5).length c136_5) := (blk_cell BK138.out 5).trans rfl; have hcz99_6 : w97.cell? ⟨gb138, 6, none⟩ = some (.slice A136_6 ((rd_T46 l1 x15_1).f6).length c136_6) := (blk_cell BK138.out 6).trans rfl; have hcz99_7 : w97.cell? ⟨gb138, 7, none⟩ = some (.slice A136_7 ((rd_T46 l1 x15_1).f7).length c136_7) := (blk_cell BK138.out 7).trans rfl; have hcz99_8 : w97.cell? ⟨gb138, 8, none⟩ = some (.slice A136_8 ((rd_T46 l1 x15_1).f8).length c136_8) := (blk_cell BK138.out 8).trans rfl; have hcz99_9 : w97.cell? ⟨gb138, 9, none⟩ = some (.slice A136_9 ((rd_T46 l1 x15_1).f9).length c136_9) := (blk_cell BK138.out 9).trans rfl; have hcz99_10 : w97.cell? ⟨gb138, 10, none⟩ = some (.slice A136_10 ((rd_T46 l1 x15_1).f10).length c136_10) := (blk_cell BK138.out 10).trans rfl; have hcz99_11 : w97.cell? ⟨gb138, 11, none⟩ = some (.int .u8 ((rd_T46 l1 x15_1).f11)) := (blk_cell BK138.out 11).trans rfl; have hcz99_12 : w97.cell? ⟨gb138, 12, none⟩ = some (.int .i64 ((rd_T46 l1 x15_1).f12)) := (blk_cell BK138.out 12).trans rfl; have hcz99_13 : w97.cell? ⟨gb138, 13, none⟩ = some (.int .i64 ((rd_T46 l1 x15_1).f13)) := (blk_cell BK138.out 13).trans rfl; have hfz99_0 := blk_frozen BK138.out 0; have hfz99_1 := blk_frozen BK138.out 1; have hfz99_2 := blk_frozen BK138.out 2; have hfz99_3 := blk_frozen BK138.out 3; have hfz99_4 := blk_frozen BK138.out 4; have hfz99_5 := blk_frozen BK138.out 5; have hfz99_6 := blk_frozen BK138.out 6; have hfz99_7 := blk_frozen BK138.out 7; have hfz99_8 := blk_frozen BK138.out 8; have hfz99_9 := blk_frozen BK138.out 9; have hfz99_10 := blk_frozen BK138.out 10; have hfz99_11 := blk_frozen BK138.out 11; have hfz99_12 := blk_frozen BK138.out 12; have hfz99_13 := blk_frozen BK138.out 13) | (go_at_call 11; (with_reducible refine (ih kj7 (by have := HK1.out; have := HJ7.out; omega) _ _ ((rd_T46 l0 x15_1).f10) _ _ ((rd_T46 l1 x15_1).f10) _ _ ?side1 ?side2 ?side3 ?side4 A89.out).mono ?_); (case side1 => repeat (first | exact (Kd.C_below HR135_10.out HB.out) | (with_reducible refine Kd.C_alloc ?_ _) | (with_reducible refine Kd.C_drewN ?_ _) | (with_reducible refine Kd.C_drew ?_))); (case side2 => exact HC135_10.out); (case side3 => repeat (first | exact (Kd.C_below HR136_10.out HB.out) | (with_reducible refine Kd.C_alloc ?_ _) | (with_reducible refine Kd.C_drewN ?_ _) | (with_reducible refine Kd.C_drew ?_))); (case side4 => exact HC136_10.out); rintro e w100 ⟨rfl, hb⟩; have n0_ := Aside0.mk (blk_below (g := gb137) (o := .cells #[.int .i64 ((rd_T46 l0 x15_1).f0), .int .i64 ((rd_T46 l0 x15_1).f1), .string ((rd_T46 l0 x15_1).f2), .int .i64 ((rd_T46 l0 x15_1).f3), .slice A135_4 ((rd_T46 l0 x15_1).f4).length c135_4, .slice A135_5 ((rd_T46 l0 x15_1).f5).length c135_5, .slice A135_6 ((rd_T46 l0 x15_1).f6).length c135_6, .slice A135_7 ((rd_T46 l0 x15_1).f7).length c135_7, .slice A135_8 ((rd_T46 l0 x15_1).f8).length c135_8, .slice A135_9 ((rd_T46 l0 x15_1).f9).length c135_9, .slice A135_10 ((rd_T46 l0 x15_1).f10).length c135_10, .int .u8 ((rd_T46 l0 x15_1).f11), .int .i64 ((rd_T46 l0 x15_1).f12), .int .i64 ((rd_T46 l0 x15_1).f13)] 46 (0, 0)) (by (with_reducible repeat (first | refine blk_drewN ?_ _ | refine blk_drew ?_ | refine blk_alloc ?_ _)); exact BK137.out) hb); have n1_ := Aside0.mk (blk_below (g := gb138) (o := .cells #[.int .i64 ((rd_T46 l1 x15_1).f0), .int .i64 ((rd_T46 l1 x15_1).f1), .string ((rd_T46 l1 x15_1).f2), .int .i64 ((rd_T46 l1 x15_1).f3), .slice A136_4 ((rd_T46 l1 x15_1).f4).length c136_4, .slice A136_5 ((rd_T46 l1 x15_1).f5).length c136_5, .slice A136_6 ((rd_T46 l1 x15_1).f6).length c136_6, .slice A136_7 ((rd_T46 l1 x15_1).f7).length c136_7, .slice A136_8 ((rd_T46 l1 x15_1).f8).length c136_8, .slice A136_9 ((rd_T46 l1 x15_1).f9).length c136_9, .slice A136_10 ((rd_T46 l1 x15_1).f10).length c136_10, .int .u8 ((rd_T46 l1 x15_1).f11), .int .i64 ((rd_T46 l1 x15_1).f12), .int .i64 ((rd_T46 l1 x15_1).f13)] 46 (0, 0)) (by (with_reducible repeat (first | refine blk_drewN ?_ _ | refine blk_drew ?_ | refine blk_alloc ?_ _)); exact BK138.out) hb); have n2_ := Aside0.mk (below_step (by repeat (first | (with_reducible first | exact HB.out | apply below_alloc | apply pw_below_drewN | apply below_drew1 | refine below_set ?_ GE137.out | refine below_set ?_ GE138.out) | exact HB.out)) hb); clear BK137; clear BK138; clear HB; have BK137 := n0_; have BK138 := n1_; have HB := n2_; clear n0_ n1_ n2_; (try clear hb); (try clear hb2); (try clear hk); (try clear hi)) | (go_at_call 11; (with_reducible refine (ih kj7 (by have := HK1.out; have := HJ7.out; omega) _ _ ((rd_T46 l0 x15_1).f10) _ _ ((rd_T46 l1 x15_1).f10) _ _ ?side1 ?side2 ?side3 ?side4 A89.out).mono ?_); (case side1 => repeat (first | exact (Kd.C_below HR135_10.out HB.out) | (with_reducible refine Kd.C_alloc ?_ _) | (with_reducible refine Kd.C_drewN ?_ _) | (with_reducible refine Kd.C_drew ?_))); (case side2 => exact HC135_10.out); (case side3 => repeat (first | exact (Kd.C_below HR136_10.out HB.out) | (with_reducible refine Kd.C_alloc ?_ _) | (with_reducible refine Kd.C_drewN ?_ _) | (with_reducible refine Kd.C_drew ?_))); (case side4 => exact HC136_10.out); rintro e w110 ⟨rfl, hb⟩; have n0_ := Aside0.mk (blk_below (g := gb137) (o := .cells #[.int .i64 ((rd_T46 l0 x15_1).f0), .int .i64 ((rd_T46 l0 x15_1).f1), .string ((rd_T46 l0 x15_1).f2), .int .i64 ((rd_T46 l0 x15_1).f3), .slice A135_4 ((rd_T46 l0 x15_1).f4).length c135_4, .slice A135_5 ((rd_T46 l0 x15_1).f5).length c135_5, .slice A135_6 ((rd_T46 l0 x15_1).f6).length c135_6, .slice A135_7 ((rd_T46 l0 x15_1).f7).length c135_7, .slice A135_8 ((rd_T46 l0 x15_1).f8).length c135_8, .slice A135_9 ((rd_T46 l0 x15_1).f9).length c135_9, .slice A135_10 ((rd_T46 l0 x15_1).f10).length c135_10, .int .u8 ((rd_T46 l0 x15_1).f11), .int .i64 ((rd_T46 l0 x15_1).f12), .int .i64 ((rd_T46 l0 x15_1).f13)] 46 (0, 0)) (by (with_reducible repeat (first | refine blk_drewN ?_ _ | refine blk_drew ?_ | refine blk_alloc ?_ _)); exact BK137.out) hb); have n1_ := Aside0.mk (blk_below (g := gb138) (o := .cells #[.int .i64 ((rd_T46 l1 x15_1).f0), .int .i64 ((rd_T46 l1 x15_1).f1), .string ((rd_T46 l1 x15_1).f2), .int .i64 ((rd_T46 l1 x15_1).f3), .slice A136_4 ((rd_T46 l1 x15_1).f4).length c136_4, .slice A136_5 ((rd_T46 l1 x15_1).f5).length c136_5, .slice A136_6 ((rd_T46 l1 x15_1).f6).length c136_6, .slice A136_7 ((rd_T46 l1 x15_1).f7).length c136_7, .slice A136_8 ((rd_T46 l1 x15_1).f8).length c136_8, .slice A136_9 ((rd_T46 l1 x15_1).f9).length c136_9, .slice A136_10 ((rd_T46 l1 x15_1).f10).length c136_10, .int .u8 ((rd_T46 l1 x15_1).f11), .int .i64 ((rd_T46 l1 x15_1).f12), .int .i64 ((rd_T46 l1 x15_1).f13)] 46 (0, 0)) (by (with_reducible repeat (first | refine blk_drewN ?_ _ | refine blk_drew ?_ | refine blk_alloc ?_ _)); exact BK138.out) hb); have n2_ := Aside0.mk (below_step (by repeat (first | (with_reducible first | exact HB.out | apply below_alloc | apply pw_below_drewN | apply below_drew1 | refine below_set ?_ GE137.out | refine below_set ?_ GE138.out) | exact HB.out)) hb); clear BK137; clear BK138; clear HB; have BK137 := n0_; have BK138 := n1_; have HB := n2_; clear n0_ n1_ n2_; (try clear hb); (try clear hb2); (try clear hk); (try clear hi)) | (go_at_call 11; (with_reducible refine (ih kj7 (by have := HK1.out; have := HJ7.out; omega) _ _ ((rd_T46 l0 x15_1).f9) _ _ ((rd_T46 l1 x15_1).f9) _ _ ?side1 ?side2 ?side3 ?side4 A87.out).mono ?_); (case side1 => repeat (first | exact (Kd.C_below HR135_9.out (by repeat (first | (with_reducible first | exact HB.out | apply below_alloc | apply pw_below_drewN | apply below_drew1 | refine below_set ?_ GE137.out | refine below_set ?_ GE138.out) | exact HB.out))) | (with_reducible refine Kd.C_alloc ?_ _) | (with_reducible refine Kd.C_drewN ?_ _) | (with_reducible refine Kd.C_drew ?_))); (case side2 => exact HC135_9.out); (case side3 => repeat (first | exact (Kd.C_below HR136_9.out (by repeat (first | (with_reducible first | exact HB.out | apply below_alloc | apply pw_below_drewN | apply below_drew1 | refine below_set ?_ GE137.out | refine below_set ?_ GE138.out) | exact HB.out))) | (with_reducible refine Kd.C_alloc ?_ _) | (with_reducible refine Kd.C_drewN ?_ _) | (with_reducible refine Kd.C_drew ?_))); (case side4 => exact HC136_9.out); rintro e w117 ⟨rfl, hb⟩; have n0_ := Aside0.mk (blk_below (g := gb137) (o := .cells #[.int .i64 ((rd_T46 l0 x15_1).f0), .int .i64 ((rd_T46 l0 x15_1).f1), .string ((rd_T46 l0 x15_1).f2), .int .i64 ((rd_T46 l0 x15_1).f3), .slice A135_4 ((rd_T46 l0 x15_1).f4).length c135_4, .slice A135_5 ((rd_T46 l0 x15_1).f5).length c135_5, .slice A135_6 ((rd_T46 l0 x15_1).f6).length c135_6, .slice A135_7 ((rd_T46 l0 x15_1).f7).length c135_7, .slice A135_8 ((rd_T46 l0 x15_1).f8).length c135_8, .slice A135_9 ((rd_T46 l0 x15_1).f9).length c135_9, .slice A135_10 ((rd_T46 l0 x15_1).f10).length c135_10, .int .u8 ((rd_T46 l0 x15_1).f11), .int .i64 ((rd_T46 l0 x15_1).f12), .int .i64 ((rd_T46 l0 x15_1).f13)] 46 (0, 0)) (by (with_reducible repeat (first | refine blk_drewN ?_ _ | refine blk_drew ?_ | refine blk_alloc ?_ _)); exact BK137.out) hb); have n1_ := Aside0.mk (blk_below (g := gb138) (o := .cells #[.int .i64 ((rd_T46 l1 x15_1).f0), .int .i64 ((rd_T46 l1 x15_1).f1), .string ((rd_T46 l1 x15_1).f2), .int .i64 ((rd_T46 l1 x15_1).f3), .slice A136_4 ((rd_T46 l1 x15_1).f4).length c136_4, .slice A136_5 ((rd_T46 l1 x15_1).f5).length c136_5, .slice A136_6 ((rd_T46 l1 x15_1).f6).length c136_6, .slice A136_7 ((rd_T46 l1 x15_1).f7).length c136_7, .slice A136_8 ((rd_T46 l1 x15_1).f8).length c136_8, .slice A136_9 ((rd_T46 l1 x15_1).f9).length c136_9, .slice A136_10 ((rd_T46 l1 x15_1).f10).length c136_10, .int .u8 ((rd_T46 l1 x15_1).f11), .int .i64 ((rd_T46 l1 x15_1).f12), .int .i64 ((rd_T46 l1 x15_1).f13)] 46 (0, 0)) (by (with_reducible repeat (first | refine blk_drewN ?_ _ | refine blk_drew ?_ | refine blk_alloc ?_ _)); exact BK138.out) hb); have n2_ := Aside0.mk (below_step (by repeat (first | (with_reducible first | exact HB.out | apply below_alloc | apply pw_below_drewN | apply below_drew1 | refine below_set ?_ GE137.out | refine below_set ?_ GE138.out) | exact HB.out)) hb); clear BK137; clear BK138; clear HB; have BK137 := n0_; have BK138 := n1_; have HB := n2_; clear n0_ n1_ n2_; (try clear hb); (try clear hb2); (try clear hk); (try clear hi)) | (go_at_call 30; (with_reducible refine (relayref05_sameRanges.calls kj7 _ _ ((rd_T46 l0 x15_1).f8) _ _ ((rd_T46 l1 x15_1).f8) _ _ ?side1 ?side2 ?side3 ?side4 A85.out).mono ?_); (case side1 => repeat (first | exact (Kd.C_below HR135_8.out (by repeat (first | (with_reducible first | exact HB.out | apply below_alloc | apply pw_below_drewN | apply below_drew1 | refine below_set ?_ GE137.out | refine below_set ?_ GE138.out) | exact HB.out))) | (with_reducible refine Kd.C_alloc ?_ _) | (with_reducible refine Kd.C_drewN ?_ _) | (with_reducible refine Kd.C_drew ?_))); (case side2 => exact HC135_8.out); (case side3 => repeat (first | exact (Kd.C_below HR136_8.out (by repeat (first | (with_reducible first | exact HB.out | apply below_alloc | apply pw_below_drewN | apply below_drew1 | refine below_set ?_ GE137.out | refine below_set ?_ GE138.out) | exact HB.out))) | (with_reducible refine Kd.C_alloc ?_ _) | (with_reducible refine Kd.C_drewN ?_ _) | (with_reducible refine Kd.C_drew ?_))); (case side4 => exact HC136_8.out); rintro e w' ⟨rfl, ⟨nd, rfl⟩⟩) | (go_at_call 29; (with_reducible refine (relayref05_sameTexts.calls kj7 _ _ ((rd_T46 l0 x15_1).f7) _ _ ((rd_T46 l1 x15_1).f7) _ _ ?side1 ?side2 ?side3 ?side4 A83.out).mono ?_); (case side1 => repeat (first | exact (Kd.C_below HR135_7.out HB.out) | (with_reducible refine Kd.C_alloc ?_ _) | (with_reducible refine Kd.C_drewN ?_ _) | (with_reducible refine Kd.C_drew ?_))); (case side2 => exact HC135_7.out); (case side3 => repeat (first | exact (Kd.C_below HR136_7.out HB.out) | (with_reducible refine Kd.C_alloc ?_ _) | (with_reducible refine Kd.C_drewN ?_ _) | (with_reducible refine Kd.C_drew ?_))); (case side4 => exact HC136_7.out); rintro e w' ⟨rfl, ⟨nd, rfl⟩⟩) | ((with_reducible refine gate_callee (f := 28) rfl ?_); refine goesL_ (some 70) rfl rfl Try.func28 (by kernel_rfl) rfl #[.slice A135_6 ((rd_T46 l0 x15_1).f6).length c135_6, .slice A136_6 ((rd_T46 l1 x15_1).f6).length c136_6] rfl (by (try simp only [List.map_toArray, List.map_cons, List.map_nil]); first | done | rfl | (simp only [List.length_drop, List.length_take]; rfl)) ?_; (with_reducible refine (relayref05_sameExprs.calls kj7 _ _ ((rd_T46 l0 x15_1).f6) _ _ ((rd_T46 l1 x15_1).f6) _ _ ?side1 ?side2 ?side3 ?side4 A81.out).mono ?_); (case side1 => repeat (first | exact (Kd.C_below HR135_6.out HB.out) | (with_reducible refine Kd.C_alloc ?_ _) | (with_reducible refine Kd.C_drewN ?_ _) | (with_reducible refine Kd.C_drew ?_))); (case side2 => exact HC135_6.out); (case side3 => repeat (first | exact (Kd.C_below HR136_6.out HB.out) | (with_reducible refine Kd.C_alloc ?_ _) | (with_reducible refine Kd.C_drewN ?_ _) | (with_reducible refine Kd.C_drew ?_))); (case side4 => exact HC136_6.out); rintro e w133 ⟨rfl, hb⟩; refine ⟨_, rfl, ?_⟩; have n0_ := Aside0.mk (blk_below (g := gb137) (o := .cells #[.int .i64 ((rd_T46 l0 x15_1).f0), .int .i64 ((rd_T46 l0 x15_1).f1), .string ((rd_T46 l0 x15_1).f2), .int .i64 ((rd_T46 l0 x15_1).f3), .slice A135_4 ((rd_T46 l0 x15_1).f4).length c135_4, .slice A135_5 ((rd_T46 l0 x15_1).f5).length c135_5, .slice A135_6 ((rd_T46 l0 x15_1).f6).length c135_6, .slice A135_7 ((rd_T46 l0 x15_1).f7).length c135_7, .slice A135_8 ((rd_T46 l0 x15_1).f8).length c135_8, .slice A135_9 ((rd_T46 l0 x15_1).f9).length c135_9, .slice A135_10 ((rd_T46 l0 x15_1).f10).length c135_10, .int .u8 ((rd_T46 l0 x15_1).f11), .int .i64 ((rd_T46 l0 x15_1).f12), .int .i64 ((rd_T46 l0 x15_1).f13)] 46 (0, 0)) (by (with_reducible repeat (first | refine blk_drewN ?_ _ | refine blk_drew ?_ | refine blk_alloc ?_ _)); exact BK137.out) hb); have n1_ := Aside0.mk (blk_below (g := gb138) (o := .cells #[.int .i64 ((rd_T46 l1 x15_1).f0), .int .i64 ((rd_T46 l1 x15_1).f1), .string ((rd_T46 l1 x15_1).f2), .int .i64 ((rd_T46 l1 x15_1).f3), .slice A136_4 ((rd_T46 l1 x15_1).f4).length c136_4, .slice A136_5 ((rd_T46 l1 x15_1).f5).length c136_5, .slice A136_6 ((rd_T46 l1 x15_1).f6).length c136_6, .slice A136_7 ((rd_T46 l1 x15_1).f7).length c136_7, .slice A136_8 ((rd_T46 l1 x15_1).f8).length c136_8, .slice A136_9 ((rd_T46 l1 x15_1).f9).length c136_9, .slice A136_10 ((rd_T46 l1 x15_1).f10).length c136_10, .int .u8 ((rd_T46 l1 x15_1).f11), .int .i64 ((rd_T46 l1 x15_1).f12), .int .i64 ((rd_T46 l1 x15_1).f13)] 46 (0, 0)) (by (with_reducible repeat (first | refine blk_drewN ?_ _ | refine blk_drew ?_ | refine blk_alloc ?_ _)); exact BK138.out) hb); have n2_ := Aside0.mk (below_step (by repeat (first | (with_reducible first | exact HB.out | apply below_alloc | apply pw_below_drewN | apply below_drew1 | refine below_set ?_ GE137.out | refine below_set ?_ GE138.out) | exact HB.out)) hb); clear BK137; clear BK138; clear HB; have BK137 := n0_; have BK138 := n1_; have HB := n2_; clear n0_ n1_ n2_; (try clear hb); (try clear hb2); (try clear hk); (try clear hi)))
                    all_goals first
                      | (go_roundg kj7
                         case measure => have := HK1.out; have := HJ7.out; omega
                         case rel => exact ⟨(wrap64 (x15_1 + 1)), (by first | rfl | (simp; done) | (simp [*]; done) | (simp [*, bne]; done)), H', ⟨by have := HK1.out; have := HJ7.out; omega⟩, ⟨by repeat (first | (with_reducible first | exact HB.out | apply below_alloc | apply pw_below_drewN | apply below_drew1 | refine below_set ?_ GE137.out | refine below_set ?_ GE138.out) | exact HB.out)⟩⟩)
                      | (go_ret
                         exact ⟨by first | rfl | (simp [errW_none, errW_some] <;> rfl) | (simp [*, errW_none, errW_some] <;> rfl), by repeat (first | (with_reducible first | exact HB.out | apply below_alloc | apply pw_below_drewN | apply below_drew1 | refine below_set ?_ GE137.out | refine below_set ?_ GE138.out) | exact HB.out)⟩)
              · rw [if_neg c7] at H
                exact absurd H (by simp)
            · rw [if_neg c6] at H
              exact absurd H (by simp)
          · rw [if_neg c5] at H
            exact absurd H (by simp)
        · rw [if_neg c4] at H
          have c4b0 : decide (x15_1 < (l0.length : Int)) = false := decide_eq_false c4
          clear c4
          obtain rfl := Option.some.inj H
          go_wp2
          go_ret
          exact ⟨by first | rfl | (simp [errW_none, errW_some] <;> rfl) | (simp [*, errW_none, errW_some] <;> rfl), by repeat (first | (with_reducible first | exact HB.out | apply below_alloc | apply pw_below_drewN | apply below_drew1) | exact HB.out)⟩
  · rw [if_neg c3] at H
    have c3b0 : ((l0.length : Int) == (l1.length : Int)) = false := beq_eq_false_iff_ne.mpr c3
    have c3b1 : ((l0.length : Int) != (l1.length : Int)) = true := bne_iff_ne.mpr c3
    have c3b2 : (l0.length == l1.length) = false := by first | simpa using c3 | (simp at c3 ⊢; omega)
    obtain rfl := Option.some.inj H
    go_enter Try.func11, Try.ntmps11
    go_wp2
    go_ret
    exact ⟨by first | rfl | (simp [errW_none, errW_some] <;> rfl) | (simp [*, errW_none, errW_some] <;> rfl), by repeat (first | (with_reducible first | exact HB.out | apply below_alloc | apply pw_below_drewN | apply below_drew1) | exact HB.out)⟩

end Go.Proofs.Ytmdkbhbconnmmaa.XSame
