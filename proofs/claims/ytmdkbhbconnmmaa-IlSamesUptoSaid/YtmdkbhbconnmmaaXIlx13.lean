-- WRITTEN BY wip/tools/xprint.py out of the translation: the kit's print with this work's hooks.
import Derived.Test.YtmdkbhbconnmmaaXIlx0
import Derived.Test.YtmdkbhbconnmmaaXIlx10
import Derived.Test.YtmdkbhbconnmmaaXIlx11
import Derived.Test.YtmdkbhbconnmmaaXIlx12
namespace Go.Proofs.Ytmdkbhbconnmmaa.XIl
open Go.RowKit Go.Proofs.YtmdkbhbconnmmaaW.PrintWords Go.Proofs.YtmdkbhbconnmmaaW.PrintLast Go.Proofs.YtmdkbhbconnmmaaW.PrintMore
attribute [local go_sem] max2_int min2_int max_two min_two max_three min_three max_four min_four   -- for this text's walks alone
set_option linter.unusedVariables false
set_option linter.unusedSimpArgs false

/-! ### relayref05_Same: function 11 -/
theorem wantedN_ {o : Oper} {y : Nat → Option Bool} (h : o.guard = none) : Region.wanted o y = true := by
 unfold Region.wanted
 rw [h]
/-- As skip_, for an operation without a guard. -/
theorem skipN_ {P : Program} {ops : Array Oper} {Q : Exit → Act → World → Prop} {oi : Oper} {a : Act} {w w1 : World} {K : Act → World → Prop} (hg : oi.guard = none) (hN : oi.dst = none) (hrun : (execOp a.eval oi).run P w = .ok .skip w1)
 (h : K a w1) : if Region.wanted oi (yielded ops a.tmps) = true then Oper.wp P oi a w K Q else K (a.put none undef) w := skip_ (wantedN_ hg) hN hrun h
mutual
def relayref05_Same.l0 : Nat → List (S46) → List (S46) → Int → Int → Option (Bool)
 | 0, _, _, _, _ => none
 | k + 1, x0, x1, x14, x15 => if x15 < x14 then (if 0 ≤ x15 then (if x15 < (x0.length : Int) then (if x15 < (x1.length : Int) then (if ((rd_T46 x0 x15).f0) = ((rd_T46 x1 x15).f0) then (if ((rd_T46 x0 x15).f2).toList = ((rd_T46 x1 x15).f2).toList then (if ((rd_T46 x0 x15).f0) = 5 then ((relayref05_sameExprs.f k ((rd_T46 x0 x15).f4) ((rd_T46 x1 x15).f4)).bind fun t139 => (if t139 = true then ((relayref05_sameTexts.f k ((rd_T46 x0 x15).f5) ((rd_T46 x1 x15).f5)).bind fun t140 => (relayref05_Same.j1 k x0 x1 x14 x15 (!t140) ((rd_T46 x0 x15).f0) ((rd_T46 x0 x15).f1) ((rd_T46 x0 x15).f2) ((rd_T46 x0 x15).f3) ((rd_T46 x0 x15).f4) ((rd_T46 x0 x15).f5) ((rd_T46 x0 x15).f6) ((rd_T46 x0 x15).f7) ((rd_T46 x0 x15).f8) ((rd_T46 x0 x15).f9) ((rd_T46 x0 x15).f10) ((rd_T46 x0 x15).f11) ((rd_T46 x0 x15).f12) ((rd_T46 x0 x15).f13) ((rd_T46 x1 x15).f0) ((rd_T46 x1 x15).f1) ((rd_T46 x1 x15).f2) ((rd_T46 x1 x15).f3) ((rd_T46 x1 x15).f4) ((rd_T46 x1 x15).f5) ((rd_T46 x1 x15).f6) ((rd_T46 x1 x15).f7) ((rd_T46 x1 x15).f8) ((rd_T46 x1 x15).f9) ((rd_T46 x1 x15).f10) ((rd_T46 x1 x15).f11) ((rd_T46 x1 x15).f12) ((rd_T46 x1 x15).f13))) else (relayref05_Same.j1 k x0 x1 x14 x15 true ((rd_T46 x0 x15).f0) ((rd_T46 x0 x15).f1) ((rd_T46 x0 x15).f2) ((rd_T46 x0 x15).f3) ((rd_T46 x0 x15).f4) ((rd_T46 x0 x15).f5) ((rd_T46 x0 x15).f6) ((rd_T46 x0 x15).f7) ((rd_T46 x0 x15).f8) ((rd_T46 x0 x15).f9) ((rd_T46 x0 x15).f10) ((rd_T46 x0 x15).f11) ((rd_T46 x0 x15).f12) ((rd_T46 x0 x15).f13) ((rd_T46 x1 x15).f0) ((rd_T46 x1 x15).f1) ((rd_T46 x1 x15).f2) ((rd_T46 x1 x15).f3) ((rd_T46 x1 x15).f4) ((rd_T46 x1 x15).f5) ((rd_T46 x1 x15).f6) ((rd_T46 x1 x15).f7) ((rd_T46 x1 x15).f8) ((rd_T46 x1 x15).f9) ((rd_T46 x1 x15).f10) ((rd_T46 x1 x15).f11) ((rd_T46 x1 x15).f12) ((rd_T46 x1 x15).f13)))) else (if ((rd_T46 x0 x15).f3) = ((rd_T46 x1 x15).f3) then ((relayref05_sameExprs.f k ((rd_T46 x0 x15).f4) ((rd_T46 x1 x15).f4)).bind fun t141 => (if t141 = true then ((relayref05_sameTexts.f k ((rd_T46 x0 x15).f5) ((rd_T46 x1 x15).f5)).bind fun t142 => (relayref05_Same.j1 k x0 x1 x14 x15 (!t142) ((rd_T46 x0 x15).f0) ((rd_T46 x0 x15).f1) ((rd_T46 x0 x15).f2) ((rd_T46 x0 x15).f3) ((rd_T46 x0 x15).f4) ((rd_T46 x0 x15).f5) ((rd_T46 x0 x15).f6) ((rd_T46 x0 x15).f7) ((rd_T46 x0 x15).f8) ((rd_T46 x0 x15).f9) ((rd_T46 x0 x15).f10) ((rd_T46 x0 x15).f11) ((rd_T46 x0 x15).f12) ((rd_T46 x0 x15).f13) ((rd_T46 x1 x15).f0) ((rd_T46 x1 x15).f1) ((rd_T46 x1 x15).f2) ((rd_T46 x1 x15).f3) ((rd_T46 x1 x15).f4) ((rd_T46 x1 x15).f5) ((rd_T46 x1 x15).f6) ((rd_T46 x1 x15).f7) ((rd_T46 x1 x15).f8) ((rd_T46 x1 x15).f9) ((rd_T46 x1 x15).f10) ((rd_T46 x1 x15).f11) ((rd_T46 x1 x15).f12) ((rd_T46 x1 x15).f13))) else (relayref05_Same.j1 k x0 x1 x14 x15 true ((rd_T46 x0 x15).f0) ((rd_T46 x0 x15).f1) ((rd_T46 x0 x15).f2) ((rd_T46 x0 x15).f3) ((rd_T46 x0 x15).f4) ((rd_T46 x0 x15).f5) ((rd_T46 x0 x15).f6) ((rd_T46 x0 x15).f7) ((rd_T46 x0 x15).f8) ((rd_T46 x0 x15).f9) ((rd_T46 x0 x15).f10) ((rd_T46 x0 x15).f11) ((rd_T46 x0 x15).f12) ((rd_T46 x0 x15).f13) ((rd_T46 x1 x15).f0) ((rd_T46 x1 x15).f1) ((rd_T46 x1 x15).f2) ((rd_T46 x1 x15).f3) ((rd_T46 x1 x15).f4) ((rd_T46 x1 x15).f5) ((rd_T46 x1 x15).f6) ((rd_T46 x1 x15).f7) ((rd_T46 x1 x15).f8) ((rd_T46 x1 x15).f9) ((rd_T46 x1 x15).f10) ((rd_T46 x1 x15).f11) ((rd_T46 x1 x15).f12) ((rd_T46 x1 x15).f13)))) else (relayref05_Same.j1 k x0 x1 x14 x15 true ((rd_T46 x0 x15).f0) ((rd_T46 x0 x15).f1) ((rd_T46 x0 x15).f2) ((rd_T46 x0 x15).f3) ((rd_T46 x0 x15).f4) ((rd_T46 x0 x15).f5) ((rd_T46 x0 x15).f6) ((rd_T46 x0 x15).f7) ((rd_T46 x0 x15).f8) ((rd_T46 x0 x15).f9) ((rd_T46 x0 x15).f10) ((rd_T46 x0 x15).f11) ((rd_T46 x0 x15).f12) ((rd_T46 x0 x15).f13) ((rd_T46 x1 x15).f0) ((rd_T46 x1 x15).f1) ((rd_T46 x1 x15).f2) ((rd_T46 x1 x15).f3) ((rd_T46 x1 x15).f4) ((rd_T46 x1 x15).f5) ((rd_T46 x1 x15).f6) ((rd_T46 x1 x15).f7) ((rd_T46 x1 x15).f8) ((rd_T46 x1 x15).f9) ((rd_T46 x1 x15).f10) ((rd_T46 x1 x15).f11) ((rd_T46 x1 x15).f12) ((rd_T46 x1 x15).f13)))) else (relayref05_Same.j1 k x0 x1 x14 x15 true ((rd_T46 x0 x15).f0) ((rd_T46 x0 x15).f1) ((rd_T46 x0 x15).f2) ((rd_T46 x0 x15).f3) ((rd_T46 x0 x15).f4) ((rd_T46 x0 x15).f5) ((rd_T46 x0 x15).f6) ((rd_T46 x0 x15).f7) ((rd_T46 x0 x15).f8) ((rd_T46 x0 x15).f9) ((rd_T46 x0 x15).f10) ((rd_T46 x0 x15).f11) ((rd_T46 x0 x15).f12) ((rd_T46 x0 x15).f13) ((rd_T46 x1 x15).f0) ((rd_T46 x1 x15).f1) ((rd_T46 x1 x15).f2) ((rd_T46 x1 x15).f3) ((rd_T46 x1 x15).f4) ((rd_T46 x1 x15).f5) ((rd_T46 x1 x15).f6) ((rd_T46 x1 x15).f7) ((rd_T46 x1 x15).f8) ((rd_T46 x1 x15).f9) ((rd_T46 x1 x15).f10) ((rd_T46 x1 x15).f11) ((rd_T46 x1 x15).f12) ((rd_T46 x1 x15).f13))) else (relayref05_Same.j1 k x0 x1 x14 x15 true ((rd_T46 x0 x15).f0) ((rd_T46 x0 x15).f1) ((rd_T46 x0 x15).f2) ((rd_T46 x0 x15).f3) ((rd_T46 x0 x15).f4) ((rd_T46 x0 x15).f5) ((rd_T46 x0 x15).f6) ((rd_T46 x0 x15).f7) ((rd_T46 x0 x15).f8) ((rd_T46 x0 x15).f9) ((rd_T46 x0 x15).f10) ((rd_T46 x0 x15).f11) ((rd_T46 x0 x15).f12) ((rd_T46 x0 x15).f13) ((rd_T46 x1 x15).f0) ((rd_T46 x1 x15).f1) ((rd_T46 x1 x15).f2) ((rd_T46 x1 x15).f3) ((rd_T46 x1 x15).f4) ((rd_T46 x1 x15).f5) ((rd_T46 x1 x15).f6) ((rd_T46 x1 x15).f7) ((rd_T46 x1 x15).f8) ((rd_T46 x1 x15).f9) ((rd_T46 x1 x15).f10) ((rd_T46 x1 x15).f11) ((rd_T46 x1 x15).f12) ((rd_T46 x1 x15).f13))) else (none)) else (none)) else (none)) else (some true)
def relayref05_Same.j1 : Nat → List (S46) → List (S46) → Int → Int → Bool → Int → Int → ByteArray → Int → List (S65) → List ByteArray → List (S65) → List ByteArray → List (S50) → List (S46) → List (S46) → Int → Int → Int → Int → Int → ByteArray → Int → List (S65) → List ByteArray → List (S65) → List ByteArray → List (S50) → List (S46) → List (S46) → Int → Int → Int → Option (Bool)
 | 0, _, _, _, _, _, _, _, _, _, _, _, _, _, _, _, _, _, _, _, _, _, _, _, _, _, _, _, _, _, _, _, _, _ => none
 | k + 1, x0, x1, x14, x15, x65, x138000, x138001, x138002, x138003, x138004, x138005, x138006, x138007, x138008, x138009, x138010, x138011, x138012, x138013, x139000, x139001, x139002, x139003, x139004, x139005, x139006, x139007, x139008, x139009, x139010, x139011, x139012, x139013 => if x65 = true then (some false) else ((relayref05_sameExprs.f k x138006 x139006).bind fun t143 => (if t143 = true then ((relayref05_sameTexts.f k x138007 x139007).bind fun t144 => (if t144 = true then ((relayref05_sameRanges.f k x138008 x139008).bind fun t145 => (if t145 = true then ((relayref05_Same.f k x138009 x139009).bind fun t146 => (if t146 = true then ((relayref05_Same.f k x138010 x139010).bind fun t147 => (if t147 = true then (relayref05_Same.l0 k x0 x1 x14 (wrap64 (x15 + 1))) else (some false))) else (some false))) else (some false))) else (some false))) else (some false)))
def relayref05_Same.f : Nat → List (S46) → List (S46) → Option (Bool)
 | 0, _, _ => none
 | k + 1, l0, l1 => if (l0.length : Int) = (l1.length : Int) then (relayref05_Same.l0 k l0 l1 (l0.length : Int) 0) else (some false)
end
theorem relayref05_Same.mono_l : ∀ k, (∀ y0 y1, LeO (relayref05_Same.f k y0 y1) (relayref05_Same.f (k + 1) y0 y1)) ∧ (∀ y0 y1 y2 y3, LeO (relayref05_Same.l0 k y0 y1 y2 y3) (relayref05_Same.l0 (k + 1) y0 y1 y2 y3)) ∧ (∀ y0 y1 y2 y3 y4 y5 y6 y7 y8 y9 y10 y11 y12 y13 y14 y15 y16 y17 y18 y19 y20 y21 y22 y23 y24 y25 y26 y27 y28 y29 y30 y31 y32, LeO (relayref05_Same.j1 k y0 y1 y2 y3 y4 y5 y6 y7 y8 y9 y10 y11 y12 y13 y14 y15 y16 y17 y18 y19 y20 y21 y22 y23 y24 y25 y26 y27 y28 y29 y30 y31 y32) (relayref05_Same.j1 (k + 1) y0 y1 y2 y3 y4 y5 y6 y7 y8 y9 y10 y11 y12 y13 y14 y15 y16 y17 y18 y19 y20 y21 y22 y23 y24 y25 y26 y27 y28 y29 y30 y31 y32))
 | 0 => ⟨fun _ _ r h => by simp [relayref05_Same.f] at h, fun _ _ _ _ r h => by simp [relayref05_Same.l0] at h, fun _ _ _ _ _ _ _ _ _ _ _ _ _ _ _ _ _ _ _ _ _ _ _ _ _ _ _ _ _ _ _ _ _ r h => by simp [relayref05_Same.j1] at h⟩
 | k + 1 => by
  obtain ⟨ih0, ih1, ih2⟩ := relayref05_Same.mono_l k
  refine ⟨?_, ?_, ?_⟩
  · intro y0 y1
    unfold relayref05_Same.f
    repeat' first
    | (with_reducible exact ih0 _ _)
    | (with_reducible exact ih1 _ _ _ _)
    | (with_reducible exact ih2 _ _ _ _ _ _ _ _ _ _ _ _ _ _ _ _ _ _ _ _ _ _ _ _ _ _ _ _ _ _ _ _ _)
    | (with_reducible exact relayref05_sameExprs.mono _ _ _)
    | (with_reducible exact relayref05_sameRanges.mono _ _ _)
    | (with_reducible exact relayref05_sameTexts.mono _ _ _)
    | (with_reducible exact LeO.refl _)
    | (with_reducible exact LeO.none _)
    | (with_reducible refine LeO.ite ?_ ?_)
    | (with_reducible refine LeO.bind ?_ (fun _ => ?_))
    | exact ih0 _ _
    | exact ih1 _ _ _ _
    | exact ih2 _ _ _ _ _ _ _ _ _ _ _ _ _ _ _ _ _ _ _ _ _ _ _ _ _ _ _ _ _ _ _ _ _
    | exact relayref05_sameExprs.mono _ _ _
    | exact relayref05_sameRanges.mono _ _ _
    | exact relayref05_sameTexts.mono _ _ _
    | exact LeO.none _
    | refine LeO.ite ?_ ?_
    | refine LeO.bind ?_ (fun _ => ?_)
  · intro y0 y1 y2 y3
    unfold relayref05_Same.l0
    repeat' first
    | (with_reducible exact ih0 _ _)
    | (with_reducible exact ih1 _ _ _ _)
    | (with_reducible exact ih2 _ _ _ _ _ _ _ _ _ _ _ _ _ _ _ _ _ _ _ _ _ _ _ _ _ _ _ _ _ _ _ _ _)
    | (with_reducible exact relayref05_sameExprs.mono _ _ _)
    | (with_reducible exact relayref05_sameRanges.mono _ _ _)
    | (with_reducible exact relayref05_sameTexts.mono _ _ _)
    | (with_reducible exact LeO.refl _)
    | (with_reducible exact LeO.none _)
    | (with_reducible refine LeO.ite ?_ ?_)
    | (with_reducible refine LeO.bind ?_ (fun _ => ?_))
    | exact ih0 _ _
    | exact ih1 _ _ _ _
    | exact ih2 _ _ _ _ _ _ _ _ _ _ _ _ _ _ _ _ _ _ _ _ _ _ _ _ _ _ _ _ _ _ _ _ _
    | exact relayref05_sameExprs.mono _ _ _
    | exact relayref05_sameRanges.mono _ _ _
    | exact relayref05_sameTexts.mono _ _ _
    | exact LeO.none _
    | refine LeO.ite ?_ ?_
    | refine LeO.bind ?_ (fun _ => ?_)
  · intro y0 y1 y2 y3 y4 y5 y6 y7 y8 y9 y10 y11 y12 y13 y14 y15 y16 y17 y18 y19 y20 y21 y22 y23 y24 y25 y26 y27 y28 y29 y30 y31 y32
    unfold relayref05_Same.j1
    repeat' first
    | (with_reducible exact ih0 _ _)
    | (with_reducible exact ih1 _ _ _ _)
    | (with_reducible exact ih2 _ _ _ _ _ _ _ _ _ _ _ _ _ _ _ _ _ _ _ _ _ _ _ _ _ _ _ _ _ _ _ _ _)
    | (with_reducible exact relayref05_sameExprs.mono _ _ _)
    | (with_reducible exact relayref05_sameRanges.mono _ _ _)
    | (with_reducible exact relayref05_sameTexts.mono _ _ _)
    | (with_reducible exact LeO.refl _)
    | (with_reducible exact LeO.none _)
    | (with_reducible refine LeO.ite ?_ ?_)
    | (with_reducible refine LeO.bind ?_ (fun _ => ?_))
    | exact ih0 _ _
    | exact ih1 _ _ _ _
    | exact ih2 _ _ _ _ _ _ _ _ _ _ _ _ _ _ _ _ _ _ _ _ _ _ _ _ _ _ _ _ _ _ _ _ _
    | exact relayref05_sameExprs.mono _ _ _
    | exact relayref05_sameRanges.mono _ _ _
    | exact relayref05_sameTexts.mono _ _ _
    | exact LeO.none _
    | refine LeO.ite ?_ ?_
    | refine LeO.bind ?_ (fun _ => ?_)
theorem relayref05_Same.mono : ∀ a0 a1 k, LeO (relayref05_Same.f k a0 a1) (relayref05_Same.f (k + 1) a0 a1) := by
 intro a0 a1 k
 obtain ⟨ih0, ih1, ih2⟩ := relayref05_Same.mono_l k
 exact ih0 a0 a1
def relayref05_Same.T6 : Bool × List (List Nat × List Nat) := (true, [([], []), ([], []), ([0, 1], [0, 1]), ([2], [2]), ([], []), ([], []), ([4, 5], [4, 5]), ([6], [6]), ([], []), ([], []), ([8, 3, 0, 1, 2, 3, 8, 9], [3, 8]), ([9, 7, 10, 0, 1, 2, 3, 4, 5, 6, 7, 8, 9, 10], [7, 9])])
def relayref05_Same.B6 : List Nat := [0, 0, 3, 7, 0, 0, 48, 112, 0, 0, 783, 2047]
theorem relayref05_Same.tab6 : rtab .any (opsOf Try.f11 6) = relayref05_Same.T6 := by kernel_rfl
theorem relayref05_Same.bits6 : waitsOk relayref05_Same.T6.2 relayref05_Same.B6 = true := by kernel_rfl
set_option maxHeartbeats 40000000 in
set_option maxRecDepth 100000 in
theorem relayref05_Same.calls (k : Nat) : ∀ (A0 : Option Addr) (c0 : Nat) (l0 : List (S46)) (A1 : Option Addr) (c1 : Nat) (l1 : List (S46)) (r : Bool) (w : World) (hr0 : Kd.C k46 w A0 l0.length l0) (hc0 : l0.length ≤ c0) (hr1 : Kd.C k46 w A1 l1.length l1) (hc1 : l1.length ≤ c1) (h : relayref05_Same.f k l0 l1 = some r),
 Calls Try.prog 11 #[.slice A0 l0.length c0, .slice A1 l1.length c1] w fun e w' => e = .returned (.bool r) ∧ Below w.heap.size w w' := by
 induction k using Nat.strongRecOn with
 | _ k ih =>
 intro A0 c0 l0 A1 c1 l1 r w hr0 hc0 hr1 hc1 h
 cases k with
 | zero => exact absurd h (by simp [relayref05_Same.f])
 | succ k =>
 simp only [relayref05_Same.f] at h
 have hu46 := Try.underlying46
 have HR0 := Aside0.mk hr0
 have HC0 := Aside0.mk hc0
 clear hr0 hc0
 have HR1 := Aside0.mk hr1
 have HC1 := Aside0.mk hc1
 clear hr1 hc1
 have HB := Aside0.mk (Below.refl w.heap.size w)
 have H : (if (l0.length : Int) = (l1.length : Int) then (relayref05_Same.l0 k l0 l1 (l0.length : Int) 0) else (some false)) = some r := h
 clear h
 by_cases c3 : (l0.length : Int) = (l1.length : Int)
 · rw [if_pos c3] at H
   have c3b0 : ((l0.length : Int) == (l1.length : Int)) = true := beq_iff_eq.mpr c3
   have c3b1 : ((l0.length : Int) != (l1.length : Int)) = false := bne_eq_false_iff_eq.mpr c3
   have c3b2 : (l0.length == l1.length) = true := by first | simpa using c3 | (simp at c3 ⊢; omega)
   clear c3
   have H' := Aside0.mk H
   clear H
   go_enter Try.func11, Try.ntmps11
   go_wp2
   go_loopg [15] k (fun kq v15 w' => ∃ (x15_1 : Int), v15 = .int .i64 x15_1 ∧ Aside0 (relayref05_Same.l0 kq l0 l1 (l0.length : Int) x15_1 = some r) ∧ Aside0 (kq ≤ k) ∧ Aside0 (Below w.heap.size w w'))
   case atStart => exact ⟨(0), (by first | rfl | (simp; done) | (simp [*]; done) | (simp [*, bne]; done)), H', ⟨Nat.le_refl _⟩, ⟨by repeat (first | (with_reducible first | exact HB.out | apply below_alloc | apply pw_below_drewN | apply below_drew1) | exact HB.out)⟩⟩
   case round =>
    clear H'
    try clear c1
    try clear p2
    try clear c3
    try clear c3b0
    try clear c3b1
    try clear c3b2
    obtain ⟨x15_1, rfl, HA, HK1, HB⟩ := hrel
    cases gk with
    | zero => exact absurd HA.out (by simp [relayref05_Same.l0])
    | succ k1 =>
     have H := HA.out
     clear HA
     simp only [relayref05_Same.l0] at H
     by_cases c4 : x15_1 < (l0.length : Int)
     · rw [if_pos c4] at H
       have c4b0 : decide (x15_1 < (l0.length : Int)) = true := decide_eq_true c4
       clear c4
       by_cases c5 : 0 ≤ x15_1
       · rw [if_pos c5] at H
         have c5b0 : decide (0 ≤ x15_1) = true := decide_eq_true c5
         clear c5
         by_cases c6 : x15_1 < (l0.length : Int)
         · rw [if_pos c6] at H
           have c6b0 : decide (x15_1 < (l0.length : Int)) = true := decide_eq_true c6
           clear c6
           by_cases c7 : x15_1 < (l1.length : Int)
           · rw [if_pos c7] at H
             have c7b0 : decide (x15_1 < (l1.length : Int)) = true := decide_eq_true c7
             clear c7
             have HC8 := Aside0.mk H
             clear H
             try go_wp2
             have n0_ := Aside0.mk (below_drew1 HB.out)
             clear HB
             have HB := n0_
             clear n0_
             have p135 : 0 ≤ (x15_1 : Int) := of_decide_eq_true (by first | (with_reducible assumption) | assumption)
             have q135 : x15_1 < (l0.length : Int) := of_decide_eq_true (by first | (with_reducible assumption) | assumption)
             obtain ⟨ad135, A135_4, c135_4, A135_5, c135_5, A135_6, c135_6, A135_7, c135_7, A135_8, c135_8, A135_9, c135_9, A135_10, c135_10, e135, hx135_0, hx135_1, hx135_2, hx135_3, hx135_4, hx135_5, hx135_6, hx135_7, hx135_8, hx135_9, hx135_10, hx135_11, hx135_12, hx135_13, hl135_4, hi135_4, hl135_5, hi135_5, hl135_6, hi135_6, hl135_7, hi135_7, hl135_8, hi135_8, hl135_9, hi135_9, hl135_10, hi135_10⟩ := at_T46 HR0.out x15_1 p135 q135
             have hw135_13 := hx135_13
             have hw135_12 := hx135_12
             have hw135_11 := hx135_11
             have hw135_10 := hx135_10
             have hw135_9 := hx135_9
             have hw135_8 := hx135_8
             have hw135_7 := hx135_7
             have hw135_6 := hx135_6
             have hw135_5 := hx135_5
             have hw135_4 := hx135_4
             have hw135_3 := hx135_3
             have hw135_2 := hx135_2
             have hw135_1 := hx135_1
             have hw135_0 := hx135_0
             cases e135
             replace hx135_0 := (HB.out.cell (World.block_lt_of_cell? w _ hx135_0)).trans hx135_0
             replace hx135_1 := (HB.out.cell (World.block_lt_of_cell? w _ hx135_1)).trans hx135_1
             replace hx135_2 := (HB.out.cell (World.block_lt_of_cell? w _ hx135_2)).trans hx135_2
             replace hx135_3 := (HB.out.cell (World.block_lt_of_cell? w _ hx135_3)).trans hx135_3
             replace hx135_4 := (HB.out.cell (World.block_lt_of_cell? w _ hx135_4)).trans hx135_4
             replace hx135_5 := (HB.out.cell (World.block_lt_of_cell? w _ hx135_5)).trans hx135_5
             replace hx135_6 := (HB.out.cell (World.block_lt_of_cell? w _ hx135_6)).trans hx135_6
             replace hx135_7 := (HB.out.cell (World.block_lt_of_cell? w _ hx135_7)).trans hx135_7
             replace hx135_8 := (HB.out.cell (World.block_lt_of_cell? w _ hx135_8)).trans hx135_8
             replace hx135_9 := (HB.out.cell (World.block_lt_of_cell? w _ hx135_9)).trans hx135_9
             replace hx135_10 := (HB.out.cell (World.block_lt_of_cell? w _ hx135_10)).trans hx135_10
             replace hx135_11 := (HB.out.cell (World.block_lt_of_cell? w _ hx135_11)).trans hx135_11
             replace hx135_12 := (HB.out.cell (World.block_lt_of_cell? w _ hx135_12)).trans hx135_12
             replace hx135_13 := (HB.out.cell (World.block_lt_of_cell? w _ hx135_13)).trans hx135_13
             have HR135_4 := Aside0.mk hi135_4
             have HC135_4 := Aside0.mk hl135_4
             clear hi135_4 hl135_4
             have HR135_5 := Aside0.mk hi135_5
             have HC135_5 := Aside0.mk hl135_5
             clear hi135_5 hl135_5
             have HR135_6 := Aside0.mk hi135_6
             have HC135_6 := Aside0.mk hl135_6
             clear hi135_6 hl135_6
             have HR135_7 := Aside0.mk hi135_7
             have HC135_7 := Aside0.mk hl135_7
             clear hi135_7 hl135_7
             have HR135_8 := Aside0.mk hi135_8
             have HC135_8 := Aside0.mk hl135_8
             clear hi135_8 hl135_8
             have HR135_9 := Aside0.mk hi135_9
             have HC135_9 := Aside0.mk hl135_9
             clear hi135_9 hl135_9
             have HR135_10 := Aside0.mk hi135_10
             have HC135_10 := Aside0.mk hl135_10
             clear hi135_10 hl135_10
             replace p135 := eq_true p135
             replace q135 := eq_true q135
             have p136 : 0 ≤ (x15_1 : Int) := of_decide_eq_true (by first | (with_reducible assumption) | assumption)
             have q136 : x15_1 < (l1.length : Int) := of_decide_eq_true (by first | (with_reducible assumption) | assumption)
             obtain ⟨ad136, A136_4, c136_4, A136_5, c136_5, A136_6, c136_6, A136_7, c136_7, A136_8, c136_8, A136_9, c136_9, A136_10, c136_10, e136, hx136_0, hx136_1, hx136_2, hx136_3, hx136_4, hx136_5, hx136_6, hx136_7, hx136_8, hx136_9, hx136_10, hx136_11, hx136_12, hx136_13, hl136_4, hi136_4, hl136_5, hi136_5, hl136_6, hi136_6, hl136_7, hi136_7, hl136_8, hi136_8, hl136_9, hi136_9, hl136_10, hi136_10⟩ := at_T46 HR1.out x15_1 p136 q136
             have hw136_13 := hx136_13
             have hw136_12 := hx136_12
             have hw136_11 := hx136_11
             have hw136_10 := hx136_10
             have hw136_9 := hx136_9
             have hw136_8 := hx136_8
             have hw136_7 := hx136_7
             have hw136_6 := hx136_6
             have hw136_5 := hx136_5
             have hw136_4 := hx136_4
             have hw136_3 := hx136_3
             have hw136_2 := hx136_2
             have hw136_1 := hx136_1
             have hw136_0 := hx136_0
             cases e136
             replace hx136_0 := (HB.out.cell (World.block_lt_of_cell? w _ hx136_0)).trans hx136_0
             replace hx136_1 := (HB.out.cell (World.block_lt_of_cell? w _ hx136_1)).trans hx136_1
             replace hx136_2 := (HB.out.cell (World.block_lt_of_cell? w _ hx136_2)).trans hx136_2
             replace hx136_3 := (HB.out.cell (World.block_lt_of_cell? w _ hx136_3)).trans hx136_3
             replace hx136_4 := (HB.out.cell (World.block_lt_of_cell? w _ hx136_4)).trans hx136_4
             replace hx136_5 := (HB.out.cell (World.block_lt_of_cell? w _ hx136_5)).trans hx136_5
             replace hx136_6 := (HB.out.cell (World.block_lt_of_cell? w _ hx136_6)).trans hx136_6
             replace hx136_7 := (HB.out.cell (World.block_lt_of_cell? w _ hx136_7)).trans hx136_7
             replace hx136_8 := (HB.out.cell (World.block_lt_of_cell? w _ hx136_8)).trans hx136_8
             replace hx136_9 := (HB.out.cell (World.block_lt_of_cell? w _ hx136_9)).trans hx136_9
             replace hx136_10 := (HB.out.cell (World.block_lt_of_cell? w _ hx136_10)).trans hx136_10
             replace hx136_11 := (HB.out.cell (World.block_lt_of_cell? w _ hx136_11)).trans hx136_11
             replace hx136_12 := (HB.out.cell (World.block_lt_of_cell? w _ hx136_12)).trans hx136_12
             replace hx136_13 := (HB.out.cell (World.block_lt_of_cell? w _ hx136_13)).trans hx136_13
             have HR136_4 := Aside0.mk hi136_4
             have HC136_4 := Aside0.mk hl136_4
             clear hi136_4 hl136_4
             have HR136_5 := Aside0.mk hi136_5
             have HC136_5 := Aside0.mk hl136_5
             clear hi136_5 hl136_5
             have HR136_6 := Aside0.mk hi136_6
             have HC136_6 := Aside0.mk hl136_6
             clear hi136_6 hl136_6
             have HR136_7 := Aside0.mk hi136_7
             have HC136_7 := Aside0.mk hl136_7
             clear hi136_7 hl136_7
             have HR136_8 := Aside0.mk hi136_8
             have HC136_8 := Aside0.mk hl136_8
             clear hi136_8 hl136_8
             have HR136_9 := Aside0.mk hi136_9
             have HC136_9 := Aside0.mk hl136_9
             clear hi136_9 hl136_9
             have HR136_10 := Aside0.mk hi136_10
             have HC136_10 := Aside0.mk hl136_10
             clear hi136_10 hl136_10
             replace p136 := eq_true p136
             replace q136 := eq_true q136
             refine start_ (n := 12) (S := fun w' => w'.cell? (ad135.add ((x15_1).toNat * 14)) = some (.int .i64 ((rd_T46 l0 x15_1).f0)) ∧ w'.cell? ⟨(ad135.add ((x15_1).toNat * 14)).block, (ad135.add ((x15_1).toNat * 14)).off + 1, none⟩ = some (.int .i64 ((rd_T46 l0 x15_1).f1)) ∧ w'.cell? ⟨(ad135.add ((x15_1).toNat * 14)).block, (ad135.add ((x15_1).toNat * 14)).off + 2, none⟩ = some (.string ((rd_T46 l0 x15_1).f2)) ∧ w'.cell? ⟨(ad135.add ((x15_1).toNat * 14)).block, (ad135.add ((x15_1).toNat * 14)).off + 3, none⟩ = some (.int .i64 ((rd_T46 l0 x15_1).f3)) ∧ w'.cell? ⟨(ad135.add ((x15_1).toNat * 14)).block, (ad135.add ((x15_1).toNat * 14)).off + 4, none⟩ = some (.slice A135_4 ((rd_T46 l0 x15_1).f4).length c135_4) ∧ w'.cell? ⟨(ad135.add ((x15_1).toNat * 14)).block, (ad135.add ((x15_1).toNat * 14)).off + 5, none⟩ = some (.slice A135_5 ((rd_T46 l0 x15_1).f5).length c135_5) ∧ w'.cell? ⟨(ad135.add ((x15_1).toNat * 14)).block, (ad135.add ((x15_1).toNat * 14)).off + 6, none⟩ = some (.slice A135_6 ((rd_T46 l0 x15_1).f6).length c135_6) ∧ w'.cell? ⟨(ad135.add ((x15_1).toNat * 14)).block, (ad135.add ((x15_1).toNat * 14)).off + 7, none⟩ = some (.slice A135_7 ((rd_T46 l0 x15_1).f7).length c135_7) ∧ w'.cell? ⟨(ad135.add ((x15_1).toNat * 14)).block, (ad135.add ((x15_1).toNat * 14)).off + 8, none⟩ = some (.slice A135_8 ((rd_T46 l0 x15_1).f8).length c135_8) ∧ w'.cell? ⟨(ad135.add ((x15_1).toNat * 14)).block, (ad135.add ((x15_1).toNat * 14)).off + 9, none⟩ = some (.slice A135_9 ((rd_T46 l0 x15_1).f9).length c135_9) ∧ w'.cell? ⟨(ad135.add ((x15_1).toNat * 14)).block, (ad135.add ((x15_1).toNat * 14)).off + 10, none⟩ = some (.slice A135_10 ((rd_T46 l0 x15_1).f10).length c135_10) ∧ w'.cell? ⟨(ad135.add ((x15_1).toNat * 14)).block, (ad135.add ((x15_1).toNat * 14)).off + 11, none⟩ = some (.int .u8 ((rd_T46 l0 x15_1).f11)) ∧ w'.cell? ⟨(ad135.add ((x15_1).toNat * 14)).block, (ad135.add ((x15_1).toNat * 14)).off + 12, none⟩ = some (.int .i64 ((rd_T46 l0 x15_1).f12)) ∧ w'.cell? ⟨(ad135.add ((x15_1).toNat * 14)).block, (ad135.add ((x15_1).toNat * 14)).off + 13, none⟩ = some (.int .i64 ((rd_T46 l0 x15_1).f13)) ∧ w'.cell? (ad136.add ((x15_1).toNat * 14)) = some (.int .i64 ((rd_T46 l1 x15_1).f0)) ∧ w'.cell? ⟨(ad136.add ((x15_1).toNat * 14)).block, (ad136.add ((x15_1).toNat * 14)).off + 1, none⟩ = some (.int .i64 ((rd_T46 l1 x15_1).f1)) ∧ w'.cell? ⟨(ad136.add ((x15_1).toNat * 14)).block, (ad136.add ((x15_1).toNat * 14)).off + 2, none⟩ = some (.string ((rd_T46 l1 x15_1).f2)) ∧ w'.cell? ⟨(ad136.add ((x15_1).toNat * 14)).block, (ad136.add ((x15_1).toNat * 14)).off + 3, none⟩ = some (.int .i64 ((rd_T46 l1 x15_1).f3)) ∧ w'.cell? ⟨(ad136.add ((x15_1).toNat * 14)).block, (ad136.add ((x15_1).toNat * 14)).off + 4, none⟩ = some (.slice A136_4 ((rd_T46 l1 x15_1).f4).length c136_4) ∧ w'.cell? ⟨(ad136.add ((x15_1).toNat * 14)).block, (ad136.add ((x15_1).toNat * 14)).off + 5, none⟩ = some (.slice A136_5 ((rd_T46 l1 x15_1).f5).length c136_5) ∧ w'.cell? ⟨(ad136.add ((x15_1).toNat * 14)).block, (ad136.add ((x15_1).toNat * 14)).off + 6, none⟩ = some (.slice A136_6 ((rd_T46 l1 x15_1).f6).length c136_6) ∧ w'.cell? ⟨(ad136.add ((x15_1).toNat * 14)).block, (ad136.add ((x15_1).toNat * 14)).off + 7, none⟩ = some (.slice A136_7 ((rd_T46 l1 x15_1).f7).length c136_7) ∧ w'.cell? ⟨(ad136.add ((x15_1).toNat * 14)).block, (ad136.add ((x15_1).toNat * 14)).off + 8, none⟩ = some (.slice A136_8 ((rd_T46 l1 x15_1).f8).length c136_8) ∧ w'.cell? ⟨(ad136.add ((x15_1).toNat * 14)).block, (ad136.add ((x15_1).toNat * 14)).off + 9, none⟩ = some (.slice A136_9 ((rd_T46 l1 x15_1).f9).length c136_9) ∧ w'.cell? ⟨(ad136.add ((x15_1).toNat * 14)).block, (ad136.add ((x15_1).toNat * 14)).off + 10, none⟩ = some (.slice A136_10 ((rd_T46 l1 x15_1).f10).length c136_10) ∧ w'.cell? ⟨(ad136.add ((x15_1).toNat * 14)).block, (ad136.add ((x15_1).toNat * 14)).off + 11, none⟩ = some (.int .u8 ((rd_T46 l1 x15_1).f11)) ∧ w'.cell? ⟨(ad136.add ((x15_1).toNat * 14)).block, (ad136.add ((x15_1).toNat * 14)).off + 12, none⟩ = some (.int .i64 ((rd_T46 l1 x15_1).f12)) ∧ w'.cell? ⟨(ad136.add ((x15_1).toNat * 14)).block, (ad136.add ((x15_1).toNat * 14)).off + 13, none⟩ = some (.int .i64 ((rd_T46 l1 x15_1).f13))) (ds := []) #[false, false, false, false, false, false, false, false, false, false, false, false] (by kernel_rfl) rfl rfl ⟨((HB.out.cell (World.block_lt_of_cell? w _ hw135_0)).trans hw135_0), ((HB.out.cell (World.block_lt_of_cell? w _ hw135_1)).trans hw135_1), ((HB.out.cell (World.block_lt_of_cell? w _ hw135_2)).trans hw135_2), ((HB.out.cell (World.block_lt_of_cell? w _ hw135_3)).trans hw135_3), ((HB.out.cell (World.block_lt_of_cell? w _ hw135_4)).trans hw135_4), ((HB.out.cell (World.block_lt_of_cell? w _ hw135_5)).trans hw135_5), ((HB.out.cell (World.block_lt_of_cell? w _ hw135_6)).trans hw135_6), ((HB.out.cell (World.block_lt_of_cell? w _ hw135_7)).trans hw135_7), ((HB.out.cell (World.block_lt_of_cell? w _ hw135_8)).trans hw135_8), ((HB.out.cell (World.block_lt_of_cell? w _ hw135_9)).trans hw135_9), ((HB.out.cell (World.block_lt_of_cell? w _ hw135_10)).trans hw135_10), ((HB.out.cell (World.block_lt_of_cell? w _ hw135_11)).trans hw135_11), ((HB.out.cell (World.block_lt_of_cell? w _ hw135_12)).trans hw135_12), ((HB.out.cell (World.block_lt_of_cell? w _ hw135_13)).trans hw135_13), ((HB.out.cell (World.block_lt_of_cell? w _ hw136_0)).trans hw136_0), ((HB.out.cell (World.block_lt_of_cell? w _ hw136_1)).trans hw136_1), ((HB.out.cell (World.block_lt_of_cell? w _ hw136_2)).trans hw136_2), ((HB.out.cell (World.block_lt_of_cell? w _ hw136_3)).trans hw136_3), ((HB.out.cell (World.block_lt_of_cell? w _ hw136_4)).trans hw136_4), ((HB.out.cell (World.block_lt_of_cell? w _ hw136_5)).trans hw136_5), ((HB.out.cell (World.block_lt_of_cell? w _ hw136_6)).trans hw136_6), ((HB.out.cell (World.block_lt_of_cell? w _ hw136_7)).trans hw136_7), ((HB.out.cell (World.block_lt_of_cell? w _ hw136_8)).trans hw136_8), ((HB.out.cell (World.block_lt_of_cell? w _ hw136_9)).trans hw136_9), ((HB.out.cell (World.block_lt_of_cell? w _ hw136_10)).trans hw136_10), ((HB.out.cell (World.block_lt_of_cell? w _ hw136_11)).trans hw136_11), ((HB.out.cell (World.block_lt_of_cell? w _ hw136_12)).trans hw136_12), ((HB.out.cell (World.block_lt_of_cell? w _ hw136_13)).trans hw136_13)⟩ (fun hHeld => ?_); refine with_tabW relayref05_Same.tab6 relayref05_Same.bits6 (fun HT_ HW_ => ?_)
             generalize wr.drew = w9 at HB HR135_10 HR135_4 HR135_5 HR135_6 HR135_7 HR135_8 HR135_9 HR136_10 HR136_4 HR136_5 HR136_6 HR136_7 HR136_8 HR136_9 hx135_0 hx135_1 hx135_10 hx135_11 hx135_12 hx135_13 hx135_2 hx135_3 hx135_4 hx135_5 hx135_6 hx135_7 hx135_8 hx135_9 hx136_0 hx136_1 hx136_10 hx136_11 hx136_12 hx136_13 hx136_2 hx136_3 hx136_4 hx136_5 hx136_6 hx136_7 hx136_8 hx136_9 hHeld ⊢
             refine pure_ (i := 0) (N := some 18) (v := ?_) (a' := ?_) #[true, false, false, false, false, false, false, false, false, false, false, false] rfl rfl (any_of HT_.out (by kernel_rfl)) (fun _ _ _ h => h) (Or.inl ⟨by rfl, ?_⟩) ?_ ?_
             rotate_left
             · intro w'
               go_simp
               with_reducible rfl
             rotate_left
             · simp only [Act.put, List.setIfInBounds_toArray, List.set_cons_zero, List.set_cons_succ, i64_w, i32_w]
               rfl
             refine pure_ (i := 1) (N := some 19) (v := ?_) (a' := ?_) #[true, true, false, false, false, false, false, false, false, false, false, false] rfl rfl (any_of HT_.out (by kernel_rfl)) (fun _ _ _ h => h) (Or.inl ⟨by rfl, ?_⟩) ?_ ?_
             rotate_left
             · intro w'
               go_simp
               with_reducible rfl
             rotate_left
             · simp only [Act.put, List.setIfInBounds_toArray, List.set_cons_zero, List.set_cons_succ, i64_w, i32_w]
               rfl
             refine pure_ (i := 2) (N := some 20) (v := ?_) (a' := ?_) #[true, true, true, false, false, false, false, false, false, false, false, false] rfl rfl (any_of HT_.out (by kernel_rfl)) (fun _ _ _ h => h) (Or.inl ⟨by rfl, ?_⟩) ?_ ?_
             rotate_left
             · intro w'
               go_simp
               with_reducible rfl
             rotate_left
             · simp only [Act.put, List.setIfInBounds_toArray, List.set_cons_zero, List.set_cons_succ, i64_w, i32_w]
               rfl
             refine pure_ (i := 4) (N := some 22) (v := ?_) (a' := ?_) #[true, true, true, false, true, false, false, false, false, false, false, false] rfl rfl (any_of HT_.out (by kernel_rfl)) (fun _ _ _ h => h) (Or.inl ⟨by rfl, ?_⟩) ?_ ?_
             rotate_left
             · intro w'
               go_simp
               with_reducible rfl
             rotate_left
             · simp only [Act.put, List.setIfInBounds_toArray, List.set_cons_zero, List.set_cons_succ, i64_w, i32_w]
               rfl
             refine pure_ (i := 5) (N := some 23) (v := ?_) (a' := ?_) #[true, true, true, false, true, true, false, false, false, false, false, false] rfl rfl (any_of HT_.out (by kernel_rfl)) (fun _ _ _ h => h) (Or.inl ⟨by rfl, ?_⟩) ?_ ?_
             rotate_left
             · intro w'
               go_simp
               with_reducible rfl
             rotate_left
             · simp only [Act.put, List.setIfInBounds_toArray, List.set_cons_zero, List.set_cons_succ, i64_w, i32_w]
               rfl
             refine pure_ (i := 6) (N := some 24) (v := ?_) (a' := ?_) #[true, true, true, false, true, true, true, false, false, false, false, false] rfl rfl (any_of HT_.out (by kernel_rfl)) (fun _ _ _ h => h) (Or.inl ⟨by rfl, ?_⟩) ?_ ?_
             rotate_left
             · intro w'
               go_simp
               with_reducible rfl
             rotate_left
             · simp only [Act.put, List.setIfInBounds_toArray, List.set_cons_zero, List.set_cons_succ, i64_w, i32_w]
               rfl
             refine take_ (i := 3) (N := some 21) (v := ?_) (a' := ?_) #[true, true, true, true, true, true, true, false, false, false, false, false] rfl rfl (take_ofW HT_.out HW_.out (by kernel_rfl)) (fun _ _ _ h => h) (Or.inl ⟨by rfl, ?_⟩) hHeld ?_ ?_
             rotate_left
             · rintro w' ⟨s0, s1, s2, s3, s4, s5, s6, s7, s8, s9, s10, s11, s12, s13, s14, s15, s16, s17, s18, s19, s20, s21, s22, s23, s24, s25, s26, s27⟩
               go_simp
               with_reducible rfl
             rotate_left
             · simp only [Act.put, List.setIfInBounds_toArray, List.set_cons_zero, List.set_cons_succ, i64_w, i32_w]
               rfl
             refine take_ (i := 7) (N := some 25) (v := ?_) (a' := ?_) #[true, true, true, true, true, true, true, true, false, false, false, false] rfl rfl (take_ofW HT_.out HW_.out (by kernel_rfl)) (fun _ _ _ h => h) (Or.inl ⟨by rfl, ?_⟩) hHeld ?_ ?_
             rotate_left
             · rintro w' ⟨s0, s1, s2, s3, s4, s5, s6, s7, s8, s9, s10, s11, s12, s13, s14, s15, s16, s17, s18, s19, s20, s21, s22, s23, s24, s25, s26, s27⟩
               go_simp
               with_reducible rfl
             rotate_left
             · simp only [Act.put, List.setIfInBounds_toArray, List.set_cons_zero, List.set_cons_succ, i64_w, i32_w]
               rfl
             refine join_ (σ := Nat × Nat) 2 #[true, true, true, true, true, true, true, true, true, true, false, false] (fun s_ => [(6, .pointer (some ⟨s_.1, 0, none⟩)), (7, .pointer (some ⟨s_.2, 0, none⟩))]) (fun s_ w' => (w'.cell? (ad135.add ((x15_1).toNat * 14)) = some (.int .i64 ((rd_T46 l0 x15_1).f0)) ∧ w'.cell? ⟨(ad135.add ((x15_1).toNat * 14)).block, (ad135.add ((x15_1).toNat * 14)).off + 1, none⟩ = some (.int .i64 ((rd_T46 l0 x15_1).f1)) ∧ w'.cell? ⟨(ad135.add ((x15_1).toNat * 14)).block, (ad135.add ((x15_1).toNat * 14)).off + 2, none⟩ = some (.string ((rd_T46 l0 x15_1).f2)) ∧ w'.cell? ⟨(ad135.add ((x15_1).toNat * 14)).block, (ad135.add ((x15_1).toNat * 14)).off + 3, none⟩ = some (.int .i64 ((rd_T46 l0 x15_1).f3)) ∧ w'.cell? ⟨(ad135.add ((x15_1).toNat * 14)).block, (ad135.add ((x15_1).toNat * 14)).off + 4, none⟩ = some (.slice A135_4 ((rd_T46 l0 x15_1).f4).length c135_4) ∧ w'.cell? ⟨(ad135.add ((x15_1).toNat * 14)).block, (ad135.add ((x15_1).toNat * 14)).off + 5, none⟩ = some (.slice A135_5 ((rd_T46 l0 x15_1).f5).length c135_5) ∧ w'.cell? ⟨(ad135.add ((x15_1).toNat * 14)).block, (ad135.add ((x15_1).toNat * 14)).off + 6, none⟩ = some (.slice A135_6 ((rd_T46 l0 x15_1).f6).length c135_6) ∧ w'.cell? ⟨(ad135.add ((x15_1).toNat * 14)).block, (ad135.add ((x15_1).toNat * 14)).off + 7, none⟩ = some (.slice A135_7 ((rd_T46 l0 x15_1).f7).length c135_7) ∧ w'.cell? ⟨(ad135.add ((x15_1).toNat * 14)).block, (ad135.add ((x15_1).toNat * 14)).off + 8, none⟩ = some (.slice A135_8 ((rd_T46 l0 x15_1).f8).length c135_8) ∧ w'.cell? ⟨(ad135.add ((x15_1).toNat * 14)).block, (ad135.add ((x15_1).toNat * 14)).off + 9, none⟩ = some (.slice A135_9 ((rd_T46 l0 x15_1).f9).length c135_9) ∧ w'.cell? ⟨(ad135.add ((x15_1).toNat * 14)).block, (ad135.add ((x15_1).toNat * 14)).off + 10, none⟩ = some (.slice A135_10 ((rd_T46 l0 x15_1).f10).length c135_10) ∧ w'.cell? ⟨(ad135.add ((x15_1).toNat * 14)).block, (ad135.add ((x15_1).toNat * 14)).off + 11, none⟩ = some (.int .u8 ((rd_T46 l0 x15_1).f11)) ∧ w'.cell? ⟨(ad135.add ((x15_1).toNat * 14)).block, (ad135.add ((x15_1).toNat * 14)).off + 12, none⟩ = some (.int .i64 ((rd_T46 l0 x15_1).f12)) ∧ w'.cell? ⟨(ad135.add ((x15_1).toNat * 14)).block, (ad135.add ((x15_1).toNat * 14)).off + 13, none⟩ = some (.int .i64 ((rd_T46 l0 x15_1).f13)) ∧ w'.cell? (ad136.add ((x15_1).toNat * 14)) = some (.int .i64 ((rd_T46 l1 x15_1).f0)) ∧ w'.cell? ⟨(ad136.add ((x15_1).toNat * 14)).block, (ad136.add ((x15_1).toNat * 14)).off + 1, none⟩ = some (.int .i64 ((rd_T46 l1 x15_1).f1)) ∧ w'.cell? ⟨(ad136.add ((x15_1).toNat * 14)).block, (ad136.add ((x15_1).toNat * 14)).off + 2, none⟩ = some (.string ((rd_T46 l1 x15_1).f2)) ∧ w'.cell? ⟨(ad136.add ((x15_1).toNat * 14)).block, (ad136.add ((x15_1).toNat * 14)).off + 3, none⟩ = some (.int .i64 ((rd_T46 l1 x15_1).f3)) ∧ w'.cell? ⟨(ad136.add ((x15_1).toNat * 14)).block, (ad136.add ((x15_1).toNat * 14)).off + 4, none⟩ = some (.slice A136_4 ((rd_T46 l1 x15_1).f4).length c136_4) ∧ w'.cell? ⟨(ad136.add ((x15_1).toNat * 14)).block, (ad136.add ((x15_1).toNat * 14)).off + 5, none⟩ = some (.slice A136_5 ((rd_T46 l1 x15_1).f5).length c136_5) ∧ w'.cell? ⟨(ad136.add ((x15_1).toNat * 14)).block, (ad136.add ((x15_1).toNat * 14)).off + 6, none⟩ = some (.slice A136_6 ((rd_T46 l1 x15_1).f6).length c136_6) ∧ w'.cell? ⟨(ad136.add ((x15_1).toNat * 14)).block, (ad136.add ((x15_1).toNat * 14)).off + 7, none⟩ = some (.slice A136_7 ((rd_T46 l1 x15_1).f7).length c136_7) ∧ w'.cell? ⟨(ad136.add ((x15_1).toNat * 14)).block, (ad136.add ((x15_1).toNat * 14)).off + 8, none⟩ = some (.slice A136_8 ((rd_T46 l1 x15_1).f8).length c136_8) ∧ w'.cell? ⟨(ad136.add ((x15_1).toNat * 14)).block, (ad136.add ((x15_1).toNat * 14)).off + 9, none⟩ = some (.slice A136_9 ((rd_T46 l1 x15_1).f9).length c136_9) ∧ w'.cell? ⟨(ad136.add ((x15_1).toNat * 14)).block, (ad136.add ((x15_1).toNat * 14)).off + 10, none⟩ = some (.slice A136_10 ((rd_T46 l1 x15_1).f10).length c136_10) ∧ w'.cell? ⟨(ad136.add ((x15_1).toNat * 14)).block, (ad136.add ((x15_1).toNat * 14)).off + 11, none⟩ = some (.int .u8 ((rd_T46 l1 x15_1).f11)) ∧ w'.cell? ⟨(ad136.add ((x15_1).toNat * 14)).block, (ad136.add ((x15_1).toNat * 14)).off + 12, none⟩ = some (.int .i64 ((rd_T46 l1 x15_1).f12)) ∧ w'.cell? ⟨(ad136.add ((x15_1).toNat * 14)).block, (ad136.add ((x15_1).toNat * 14)).off + 13, none⟩ = some (.int .i64 ((rd_T46 l1 x15_1).f13))) ∧ (w'.heap[s_.1]? = some (.cells #[.int .i64 0, .int .i64 0, .string (⟨#[]⟩ : ByteArray), .int .i64 0, .slice none 0 0, .slice none 0 0, .slice none 0 0, .slice none 0 0, .slice none 0 0, .slice none 0 0, .slice none 0 0, .int .u8 0, .int .i64 0, .int .i64 0] 46 (0, 0))) ∧ (w'.heap[s_.2]? = some (.cells #[.int .i64 0, .int .i64 0, .string (⟨#[]⟩ : ByteArray), .int .i64 0, .slice none 0 0, .slice none 0 0, .slice none 0 0, .slice none 0 0, .slice none 0 0, .slice none 0 0, .slice none 0 0, .int .u8 0, .int .i64 0, .int .i64 0] 46 (0, 0))) ∧ (w.heap.size ≤ s_.1) ∧ (w.heap.size ≤ s_.1) ∧ (s_.2 ≠ s_.1) ∧ (s_.1 ≠ s_.2) ∧ (w.heap.size ≤ s_.2) ∧ (w.heap.size ≤ s_.2) ∧ (Below w.heap.size w w')) ?_ ?_
             rotate_left
             · intro hCont
               refine two_ (i := 8) (j := 9) (Ni := some 6) (Nj := some 7) #[true, true, true, true, true, true, true, true, true, false, false, false] #[true, true, true, true, true, true, true, true, false, true, false, false] rfl rfl rfl rfl (two_of HT_.out (by kernel_rfl)) (by decide) (by decide) (fun K hK => ?_) (fun K hK => ?_)
               · skip
                 refine box_step ?hg (N := 6) ?hd (cs := #[.int .i64 0, .int .i64 0, .string (⟨#[]⟩ : ByteArray), .int .i64 0, .slice none 0 0, .slice none 0 0, .slice none 0 0, .slice none 0 0, .slice none 0 0, .slice none 0 0, .slice none 0 0, .int .u8 0, .int .i64 0, .int .i64 0]) (t := 46) ?hr ?_; (case hd => rfl); (case hg => rfl); (case hr => first | (go_simp; done) | (go_simp; rfl))
                 intro gb137 hg w10 hbox hb
                 have n0_ := Aside0.mk (below_step (by repeat (first | (with_reducible first | exact HB.out | apply below_alloc | apply pw_below_drewN | apply below_drew1) | exact HB.out)) hb)
                 have n1_ := Aside0.mk (hbox)
                 have n2_ := Aside0.mk ((by rw [hg]; exact (below_size (by repeat (first | (with_reducible first | exact HB.out | apply below_alloc | apply pw_below_drewN | apply below_drew1) | exact HB.out))) : w.heap.size ≤ gb137))
                 have n3_ := Aside0.mk ((by rw [hg]; exact (below_size (by repeat (first | (with_reducible first | exact HB.out | apply below_alloc | apply pw_below_drewN | apply below_drew1) | exact HB.out))) : w.heap.size ≤ gb137))
                 clear HB
                 have HB := n0_
                 have BK137 := n1_
                 have GW137 := n2_
                 have GE137 := n3_
                 clear n0_ n1_ n2_ n3_
                 clear hb hbox hg
                 refine hK.out _ _ ⟨((HB.out.cell (World.block_lt_of_cell? w _ hw135_0)).trans hw135_0), ((HB.out.cell (World.block_lt_of_cell? w _ hw135_1)).trans hw135_1), ((HB.out.cell (World.block_lt_of_cell? w _ hw135_2)).trans hw135_2), ((HB.out.cell (World.block_lt_of_cell? w _ hw135_3)).trans hw135_3), ((HB.out.cell (World.block_lt_of_cell? w _ hw135_4)).trans hw135_4), ((HB.out.cell (World.block_lt_of_cell? w _ hw135_5)).trans hw135_5), ((HB.out.cell (World.block_lt_of_cell? w _ hw135_6)).trans hw135_6), ((HB.out.cell (World.block_lt_of_cell? w _ hw135_7)).trans hw135_7), ((HB.out.cell (World.block_lt_of_cell? w _ hw135_8)).trans hw135_8), ((HB.out.cell (World.block_lt_of_cell? w _ hw135_9)).trans hw135_9), ((HB.out.cell (World.block_lt_of_cell? w _ hw135_10)).trans hw135_10), ((HB.out.cell (World.block_lt_of_cell? w _ hw135_11)).trans hw135_11), ((HB.out.cell (World.block_lt_of_cell? w _ hw135_12)).trans hw135_12), ((HB.out.cell (World.block_lt_of_cell? w _ hw135_13)).trans hw135_13), ((HB.out.cell (World.block_lt_of_cell? w _ hw136_0)).trans hw136_0), ((HB.out.cell (World.block_lt_of_cell? w _ hw136_1)).trans hw136_1), ((HB.out.cell (World.block_lt_of_cell? w _ hw136_2)).trans hw136_2), ((HB.out.cell (World.block_lt_of_cell? w _ hw136_3)).trans hw136_3), ((HB.out.cell (World.block_lt_of_cell? w _ hw136_4)).trans hw136_4), ((HB.out.cell (World.block_lt_of_cell? w _ hw136_5)).trans hw136_5), ((HB.out.cell (World.block_lt_of_cell? w _ hw136_6)).trans hw136_6), ((HB.out.cell (World.block_lt_of_cell? w _ hw136_7)).trans hw136_7), ((HB.out.cell (World.block_lt_of_cell? w _ hw136_8)).trans hw136_8), ((HB.out.cell (World.block_lt_of_cell? w _ hw136_9)).trans hw136_9), ((HB.out.cell (World.block_lt_of_cell? w _ hw136_10)).trans hw136_10), ((HB.out.cell (World.block_lt_of_cell? w _ hw136_11)).trans hw136_11), ((HB.out.cell (World.block_lt_of_cell? w _ hw136_12)).trans hw136_12), ((HB.out.cell (World.block_lt_of_cell? w _ hw136_13)).trans hw136_13)⟩ (fun hHeld => ?_)
                 clear hK K
                 refine norm_ (a' := ?_) ?_ ?_
                 rotate_left
                 · show Act.put _ (some 6) _ = _
                   simp only [Act.put, List.setIfInBounds_toArray, List.set_cons_zero, List.set_cons_succ, i64_w, i32_w]
                   rfl
                 refine one_ (i := 9) (N := some 7) #[true, true, true, true, true, true, true, true, true, true, false, false] rfl rfl (one_of HT_.out (by kernel_rfl)) (by decide) (fun K hK => ?_)
                 refine box_step ?hg (N := 7) ?hd (cs := #[.int .i64 0, .int .i64 0, .string (⟨#[]⟩ : ByteArray), .int .i64 0, .slice none 0 0, .slice none 0 0, .slice none 0 0, .slice none 0 0, .slice none 0 0, .slice none 0 0, .slice none 0 0, .int .u8 0, .int .i64 0, .int .i64 0]) (t := 46) ?hr ?_; (case hd => rfl); (case hg => rfl); (case hr => first | (go_simp; done) | (go_simp; rfl))
                 intro gb138 hg w11 hbox hb
                 have n0_ := Aside0.mk (blk_below (g := gb137) (o := .cells #[.int .i64 0, .int .i64 0, .string (⟨#[]⟩ : ByteArray), .int .i64 0, .slice none 0 0, .slice none 0 0, .slice none 0 0, .slice none 0 0, .slice none 0 0, .slice none 0 0, .slice none 0 0, .int .u8 0, .int .i64 0, .int .i64 0] 46 (0, 0)) (by (with_reducible repeat (first | refine blk_drewN ?_ _ | refine blk_drew ?_ | refine blk_alloc ?_ _)); exact BK137.out) hb)
                 have n1_ := Aside0.mk (below_step (by repeat (first | (with_reducible first | exact HB.out | apply below_alloc | apply pw_below_drewN | apply below_drew1 | refine below_set ?_ GE137.out) | exact HB.out)) hb)
                 have n2_ := Aside0.mk (hbox)
                 have n3_ := Aside0.mk ((by rw [hg]; exact (below_size (by repeat (first | (with_reducible first | exact HB.out | apply below_alloc | apply pw_below_drewN | apply below_drew1 | refine below_set ?_ GE137.out) | exact HB.out))) : w.heap.size ≤ gb138))
                 have n4_ := Aside0.mk ((by rw [hg]; exact (below_size (by repeat (first | (with_reducible first | exact HB.out | apply below_alloc | apply pw_below_drewN | apply below_drew1 | refine below_set ?_ GE137.out) | exact HB.out))) : w.heap.size ≤ gb138))
                 have n5_ := Aside0.mk ((by rw [hg]; exact Nat.ne_of_lt (blk_lt (g := gb137) (o := .cells #[.int .i64 0, .int .i64 0, .string (⟨#[]⟩ : ByteArray), .int .i64 0, .slice none 0 0, .slice none 0 0, .slice none 0 0, .slice none 0 0, .slice none 0 0, .slice none 0 0, .slice none 0 0, .int .u8 0, .int .i64 0, .int .i64 0] 46 (0, 0)) (by (with_reducible repeat (first | refine blk_drewN ?_ _ | refine blk_drew ?_ | refine blk_alloc ?_ _)); exact BK137.out)) : gb137 ≠ gb138))
                 have n6_ := Aside0.mk ((by rw [hg]; exact Nat.ne_of_gt (blk_lt (g := gb137) (o := .cells #[.int .i64 0, .int .i64 0, .string (⟨#[]⟩ : ByteArray), .int .i64 0, .slice none 0 0, .slice none 0 0, .slice none 0 0, .slice none 0 0, .slice none 0 0, .slice none 0 0, .slice none 0 0, .int .u8 0, .int .i64 0, .int .i64 0] 46 (0, 0)) (by (with_reducible repeat (first | refine blk_drewN ?_ _ | refine blk_drew ?_ | refine blk_alloc ?_ _)); exact BK137.out)) : gb138 ≠ gb137))
                 clear BK137
                 clear HB
                 have BK137 := n0_
                 have HB := n1_
                 have BK138 := n2_
                 have GW138 := n3_
                 have GE138 := n4_
                 have NB137_138 := n5_
                 have NB138_137 := n6_
                 clear n0_ n1_ n2_ n3_ n4_ n5_ n6_
                 clear hb hbox hg
                 refine hK.out _ _ ⟨((HB.out.cell (World.block_lt_of_cell? w _ hw135_0)).trans hw135_0), ((HB.out.cell (World.block_lt_of_cell? w _ hw135_1)).trans hw135_1), ((HB.out.cell (World.block_lt_of_cell? w _ hw135_2)).trans hw135_2), ((HB.out.cell (World.block_lt_of_cell? w _ hw135_3)).trans hw135_3), ((HB.out.cell (World.block_lt_of_cell? w _ hw135_4)).trans hw135_4), ((HB.out.cell (World.block_lt_of_cell? w _ hw135_5)).trans hw135_5), ((HB.out.cell (World.block_lt_of_cell? w _ hw135_6)).trans hw135_6), ((HB.out.cell (World.block_lt_of_cell? w _ hw135_7)).trans hw135_7), ((HB.out.cell (World.block_lt_of_cell? w _ hw135_8)).trans hw135_8), ((HB.out.cell (World.block_lt_of_cell? w _ hw135_9)).trans hw135_9), ((HB.out.cell (World.block_lt_of_cell? w _ hw135_10)).trans hw135_10), ((HB.out.cell (World.block_lt_of_cell? w _ hw135_11)).trans hw135_11), ((HB.out.cell (World.block_lt_of_cell? w _ hw135_12)).trans hw135_12), ((HB.out.cell (World.block_lt_of_cell? w _ hw135_13)).trans hw135_13), ((HB.out.cell (World.block_lt_of_cell? w _ hw136_0)).trans hw136_0), ((HB.out.cell (World.block_lt_of_cell? w _ hw136_1)).trans hw136_1), ((HB.out.cell (World.block_lt_of_cell? w _ hw136_2)).trans hw136_2), ((HB.out.cell (World.block_lt_of_cell? w _ hw136_3)).trans hw136_3), ((HB.out.cell (World.block_lt_of_cell? w _ hw136_4)).trans hw136_4), ((HB.out.cell (World.block_lt_of_cell? w _ hw136_5)).trans hw136_5), ((HB.out.cell (World.block_lt_of_cell? w _ hw136_6)).trans hw136_6), ((HB.out.cell (World.block_lt_of_cell? w _ hw136_7)).trans hw136_7), ((HB.out.cell (World.block_lt_of_cell? w _ hw136_8)).trans hw136_8), ((HB.out.cell (World.block_lt_of_cell? w _ hw136_9)).trans hw136_9), ((HB.out.cell (World.block_lt_of_cell? w _ hw136_10)).trans hw136_10), ((HB.out.cell (World.block_lt_of_cell? w _ hw136_11)).trans hw136_11), ((HB.out.cell (World.block_lt_of_cell? w _ hw136_12)).trans hw136_12), ((HB.out.cell (World.block_lt_of_cell? w _ hw136_13)).trans hw136_13)⟩ (fun hHeld => ?_)
                 clear hK K
                 refine norm_ (a' := ?_) ?_ ?_
                 rotate_left
                 · show Act.put _ (some 7) _ = _
                   simp only [Act.put, List.setIfInBounds_toArray, List.set_cons_zero, List.set_cons_succ, i64_w, i32_w]
                   rfl
                 exact norm_ (by simp only [putAll, Act.put, List.setIfInBounds_toArray, List.set_cons_zero, List.set_cons_succ]) (hCont (gb137, gb138) _ ⟨hHeld, (by (with_reducible repeat (first | refine blk_drewN ?_ _ | refine blk_drew ?_ | refine blk_alloc ?_ _)); exact BK137.out), (by (with_reducible repeat (first | refine blk_drewN ?_ _ | refine blk_drew ?_ | refine blk_alloc ?_ _)); exact BK138.out), GW137.out, GE137.out, NB138_137.out, NB137_138.out, GW138.out, GE138.out, (by repeat (first | (with_reducible first | exact HB.out | apply below_alloc | apply pw_below_drewN | apply below_drew1 | refine below_set ?_ GE137.out | refine below_set ?_ GE138.out) | exact HB.out))⟩)
               · skip
                 refine box_step ?hg (N := 7) ?hd (cs := #[.int .i64 0, .int .i64 0, .string (⟨#[]⟩ : ByteArray), .int .i64 0, .slice none 0 0, .slice none 0 0, .slice none 0 0, .slice none 0 0, .slice none 0 0, .slice none 0 0, .slice none 0 0, .int .u8 0, .int .i64 0, .int .i64 0]) (t := 46) ?hr ?_; (case hd => rfl); (case hg => rfl); (case hr => first | (go_simp; done) | (go_simp; rfl))
                 intro gb138 hg w10 hbox hb
                 have n0_ := Aside0.mk (below_step (by repeat (first | (with_reducible first | exact HB.out | apply below_alloc | apply pw_below_drewN | apply below_drew1) | exact HB.out)) hb)
                 have n1_ := Aside0.mk (hbox)
                 have n2_ := Aside0.mk ((by rw [hg]; exact (below_size (by repeat (first | (with_reducible first | exact HB.out | apply below_alloc | apply pw_below_drewN | apply below_drew1) | exact HB.out))) : w.heap.size ≤ gb138))
                 have n3_ := Aside0.mk ((by rw [hg]; exact (below_size (by repeat (first | (with_reducible first | exact HB.out | apply below_alloc | apply pw_below_drewN | apply below_drew1) | exact HB.out))) : w.heap.size ≤ gb138))
                 clear HB
                 have HB := n0_
                 have BK138 := n1_
                 have GW138 := n2_
                 have GE138 := n3_
                 clear n0_ n1_ n2_ n3_
                 clear hb hbox hg
                 refine hK.out _ _ ⟨((HB.out.cell (World.block_lt_of_cell? w _ hw135_0)).trans hw135_0), ((HB.out.cell (World.block_lt_of_cell? w _ hw135_1)).trans hw135_1), ((HB.out.cell (World.block_lt_of_cell? w _ hw135_2)).trans hw135_2), ((HB.out.cell (World.block_lt_of_cell? w _ hw135_3)).trans hw135_3), ((HB.out.cell (World.block_lt_of_cell? w _ hw135_4)).trans hw135_4), ((HB.out.cell (World.block_lt_of_cell? w _ hw135_5)).trans hw135_5), ((HB.out.cell (World.block_lt_of_cell? w _ hw135_6)).trans hw135_6), ((HB.out.cell (World.block_lt_of_cell? w _ hw135_7)).trans hw135_7), ((HB.out.cell (World.block_lt_of_cell? w _ hw135_8)).trans hw135_8), ((HB.out.cell (World.block_lt_of_cell? w _ hw135_9)).trans hw135_9), ((HB.out.cell (World.block_lt_of_cell? w _ hw135_10)).trans hw135_10), ((HB.out.cell (World.block_lt_of_cell? w _ hw135_11)).trans hw135_11), ((HB.out.cell (World.block_lt_of_cell? w _ hw135_12)).trans hw135_12), ((HB.out.cell (World.block_lt_of_cell? w _ hw135_13)).trans hw135_13), ((HB.out.cell (World.block_lt_of_cell? w _ hw136_0)).trans hw136_0), ((HB.out.cell (World.block_lt_of_cell? w _ hw136_1)).trans hw136_1), ((HB.out.cell (World.block_lt_of_cell? w _ hw136_2)).trans hw136_2), ((HB.out.cell (World.block_lt_of_cell? w _ hw136_3)).trans hw136_3), ((HB.out.cell (World.block_lt_of_cell? w _ hw136_4)).trans hw136_4), ((HB.out.cell (World.block_lt_of_cell? w _ hw136_5)).trans hw136_5), ((HB.out.cell (World.block_lt_of_cell? w _ hw136_6)).trans hw136_6), ((HB.out.cell (World.block_lt_of_cell? w _ hw136_7)).trans hw136_7), ((HB.out.cell (World.block_lt_of_cell? w _ hw136_8)).trans hw136_8), ((HB.out.cell (World.block_lt_of_cell? w _ hw136_9)).trans hw136_9), ((HB.out.cell (World.block_lt_of_cell? w _ hw136_10)).trans hw136_10), ((HB.out.cell (World.block_lt_of_cell? w _ hw136_11)).trans hw136_11), ((HB.out.cell (World.block_lt_of_cell? w _ hw136_12)).trans hw136_12), ((HB.out.cell (World.block_lt_of_cell? w _ hw136_13)).trans hw136_13)⟩ (fun hHeld => ?_)
                 clear hK K
                 refine norm_ (a' := ?_) ?_ ?_
                 rotate_left
                 · show Act.put _ (some 7) _ = _
                   simp only [Act.put, List.setIfInBounds_toArray, List.set_cons_zero, List.set_cons_succ, i64_w, i32_w]
                   rfl
                 refine one_ (i := 8) (N := some 6) #[true, true, true, true, true, true, true, true, true, true, false, false] rfl rfl (one_of HT_.out (by kernel_rfl)) (by decide) (fun K hK => ?_)
                 refine box_step ?hg (N := 6) ?hd (cs := #[.int .i64 0, .int .i64 0, .string (⟨#[]⟩ : ByteArray), .int .i64 0, .slice none 0 0, .slice none 0 0, .slice none 0 0, .slice none 0 0, .slice none 0 0, .slice none 0 0, .slice none 0 0, .int .u8 0, .int .i64 0, .int .i64 0]) (t := 46) ?hr ?_; (case hd => rfl); (case hg => rfl); (case hr => first | (go_simp; done) | (go_simp; rfl))
                 intro gb137 hg w11 hbox hb
                 have n0_ := Aside0.mk (blk_below (g := gb138) (o := .cells #[.int .i64 0, .int .i64 0, .string (⟨#[]⟩ : ByteArray), .int .i64 0, .slice none 0 0, .slice none 0 0, .slice none 0 0, .slice none 0 0, .slice none 0 0, .slice none 0 0, .slice none 0 0, .int .u8 0, .int .i64 0, .int .i64 0] 46 (0, 0)) (by (with_reducible repeat (first | refine blk_drewN ?_ _ | refine blk_drew ?_ | refine blk_alloc ?_ _)); exact BK138.out) hb)
                 have n1_ := Aside0.mk (below_step (by repeat (first | (with_reducible first | exact HB.out | apply below_alloc | apply pw_below_drewN | apply below_drew1 | refine below_set ?_ GE138.out) | exact HB.out)) hb)
                 have n2_ := Aside0.mk (hbox)
                 have n3_ := Aside0.mk ((by rw [hg]; exact (below_size (by repeat (first | (with_reducible first | exact HB.out | apply below_alloc | apply pw_below_drewN | apply below_drew1 | refine below_set ?_ GE138.out) | exact HB.out))) : w.heap.size ≤ gb137))
                 have n4_ := Aside0.mk ((by rw [hg]; exact (below_size (by repeat (first | (with_reducible first | exact HB.out | apply below_alloc | apply pw_below_drewN | apply below_drew1 | refine below_set ?_ GE138.out) | exact HB.out))) : w.heap.size ≤ gb137))
                 have n5_ := Aside0.mk ((by rw [hg]; exact Nat.ne_of_lt (blk_lt (g := gb138) (o := .cells #[.int .i64 0, .int .i64 0, .string (⟨#[]⟩ : ByteArray), .int .i64 0, .slice none 0 0, .slice none 0 0, .slice none 0 0, .slice none 0 0, .slice none 0 0, .slice none 0 0, .slice none 0 0, .int .u8 0, .int .i64 0, .int .i64 0] 46 (0, 0)) (by (with_reducible repeat (first | refine blk_drewN ?_ _ | refine blk_drew ?_ | refine blk_alloc ?_ _)); exact BK138.out)) : gb138 ≠ gb137))
                 have n6_ := Aside0.mk ((by rw [hg]; exact Nat.ne_of_gt (blk_lt (g := gb138) (o := .cells #[.int .i64 0, .int .i64 0, .string (⟨#[]⟩ : ByteArray), .int .i64 0, .slice none 0 0, .slice none 0 0, .slice none 0 0, .slice none 0 0, .slice none 0 0, .slice none 0 0, .slice none 0 0, .int .u8 0, .int .i64 0, .int .i64 0] 46 (0, 0)) (by (with_reducible repeat (first | refine blk_drewN ?_ _ | refine blk_drew ?_ | refine blk_alloc ?_ _)); exact BK138.out)) : gb137 ≠ gb138))
                 clear BK138
                 clear HB
                 have BK138 := n0_
                 have HB := n1_
                 have BK137 := n2_
                 have GW137 := n3_
                 have GE137 := n4_
                 have NB138_137 := n5_
                 have NB137_138 := n6_
                 clear n0_ n1_ n2_ n3_ n4_ n5_ n6_
                 clear hb hbox hg
                 refine hK.out _ _ ⟨((HB.out.cell (World.block_lt_of_cell? w _ hw135_0)).trans hw135_0), ((HB.out.cell (World.block_lt_of_cell? w _ hw135_1)).trans hw135_1), ((HB.out.cell (World.block_lt_of_cell? w _ hw135_2)).trans hw135_2), ((HB.out.cell (World.block_lt_of_cell? w _ hw135_3)).trans hw135_3), ((HB.out.cell (World.block_lt_of_cell? w _ hw135_4)).trans hw135_4), ((HB.out.cell (World.block_lt_of_cell? w _ hw135_5)).trans hw135_5), ((HB.out.cell (World.block_lt_of_cell? w _ hw135_6)).trans hw135_6), ((HB.out.cell (World.block_lt_of_cell? w _ hw135_7)).trans hw135_7), ((HB.out.cell (World.block_lt_of_cell? w _ hw135_8)).trans hw135_8), ((HB.out.cell (World.block_lt_of_cell? w _ hw135_9)).trans hw135_9), ((HB.out.cell (World.block_lt_of_cell? w _ hw135_10)).trans hw135_10), ((HB.out.cell (World.block_lt_of_cell? w _ hw135_11)).trans hw135_11), ((HB.out.cell (World.block_lt_of_cell? w _ hw135_12)).trans hw135_12), ((HB.out.cell (World.block_lt_of_cell? w _ hw135_13)).trans hw135_13), ((HB.out.cell (World.block_lt_of_cell? w _ hw136_0)).trans hw136_0), ((HB.out.cell (World.block_lt_of_cell? w _ hw136_1)).trans hw136_1), ((HB.out.cell (World.block_lt_of_cell? w _ hw136_2)).trans hw136_2), ((HB.out.cell (World.block_lt_of_cell? w _ hw136_3)).trans hw136_3), ((HB.out.cell (World.block_lt_of_cell? w _ hw136_4)).trans hw136_4), ((HB.out.cell (World.block_lt_of_cell? w _ hw136_5)).trans hw136_5), ((HB.out.cell (World.block_lt_of_cell? w _ hw136_6)).trans hw136_6), ((HB.out.cell (World.block_lt_of_cell? w _ hw136_7)).trans hw136_7), ((HB.out.cell (World.block_lt_of_cell? w _ hw136_8)).trans hw136_8), ((HB.out.cell (World.block_lt_of_cell? w _ hw136_9)).trans hw136_9), ((HB.out.cell (World.block_lt_of_cell? w _ hw136_10)).trans hw136_10), ((HB.out.cell (World.block_lt_of_cell? w _ hw136_11)).trans hw136_11), ((HB.out.cell (World.block_lt_of_cell? w _ hw136_12)).trans hw136_12), ((HB.out.cell (World.block_lt_of_cell? w _ hw136_13)).trans hw136_13)⟩ (fun hHeld => ?_)
                 clear hK K
                 refine norm_ (a' := ?_) ?_ ?_
                 rotate_left
                 · show Act.put _ (some 6) _ = _
                   simp only [Act.put, List.setIfInBounds_toArray, List.set_cons_zero, List.set_cons_succ, i64_w, i32_w]
                   rfl
                 exact norm_ (by simp only [putAll, Act.put, List.setIfInBounds_toArray, List.set_cons_zero, List.set_cons_succ]) (hCont (gb137, gb138) _ ⟨hHeld, (by (with_reducible repeat (first | refine blk_drewN ?_ _ | refine blk_drew ?_ | refine blk_alloc ?_ _)); exact BK137.out), (by (with_reducible repeat (first | refine blk_drewN ?_ _ | refine blk_drew ?_ | refine blk_alloc ?_ _)); exact BK138.out), GW137.out, GE137.out, NB138_137.out, NB137_138.out, GW138.out, GE138.out, (by repeat (first | (with_reducible first | exact HB.out | apply below_alloc | apply pw_below_drewN | apply below_drew1 | refine below_set ?_ GE138.out | refine below_set ?_ GE137.out) | exact HB.out))⟩)
             rintro ⟨gb137, gb138⟩ w12 ⟨hS_, h0_, h1_, h2_, h3_, h4_, h5_, h6_, h7_, h8_⟩
             have n0_ : Aside0 (w12.heap[gb137]? = some (.cells #[.int .i64 0, .int .i64 0, .string (⟨#[]⟩ : ByteArray), .int .i64 0, .slice none 0 0, .slice none 0 0, .slice none 0 0, .slice none 0 0, .slice none 0 0, .slice none 0 0, .slice none 0 0, .int .u8 0, .int .i64 0, .int .i64 0] 46 (0, 0))) := ⟨h0_⟩
             have n1_ : Aside0 (w12.heap[gb138]? = some (.cells #[.int .i64 0, .int .i64 0, .string (⟨#[]⟩ : ByteArray), .int .i64 0, .slice none 0 0, .slice none 0 0, .slice none 0 0, .slice none 0 0, .slice none 0 0, .slice none 0 0, .slice none 0 0, .int .u8 0, .int .i64 0, .int .i64 0] 46 (0, 0))) := ⟨h1_⟩
             have n2_ : Aside0 (w.heap.size ≤ gb137) := ⟨h2_⟩
             have n3_ : Aside0 (w.heap.size ≤ gb137) := ⟨h3_⟩
             have n4_ : Aside0 (gb138 ≠ gb137) := ⟨h4_⟩
             have n5_ : Aside0 (gb137 ≠ gb138) := ⟨h5_⟩
             have n6_ : Aside0 (w.heap.size ≤ gb138) := ⟨h6_⟩
             have n7_ : Aside0 (w.heap.size ≤ gb138) := ⟨h7_⟩
             have n8_ : Aside0 (Below w.heap.size w w12) := ⟨h8_⟩
             clear HB
             clear h0_ h1_ h2_ h3_ h4_ h5_ h6_ h7_ h8_
             have BK137 := n0_
             have BK138 := n1_
             have GW137 := n2_
             have GE137 := n3_
             have NB138_137 := n4_
             have NB137_138 := n5_
             have GW138 := n6_
             have GE138 := n7_
             have HB := n8_
             clear n0_ n1_ n2_ n3_ n4_ n5_ n6_ n7_ n8_
             have hHeld : w12.cell? (ad135.add ((x15_1).toNat * 14)) = some (.int .i64 ((rd_T46 l0 x15_1).f0)) ∧ w12.cell? ⟨(ad135.add ((x15_1).toNat * 14)).block, (ad135.add ((x15_1).toNat * 14)).off + 1, none⟩ = some (.int .i64 ((rd_T46 l0 x15_1).f1)) ∧ w12.cell? ⟨(ad135.add ((x15_1).toNat * 14)).block, (ad135.add ((x15_1).toNat * 14)).off + 2, none⟩ = some (.string ((rd_T46 l0 x15_1).f2)) ∧ w12.cell? ⟨(ad135.add ((x15_1).toNat * 14)).block, (ad135.add ((x15_1).toNat * 14)).off + 3, none⟩ = some (.int .i64 ((rd_T46 l0 x15_1).f3)) ∧ w12.cell? ⟨(ad135.add ((x15_1).toNat * 14)).block, (ad135.add ((x15_1).toNat * 14)).off + 4, none⟩ = some (.slice A135_4 ((rd_T46 l0 x15_1).f4).length c135_4) ∧ w12.cell? ⟨(ad135.add ((x15_1).toNat * 14)).block, (ad135.add ((x15_1).toNat * 14)).off + 5, none⟩ = some (.slice A135_5 ((rd_T46 l0 x15_1).f5).length c135_5) ∧ w12.cell? ⟨(ad135.add ((x15_1).toNat * 14)).block, (ad135.add ((x15_1).toNat * 14)).off + 6, none⟩ = some (.slice A135_6 ((rd_T46 l0 x15_1).f6).length c135_6) ∧ w12.cell? ⟨(ad135.add ((x15_1).toNat * 14)).block, (ad135.add ((x15_1).toNat * 14)).off + 7, none⟩ = some (.slice A135_7 ((rd_T46 l0 x15_1).f7).length c135_7) ∧ w12.cell? ⟨(ad135.add ((x15_1).toNat * 14)).block, (ad135.add ((x15_1).toNat * 14)).off + 8, none⟩ = some (.slice A135_8 ((rd_T46 l0 x15_1).f8).length c135_8) ∧ w12.cell? ⟨(ad135.add ((x15_1).toNat * 14)).block, (ad135.add ((x15_1).toNat * 14)).off + 9, none⟩ = some (.slice A135_9 ((rd_T46 l0 x15_1).f9).length c135_9) ∧ w12.cell? ⟨(ad135.add ((x15_1).toNat * 14)).block, (ad135.add ((x15_1).toNat * 14)).off + 10, none⟩ = some (.slice A135_10 ((rd_T46 l0 x15_1).f10).length c135_10) ∧ w12.cell? ⟨(ad135.add ((x15_1).toNat * 14)).block, (ad135.add ((x15_1).toNat * 14)).off + 11, none⟩ = some (.int .u8 ((rd_T46 l0 x15_1).f11)) ∧ w12.cell? ⟨(ad135.add ((x15_1).toNat * 14)).block, (ad135.add ((x15_1).toNat * 14)).off + 12, none⟩ = some (.int .i64 ((rd_T46 l0 x15_1).f12)) ∧ w12.cell? ⟨(ad135.add ((x15_1).toNat * 14)).block, (ad135.add ((x15_1).toNat * 14)).off + 13, none⟩ = some (.int .i64 ((rd_T46 l0 x15_1).f13)) ∧ w12.cell? (ad136.add ((x15_1).toNat * 14)) = some (.int .i64 ((rd_T46 l1 x15_1).f0)) ∧ w12.cell? ⟨(ad136.add ((x15_1).toNat * 14)).block, (ad136.add ((x15_1).toNat * 14)).off + 1, none⟩ = some (.int .i64 ((rd_T46 l1 x15_1).f1)) ∧ w12.cell? ⟨(ad136.add ((x15_1).toNat * 14)).block, (ad136.add ((x15_1).toNat * 14)).off + 2, none⟩ = some (.string ((rd_T46 l1 x15_1).f2)) ∧ w12.cell? ⟨(ad136.add ((x15_1).toNat * 14)).block, (ad136.add ((x15_1).toNat * 14)).off + 3, none⟩ = some (.int .i64 ((rd_T46 l1 x15_1).f3)) ∧ w12.cell? ⟨(ad136.add ((x15_1).toNat * 14)).block, (ad136.add ((x15_1).toNat * 14)).off + 4, none⟩ = some (.slice A136_4 ((rd_T46 l1 x15_1).f4).length c136_4) ∧ w12.cell? ⟨(ad136.add ((x15_1).toNat * 14)).block, (ad136.add ((x15_1).toNat * 14)).off + 5, none⟩ = some (.slice A136_5 ((rd_T46 l1 x15_1).f5).length c136_5) ∧ w12.cell? ⟨(ad136.add ((x15_1).toNat * 14)).block, (ad136.add ((x15_1).toNat * 14)).off + 6, none⟩ = some (.slice A136_6 ((rd_T46 l1 x15_1).f6).length c136_6) ∧ w12.cell? ⟨(ad136.add ((x15_1).toNat * 14)).block, (ad136.add ((x15_1).toNat * 14)).off + 7, none⟩ = some (.slice A136_7 ((rd_T46 l1 x15_1).f7).length c136_7) ∧ w12.cell? ⟨(ad136.add ((x15_1).toNat * 14)).block, (ad136.add ((x15_1).toNat * 14)).off + 8, none⟩ = some (.slice A136_8 ((rd_T46 l1 x15_1).f8).length c136_8) ∧ w12.cell? ⟨(ad136.add ((x15_1).toNat * 14)).block, (ad136.add ((x15_1).toNat * 14)).off + 9, none⟩ = some (.slice A136_9 ((rd_T46 l1 x15_1).f9).length c136_9) ∧ w12.cell? ⟨(ad136.add ((x15_1).toNat * 14)).block, (ad136.add ((x15_1).toNat * 14)).off + 10, none⟩ = some (.slice A136_10 ((rd_T46 l1 x15_1).f10).length c136_10) ∧ w12.cell? ⟨(ad136.add ((x15_1).toNat * 14)).block, (ad136.add ((x15_1).toNat * 14)).off + 11, none⟩ = some (.int .u8 ((rd_T46 l1 x15_1).f11)) ∧ w12.cell? ⟨(ad136.add ((x15_1).toNat * 14)).block, (ad136.add ((x15_1).toNat * 14)).off + 12, none⟩ = some (.int .i64 ((rd_T46 l1 x15_1).f12)) ∧ w12.cell? ⟨(ad136.add ((x15_1).toNat * 14)).block, (ad136.add ((x15_1).toNat * 14)).off + 13, none⟩ = some (.int .i64 ((rd_T46 l1 x15_1).f13)) := hS_
             refine norm_ (a' := ?_) ?_ ?_
             rotate_left
             · simp only [putAll, Act.put, List.setIfInBounds_toArray, List.set_cons_zero, List.set_cons_succ]
               rfl
             refine one_ (i := 10) (N := none) #[true, true, true, true, true, true, true, true, true, true, true, false] rfl rfl (one_of HT_.out (by kernel_rfl)) (by decide) (fun K hK => ?_)
             have hs13 : w12.cell? ⟨gb137, 0, none⟩ = some (.int .i64 0) := (blk_cell BK137.out 0).trans rfl
             have hfs13 := blk_frozen BK137.out 0
             have hns13_1 := NB138_137.out
             have hms13_1 := NB137_138.out
             have hs14 : w12.cell? ⟨gb137, 1, none⟩ = some (.int .i64 0) := (blk_cell BK137.out 1).trans rfl
             have hfs14 := blk_frozen BK137.out 1
             have hns14_1 := NB138_137.out
             have hms14_1 := NB137_138.out
             have hs15 : w12.cell? ⟨gb137, 2, none⟩ = some (.string (⟨#[]⟩ : ByteArray)) := (blk_cell BK137.out 2).trans rfl
             have hfs15 := blk_frozen BK137.out 2
             have hns15_1 := NB138_137.out
             have hms15_1 := NB137_138.out
             have hs16 : w12.cell? ⟨gb137, 3, none⟩ = some (.int .i64 0) := (blk_cell BK137.out 3).trans rfl
             have hfs16 := blk_frozen BK137.out 3
             have hns16_1 := NB138_137.out
             have hms16_1 := NB137_138.out
             have hs17 : w12.cell? ⟨gb137, 4, none⟩ = some (.slice none 0 0) := (blk_cell BK137.out 4).trans rfl
             have hfs17 := blk_frozen BK137.out 4
             have hns17_1 := NB138_137.out
             have hms17_1 := NB137_138.out
             have hs18 : w12.cell? ⟨gb137, 5, none⟩ = some (.slice none 0 0) := (blk_cell BK137.out 5).trans rfl
             have hfs18 := blk_frozen BK137.out 5
             have hns18_1 := NB138_137.out
             have hms18_1 := NB137_138.out
             have hs19 : w12.cell? ⟨gb137, 6, none⟩ = some (.slice none 0 0) := (blk_cell BK137.out 6).trans rfl
             have hfs19 := blk_frozen BK137.out 6
             have hns19_1 := NB138_137.out
             have hms19_1 := NB137_138.out
             have hs20 : w12.cell? ⟨gb137, 7, none⟩ = some (.slice none 0 0) := (blk_cell BK137.out 7).trans rfl
             have hfs20 := blk_frozen BK137.out 7
             have hns20_1 := NB138_137.out
             have hms20_1 := NB137_138.out
             have hs21 : w12.cell? ⟨gb137, 8, none⟩ = some (.slice none 0 0) := (blk_cell BK137.out 8).trans rfl
             have hfs21 := blk_frozen BK137.out 8
             have hns21_1 := NB138_137.out
             have hms21_1 := NB137_138.out
             have hs22 : w12.cell? ⟨gb137, 9, none⟩ = some (.slice none 0 0) := (blk_cell BK137.out 9).trans rfl
             have hfs22 := blk_frozen BK137.out 9
             have hns22_1 := NB138_137.out
             have hms22_1 := NB137_138.out
             have hs23 : w12.cell? ⟨gb137, 10, none⟩ = some (.slice none 0 0) := (blk_cell BK137.out 10).trans rfl
             have hfs23 := blk_frozen BK137.out 10
             have hns23_1 := NB138_137.out
             have hms23_1 := NB137_138.out
             have hs24 : w12.cell? ⟨gb137, 11, none⟩ = some (.int .u8 0) := (blk_cell BK137.out 11).trans rfl
             have hfs24 := blk_frozen BK137.out 11
             have hns24_1 := NB138_137.out
             have hms24_1 := NB137_138.out
             have hs25 : w12.cell? ⟨gb137, 12, none⟩ = some (.int .i64 0) := (blk_cell BK137.out 12).trans rfl
             have hfs25 := blk_frozen BK137.out 12
             have hns25_1 := NB138_137.out
             have hms25_1 := NB137_138.out
             have hs26 : w12.cell? ⟨gb137, 13, none⟩ = some (.int .i64 0) := (blk_cell BK137.out 13).trans rfl
             have hfs26 := blk_frozen BK137.out 13
             have hns26_1 := NB138_137.out
             have hms26_1 := NB137_138.out
             refine skipN_ (w1 := ?_) rfl rfl ?_ ?_
             rotate_left
             · go_simp
               rfl
             refine hK.out _ _ ⟨(far14b hw135_0 GW137.out (hHeld.1)), (far14b hw135_1 GW137.out (hHeld.2.1)), (far14b hw135_2 GW137.out (hHeld.2.2.1)), (far14b hw135_3 GW137.out (hHeld.2.2.2.1)), (far14b hw135_4 GW137.out (hHeld.2.2.2.2.1)), (far14b hw135_5 GW137.out (hHeld.2.2.2.2.2.1)), (far14b hw135_6 GW137.out (hHeld.2.2.2.2.2.2.1)), (far14b hw135_7 GW137.out (hHeld.2.2.2.2.2.2.2.1)), (far14b hw135_8 GW137.out (hHeld.2.2.2.2.2.2.2.2.1)), (far14b hw135_9 GW137.out (hHeld.2.2.2.2.2.2.2.2.2.1)), (far14b hw135_10 GW137.out (hHeld.2.2.2.2.2.2.2.2.2.2.1)), (far14b hw135_11 GW137.out (hHeld.2.2.2.2.2.2.2.2.2.2.2.1)), (far14b hw135_12 GW137.out (hHeld.2.2.2.2.2.2.2.2.2.2.2.2.1)), (far14b hw135_13 GW137.out (hHeld.2.2.2.2.2.2.2.2.2.2.2.2.2.1)), (far14b hw136_0 GW137.out (hHeld.2.2.2.2.2.2.2.2.2.2.2.2.2.2.1)), (far14b hw136_1 GW137.out (hHeld.2.2.2.2.2.2.2.2.2.2.2.2.2.2.2.1)), (far14b hw136_2 GW137.out (hHeld.2.2.2.2.2.2.2.2.2.2.2.2.2.2.2.2.1)), (far14b hw136_3 GW137.out (hHeld.2.2.2.2.2.2.2.2.2.2.2.2.2.2.2.2.2.1)), (far14b hw136_4 GW137.out (hHeld.2.2.2.2.2.2.2.2.2.2.2.2.2.2.2.2.2.2.1)), (far14b hw136_5 GW137.out (hHeld.2.2.2.2.2.2.2.2.2.2.2.2.2.2.2.2.2.2.2.1)), (far14b hw136_6 GW137.out (hHeld.2.2.2.2.2.2.2.2.2.2.2.2.2.2.2.2.2.2.2.2.1)), (far14b hw136_7 GW137.out (hHeld.2.2.2.2.2.2.2.2.2.2.2.2.2.2.2.2.2.2.2.2.2.1)), (far14b hw136_8 GW137.out (hHeld.2.2.2.2.2.2.2.2.2.2.2.2.2.2.2.2.2.2.2.2.2.2.1)), (far14b hw136_9 GW137.out (hHeld.2.2.2.2.2.2.2.2.2.2.2.2.2.2.2.2.2.2.2.2.2.2.2.1)), (far14b hw136_10 GW137.out (hHeld.2.2.2.2.2.2.2.2.2.2.2.2.2.2.2.2.2.2.2.2.2.2.2.2.1)), (far14b hw136_11 GW137.out (hHeld.2.2.2.2.2.2.2.2.2.2.2.2.2.2.2.2.2.2.2.2.2.2.2.2.2.1)), (far14b hw136_12 GW137.out (hHeld.2.2.2.2.2.2.2.2.2.2.2.2.2.2.2.2.2.2.2.2.2.2.2.2.2.2.1)), (far14b hw136_13 GW137.out (hHeld.2.2.2.2.2.2.2.2.2.2.2.2.2.2.2.2.2.2.2.2.2.2.2.2.2.2.2))⟩ (fun hHeld => ?_)
             clear hK K
             refine one_ (i := 11) (N := none) #[true, true, true, true, true, true, true, true, true, true, true, true] rfl rfl (one_of HT_.out (by kernel_rfl)) (by decide) (fun K hK => ?_)
             have hs27 : w12.cell? ⟨gb138, 0, none⟩ = some (.int .i64 0) := (blk_cell BK138.out 0).trans rfl
             have hfs27 := blk_frozen BK138.out 0
             have hns27_0 := NB137_138.out
             have hms27_0 := NB138_137.out
             have hs28 : w12.cell? ⟨gb138, 1, none⟩ = some (.int .i64 0) := (blk_cell BK138.out 1).trans rfl
             have hfs28 := blk_frozen BK138.out 1
             have hns28_0 := NB137_138.out
             have hms28_0 := NB138_137.out
             have hs29 : w12.cell? ⟨gb138, 2, none⟩ = some (.string (⟨#[]⟩ : ByteArray)) := (blk_cell BK138.out 2).trans rfl
             have hfs29 := blk_frozen BK138.out 2
             have hns29_0 := NB137_138.out
             have hms29_0 := NB138_137.out
             have hs30 : w12.cell? ⟨gb138, 3, none⟩ = some (.int .i64 0) := (blk_cell BK138.out 3).trans rfl
             have hfs30 := blk_frozen BK138.out 3
             have hns30_0 := NB137_138.out
             have hms30_0 := NB138_137.out
             have hs31 : w12.cell? ⟨gb138, 4, none⟩ = some (.slice none 0 0) := (blk_cell BK138.out 4).trans rfl
             have hfs31 := blk_frozen BK138.out 4
             have hns31_0 := NB137_138.out
             have hms31_0 := NB138_137.out
             have hs32 : w12.cell? ⟨gb138, 5, none⟩ = some (.slice none 0 0) := (blk_cell BK138.out 5).trans rfl
             have hfs32 := blk_frozen BK138.out 5
             have hns32_0 := NB137_138.out
             have hms32_0 := NB138_137.out
             have hs33 : w12.cell? ⟨gb138, 6, none⟩ = some (.slice none 0 0) := (blk_cell BK138.out 6).trans rfl
             have hfs33 := blk_frozen BK138.out 6
             have hns33_0 := NB137_138.out
             have hms33_0 := NB138_137.out
             have hs34 : w12.cell? ⟨gb138, 7, none⟩ = some (.slice none 0 0) := (blk_cell BK138.out 7).trans rfl
             have hfs34 := blk_frozen BK138.out 7
             have hns34_0 := NB137_138.out
             have hms34_0 := NB138_137.out
             have hs35 : w12.cell? ⟨gb138, 8, none⟩ = some (.slice none 0 0) := (blk_cell BK138.out 8).trans rfl
             have hfs35 := blk_frozen BK138.out 8
             have hns35_0 := NB137_138.out
             have hms35_0 := NB138_137.out
             have hs36 : w12.cell? ⟨gb138, 9, none⟩ = some (.slice none 0 0) := (blk_cell BK138.out 9).trans rfl
             have hfs36 := blk_frozen BK138.out 9
             have hns36_0 := NB137_138.out
             have hms36_0 := NB138_137.out
             have hs37 : w12.cell? ⟨gb138, 10, none⟩ = some (.slice none 0 0) := (blk_cell BK138.out 10).trans rfl
             have hfs37 := blk_frozen BK138.out 10
             have hns37_0 := NB137_138.out
             have hms37_0 := NB138_137.out
             have hs38 : w12.cell? ⟨gb138, 11, none⟩ = some (.int .u8 0) := (blk_cell BK138.out 11).trans rfl
             have hfs38 := blk_frozen BK138.out 11
             have hns38_0 := NB137_138.out
             have hms38_0 := NB138_137.out
             have hs39 : w12.cell? ⟨gb138, 12, none⟩ = some (.int .i64 0) := (blk_cell BK138.out 12).trans rfl
             have hfs39 := blk_frozen BK138.out 12
             have hns39_0 := NB137_138.out
             have hms39_0 := NB138_137.out
             have hs40 : w12.cell? ⟨gb138, 13, none⟩ = some (.int .i64 0) := (blk_cell BK138.out 13).trans rfl
             have hfs40 := blk_frozen BK138.out 13
             have hns40_0 := NB137_138.out
             have hms40_0 := NB138_137.out
             refine skipN_ (w1 := ?w1_) ?hg_ ?hN_ ?hr_ ?hk_
             case hN_ => exact rfl
             case hg_ => exact rfl
             rotate_left
             · go_simp
               rfl
             refine hK.out _ _ ⟨(far14b hw135_0 GW138.out (hHeld.1)), (far14b hw135_1 GW138.out (hHeld.2.1)), (far14b hw135_2 GW138.out (hHeld.2.2.1)), (far14b hw135_3 GW138.out (hHeld.2.2.2.1)), (far14b hw135_4 GW138.out (hHeld.2.2.2.2.1)), (far14b hw135_5 GW138.out (hHeld.2.2.2.2.2.1)), (far14b hw135_6 GW138.out (hHeld.2.2.2.2.2.2.1)), (far14b hw135_7 GW138.out (hHeld.2.2.2.2.2.2.2.1)), (far14b hw135_8 GW138.out (hHeld.2.2.2.2.2.2.2.2.1)), (far14b hw135_9 GW138.out (hHeld.2.2.2.2.2.2.2.2.2.1)), (far14b hw135_10 GW138.out (hHeld.2.2.2.2.2.2.2.2.2.2.1)), (far14b hw135_11 GW138.out (hHeld.2.2.2.2.2.2.2.2.2.2.2.1)), (far14b hw135_12 GW138.out (hHeld.2.2.2.2.2.2.2.2.2.2.2.2.1)), (far14b hw135_13 GW138.out (hHeld.2.2.2.2.2.2.2.2.2.2.2.2.2.1)), (far14b hw136_0 GW138.out (hHeld.2.2.2.2.2.2.2.2.2.2.2.2.2.2.1)), (far14b hw136_1 GW138.out (hHeld.2.2.2.2.2.2.2.2.2.2.2.2.2.2.2.1)), (far14b hw136_2 GW138.out (hHeld.2.2.2.2.2.2.2.2.2.2.2.2.2.2.2.2.1)), (far14b hw136_3 GW138.out (hHeld.2.2.2.2.2.2.2.2.2.2.2.2.2.2.2.2.2.1)), (far14b hw136_4 GW138.out (hHeld.2.2.2.2.2.2.2.2.2.2.2.2.2.2.2.2.2.2.1)), (far14b hw136_5 GW138.out (hHeld.2.2.2.2.2.2.2.2.2.2.2.2.2.2.2.2.2.2.2.1)), (far14b hw136_6 GW138.out (hHeld.2.2.2.2.2.2.2.2.2.2.2.2.2.2.2.2.2.2.2.2.1)), (far14b hw136_7 GW138.out (hHeld.2.2.2.2.2.2.2.2.2.2.2.2.2.2.2.2.2.2.2.2.2.1)), (far14b hw136_8 GW138.out (hHeld.2.2.2.2.2.2.2.2.2.2.2.2.2.2.2.2.2.2.2.2.2.2.1)), (far14b hw136_9 GW138.out (hHeld.2.2.2.2.2.2.2.2.2.2.2.2.2.2.2.2.2.2.2.2.2.2.2.1)), (far14b hw136_10 GW138.out (hHeld.2.2.2.2.2.2.2.2.2.2.2.2.2.2.2.2.2.2.2.2.2.2.2.2.1)), (far14b hw136_11 GW138.out (hHeld.2.2.2.2.2.2.2.2.2.2.2.2.2.2.2.2.2.2.2.2.2.2.2.2.2.1)), (far14b hw136_12 GW138.out (hHeld.2.2.2.2.2.2.2.2.2.2.2.2.2.2.2.2.2.2.2.2.2.2.2.2.2.2.1)), (far14b hw136_13 GW138.out (hHeld.2.2.2.2.2.2.2.2.2.2.2.2.2.2.2.2.2.2.2.2.2.2.2.2.2.2.2))⟩ (fun hHeld => ?_)
             clear hK K
             refine done_ (done_of HT_.out (by kernel_rfl)) ?_
             go_upto_region 7 with (fail)
             go_cut [65] (fun v65 wc => ∃ (kq : Nat) (x65_7 : Bool), v65 = .bool x65_7 ∧ Aside0 (relayref05_Same.j1 kq l0 l1 (l0.length : Int) x15_1 x65_7 ((rd_T46 l0 x15_1).f0) ((rd_T46 l0 x15_1).f1) ((rd_T46 l0 x15_1).f2) ((rd_T46 l0 x15_1).f3) ((rd_T46 l0 x15_1).f4) ((rd_T46 l0 x15_1).f5) ((rd_T46 l0 x15_1).f6) ((rd_T46 l0 x15_1).f7) ((rd_T46 l0 x15_1).f8) ((rd_T46 l0 x15_1).f9) ((rd_T46 l0 x15_1).f10) ((rd_T46 l0 x15_1).f11) ((rd_T46 l0 x15_1).f12) ((rd_T46 l0 x15_1).f13) ((rd_T46 l1 x15_1).f0) ((rd_T46 l1 x15_1).f1) ((rd_T46 l1 x15_1).f2) ((rd_T46 l1 x15_1).f3) ((rd_T46 l1 x15_1).f4) ((rd_T46 l1 x15_1).f5) ((rd_T46 l1 x15_1).f6) ((rd_T46 l1 x15_1).f7) ((rd_T46 l1 x15_1).f8) ((rd_T46 l1 x15_1).f9) ((rd_T46 l1 x15_1).f10) ((rd_T46 l1 x15_1).f11) ((rd_T46 l1 x15_1).f12) ((rd_T46 l1 x15_1).f13) = some r) ∧ Aside0 (kq ≤ k1) ∧ Aside0 (wc.heap[gb137]? = some (.cells #[.int .i64 ((rd_T46 l0 x15_1).f0), .int .i64 ((rd_T46 l0 x15_1).f1), .string ((rd_T46 l0 x15_1).f2), .int .i64 ((rd_T46 l0 x15_1).f3), (.slice A135_4 ((rd_T46 l0 x15_1).f4).length c135_4), (.slice A135_5 ((rd_T46 l0 x15_1).f5).length c135_5), (.slice A135_6 ((rd_T46 l0 x15_1).f6).length c135_6), (.slice A135_7 ((rd_T46 l0 x15_1).f7).length c135_7), (.slice A135_8 ((rd_T46 l0 x15_1).f8).length c135_8), (.slice A135_9 ((rd_T46 l0 x15_1).f9).length c135_9), (.slice A135_10 ((rd_T46 l0 x15_1).f10).length c135_10), .int .u8 ((rd_T46 l0 x15_1).f11), .int .i64 ((rd_T46 l0 x15_1).f12), .int .i64 ((rd_T46 l0 x15_1).f13)] 46 (0, 0))) ∧ Aside0 (wc.heap[gb138]? = some (.cells #[.int .i64 ((rd_T46 l1 x15_1).f0), .int .i64 ((rd_T46 l1 x15_1).f1), .string ((rd_T46 l1 x15_1).f2), .int .i64 ((rd_T46 l1 x15_1).f3), (.slice A136_4 ((rd_T46 l1 x15_1).f4).length c136_4), (.slice A136_5 ((rd_T46 l1 x15_1).f5).length c136_5), (.slice A136_6 ((rd_T46 l1 x15_1).f6).length c136_6), (.slice A136_7 ((rd_T46 l1 x15_1).f7).length c136_7), (.slice A136_8 ((rd_T46 l1 x15_1).f8).length c136_8), (.slice A136_9 ((rd_T46 l1 x15_1).f9).length c136_9), (.slice A136_10 ((rd_T46 l1 x15_1).f10).length c136_10), .int .u8 ((rd_T46 l1 x15_1).f11), .int .i64 ((rd_T46 l1 x15_1).f12), .int .i64 ((rd_T46 l1 x15_1).f13)] 46 (0, 0))) ∧ Aside0 (Below w.heap.size w wc))
             case first =>
              have H := HC8.out
              clear HC8
              refine (Classical.em (((rd_T46 l0 x15_1).f0) = ((rd_T46 l1 x15_1).f0))).elim (fun c41 => ?p1_) (fun c41 => ?n1_)
              case' p1_ =>
               rw [if_pos c41] at H
               have c41b0 : (((rd_T46 l0 x15_1).f0) == ((rd_T46 l1 x15_1).f0)) = true := beq_iff_eq.mpr c41
               have c41b1 : (((rd_T46 l0 x15_1).f0) != ((rd_T46 l1 x15_1).f0)) = false := bne_eq_false_iff_eq.mpr c41
               clear c41
               (first | rw [c41b0] | (simp only [i64_w, i32_w]; rw [c41b0]) | skip)
               refine (Classical.em (((rd_T46 l0 x15_1).f2).toList = ((rd_T46 l1 x15_1).f2).toList)).elim (fun c42 => ?p2_) (fun c42 => ?n2_)
               case' p2_ =>
                rw [if_pos c42] at H
                have c42b0 : (((rd_T46 l0 x15_1).f2).toList == ((rd_T46 l1 x15_1).f2).toList) = true := beq_iff_eq.mpr c42
                have c42b1 : (((rd_T46 l0 x15_1).f2).toList != ((rd_T46 l1 x15_1).f2).toList) = false := bne_eq_false_iff_eq.mpr c42
                clear c42
                refine (Classical.em (((rd_T46 l0 x15_1).f0) = 5)).elim (fun c43 => ?p3_) (fun c43 => ?n3_)
                case' p3_ =>
                 rw [if_pos c43] at H
                 have c43b0 : (((rd_T46 l0 x15_1).f0) == 5) = true := beq_iff_eq.mpr c43
                 have c43b1 : (((rd_T46 l0 x15_1).f0) != 5) = false := bne_eq_false_iff_eq.mpr c43
                 clear c43
                 replace H := Option.bind_eq_some_iff.mp H
                 obtain ⟨t139, A440, H⟩ := H
                 replace H : (if t139 = true then ((relayref05_sameTexts.f k1 ((rd_T46 l0 x15_1).f5) ((rd_T46 l1 x15_1).f5)).bind fun t140 => (relayref05_Same.j1 k1 l0 l1 (l0.length : Int) x15_1 (!t140) ((rd_T46 l0 x15_1).f0) ((rd_T46 l0 x15_1).f1) ((rd_T46 l0 x15_1).f2) ((rd_T46 l0 x15_1).f3) ((rd_T46 l0 x15_1).f4) ((rd_T46 l0 x15_1).f5) ((rd_T46 l0 x15_1).f6) ((rd_T46 l0 x15_1).f7) ((rd_T46 l0 x15_1).f8) ((rd_T46 l0 x15_1).f9) ((rd_T46 l0 x15_1).f10) ((rd_T46 l0 x15_1).f11) ((rd_T46 l0 x15_1).f12) ((rd_T46 l0 x15_1).f13) ((rd_T46 l1 x15_1).f0) ((rd_T46 l1 x15_1).f1) ((rd_T46 l1 x15_1).f2) ((rd_T46 l1 x15_1).f3) ((rd_T46 l1 x15_1).f4) ((rd_T46 l1 x15_1).f5) ((rd_T46 l1 x15_1).f6) ((rd_T46 l1 x15_1).f7) ((rd_T46 l1 x15_1).f8) ((rd_T46 l1 x15_1).f9) ((rd_T46 l1 x15_1).f10) ((rd_T46 l1 x15_1).f11) ((rd_T46 l1 x15_1).f12) ((rd_T46 l1 x15_1).f13))) else (relayref05_Same.j1 k1 l0 l1 (l0.length : Int) x15_1 true ((rd_T46 l0 x15_1).f0) ((rd_T46 l0 x15_1).f1) ((rd_T46 l0 x15_1).f2) ((rd_T46 l0 x15_1).f3) ((rd_T46 l0 x15_1).f4) ((rd_T46 l0 x15_1).f5) ((rd_T46 l0 x15_1).f6) ((rd_T46 l0 x15_1).f7) ((rd_T46 l0 x15_1).f8) ((rd_T46 l0 x15_1).f9) ((rd_T46 l0 x15_1).f10) ((rd_T46 l0 x15_1).f11) ((rd_T46 l0 x15_1).f12) ((rd_T46 l0 x15_1).f13) ((rd_T46 l1 x15_1).f0) ((rd_T46 l1 x15_1).f1) ((rd_T46 l1 x15_1).f2) ((rd_T46 l1 x15_1).f3) ((rd_T46 l1 x15_1).f4) ((rd_T46 l1 x15_1).f5) ((rd_T46 l1 x15_1).f6) ((rd_T46 l1 x15_1).f7) ((rd_T46 l1 x15_1).f8) ((rd_T46 l1 x15_1).f9) ((rd_T46 l1 x15_1).f10) ((rd_T46 l1 x15_1).f11) ((rd_T46 l1 x15_1).f12) ((rd_T46 l1 x15_1).f13))) = some r := H
                 have A44 := Aside0.mk A440
                 clear A440
                 refine (Classical.em (t139 = true)).elim (fun c45 => ?p4_) (fun c45 => ?n4_)
                 case' p4_ =>
                  subst c45
                  have H1 : ((relayref05_sameTexts.f k1 ((rd_T46 l0 x15_1).f5) ((rd_T46 l1 x15_1).f5)).bind fun t140 => (relayref05_Same.j1 k1 l0 l1 (l0.length : Int) x15_1 (!t140) ((rd_T46 l0 x15_1).f0) ((rd_T46 l0 x15_1).f1) ((rd_T46 l0 x15_1).f2) ((rd_T46 l0 x15_1).f3) ((rd_T46 l0 x15_1).f4) ((rd_T46 l0 x15_1).f5) ((rd_T46 l0 x15_1).f6) ((rd_T46 l0 x15_1).f7) ((rd_T46 l0 x15_1).f8) ((rd_T46 l0 x15_1).f9) ((rd_T46 l0 x15_1).f10) ((rd_T46 l0 x15_1).f11) ((rd_T46 l0 x15_1).f12) ((rd_T46 l0 x15_1).f13) ((rd_T46 l1 x15_1).f0) ((rd_T46 l1 x15_1).f1) ((rd_T46 l1 x15_1).f2) ((rd_T46 l1 x15_1).f3) ((rd_T46 l1 x15_1).f4) ((rd_T46 l1 x15_1).f5) ((rd_T46 l1 x15_1).f6) ((rd_T46 l1 x15_1).f7) ((rd_T46 l1 x15_1).f8) ((rd_T46 l1 x15_1).f9) ((rd_T46 l1 x15_1).f10) ((rd_T46 l1 x15_1).f11) ((rd_T46 l1 x15_1).f12) ((rd_T46 l1 x15_1).f13))) = some r := by rw [if_pos rfl] at H; exact H
                  clear H
                  have H := H1
                  clear H1
                  replace H := Option.bind_eq_some_iff.mp H
                  obtain ⟨t140, A460, H⟩ := H
                  replace H : (relayref05_Same.j1 k1 l0 l1 (l0.length : Int) x15_1 (!t140) ((rd_T46 l0 x15_1).f0) ((rd_T46 l0 x15_1).f1) ((rd_T46 l0 x15_1).f2) ((rd_T46 l0 x15_1).f3) ((rd_T46 l0 x15_1).f4) ((rd_T46 l0 x15_1).f5) ((rd_T46 l0 x15_1).f6) ((rd_T46 l0 x15_1).f7) ((rd_T46 l0 x15_1).f8) ((rd_T46 l0 x15_1).f9) ((rd_T46 l0 x15_1).f10) ((rd_T46 l0 x15_1).f11) ((rd_T46 l0 x15_1).f12) ((rd_T46 l0 x15_1).f13) ((rd_T46 l1 x15_1).f0) ((rd_T46 l1 x15_1).f1) ((rd_T46 l1 x15_1).f2) ((rd_T46 l1 x15_1).f3) ((rd_T46 l1 x15_1).f4) ((rd_T46 l1 x15_1).f5) ((rd_T46 l1 x15_1).f6) ((rd_T46 l1 x15_1).f7) ((rd_T46 l1 x15_1).f8) ((rd_T46 l1 x15_1).f9) ((rd_T46 l1 x15_1).f10) ((rd_T46 l1 x15_1).f11) ((rd_T46 l1 x15_1).f12) ((rd_T46 l1 x15_1).f13)) = some r := H
                  have A46 := Aside0.mk A460
                  clear A460
                  have H' := Aside0.mk H
                  clear H
                  have hnb47 := NB137_138.out
                  have hnc47 := NB138_137.out
                  obtain ⟨hcz48_0, hcz48_1, hcz48_2, hcz48_3, hcz48_4, hcz48_5, hcz48_6, hcz48_7, hcz48_8, hcz48_9, hcz48_10, hcz48_11, hcz48_12, hcz48_13, hfz48_0, hfz48_1, hfz48_2, hfz48_3, hfz48_4, hfz48_5, hfz48_6, hfz48_7, hfz48_8, hfz48_9, hfz48_10, hfz48_11, hfz48_12, hfz48_13⟩ := cells14 BK137.out
                  obtain ⟨hcz49_0, hcz49_1, hcz49_2, hcz49_3, hcz49_4, hcz49_5, hcz49_6, hcz49_7, hcz49_8, hcz49_9, hcz49_10, hcz49_11, hcz49_12, hcz49_13, hfz49_0, hfz49_1, hfz49_2, hfz49_3, hfz49_4, hfz49_5, hfz49_6, hfz49_7, hfz49_8, hfz49_9, hfz49_10, hfz49_11, hfz49_12, hfz49_13⟩ := cells14 BK138.out
                 case' n4_ =>
                  replace c45 := Bool.eq_false_iff.mpr c45
                  subst c45
                  have H1 : (relayref05_Same.j1 k1 l0 l1 (l0.length : Int) x15_1 true ((rd_T46 l0 x15_1).f0) ((rd_T46 l0 x15_1).f1) ((rd_T46 l0 x15_1).f2) ((rd_T46 l0 x15_1).f3) ((rd_T46 l0 x15_1).f4) ((rd_T46 l0 x15_1).f5) ((rd_T46 l0 x15_1).f6) ((rd_T46 l0 x15_1).f7) ((rd_T46 l0 x15_1).f8) ((rd_T46 l0 x15_1).f9) ((rd_T46 l0 x15_1).f10) ((rd_T46 l0 x15_1).f11) ((rd_T46 l0 x15_1).f12) ((rd_T46 l0 x15_1).f13) ((rd_T46 l1 x15_1).f0) ((rd_T46 l1 x15_1).f1) ((rd_T46 l1 x15_1).f2) ((rd_T46 l1 x15_1).f3) ((rd_T46 l1 x15_1).f4) ((rd_T46 l1 x15_1).f5) ((rd_T46 l1 x15_1).f6) ((rd_T46 l1 x15_1).f7) ((rd_T46 l1 x15_1).f8) ((rd_T46 l1 x15_1).f9) ((rd_T46 l1 x15_1).f10) ((rd_T46 l1 x15_1).f11) ((rd_T46 l1 x15_1).f12) ((rd_T46 l1 x15_1).f13)) = some r := by rw [if_neg (show ¬ (false = true) by decide)] at H; exact H
                  clear H
                  have H := H1
                  clear H1
                  have H' := Aside0.mk H
                  clear H
                  have hnb53 := NB137_138.out
                  have hnc53 := NB138_137.out
                  obtain ⟨hcz54_0, hcz54_1, hcz54_2, hcz54_3, hcz54_4, hcz54_5, hcz54_6, hcz54_7, hcz54_8, hcz54_9, hcz54_10, hcz54_11, hcz54_12, hcz54_13, hfz54_0, hfz54_1, hfz54_2, hfz54_3, hfz54_4, hfz54_5, hfz54_6, hfz54_7, hfz54_8, hfz54_9, hfz54_10, hfz54_11, hfz54_12, hfz54_13⟩ := cells14 BK137.out
                  obtain ⟨hcz55_0, hcz55_1, hcz55_2, hcz55_3, hcz55_4, hcz55_5, hcz55_6, hcz55_7, hcz55_8, hcz55_9, hcz55_10, hcz55_11, hcz55_12, hcz55_13, hfz55_0, hfz55_1, hfz55_2, hfz55_3, hfz55_4, hfz55_5, hfz55_6, hfz55_7, hfz55_8, hfz55_9, hfz55_10, hfz55_11, hfz55_12, hfz55_13⟩ := cells14 BK138.out
                case' n3_ =>
                 rw [if_neg c43] at H
                 have c43b0 : (((rd_T46 l0 x15_1).f0) == 5) = false := beq_eq_false_iff_ne.mpr c43
                 have c43b1 : (((rd_T46 l0 x15_1).f0) != 5) = true := bne_iff_ne.mpr c43
                 refine (Classical.em (((rd_T46 l0 x15_1).f3) = ((rd_T46 l1 x15_1).f3))).elim (fun c57 => ?p5_) (fun c57 => ?n5_)
                 case' p5_ =>
                  rw [if_pos c57] at H
                  have c57b0 : (((rd_T46 l0 x15_1).f3) == ((rd_T46 l1 x15_1).f3)) = true := beq_iff_eq.mpr c57
                  have c57b1 : (((rd_T46 l0 x15_1).f3) != ((rd_T46 l1 x15_1).f3)) = false := bne_eq_false_iff_eq.mpr c57
                  clear c57
                  replace H := Option.bind_eq_some_iff.mp H
                  obtain ⟨t141, A580, H⟩ := H
                  replace H : (if t141 = true then ((relayref05_sameTexts.f k1 ((rd_T46 l0 x15_1).f5) ((rd_T46 l1 x15_1).f5)).bind fun t142 => (relayref05_Same.j1 k1 l0 l1 (l0.length : Int) x15_1 (!t142) ((rd_T46 l0 x15_1).f0) ((rd_T46 l0 x15_1).f1) ((rd_T46 l0 x15_1).f2) ((rd_T46 l0 x15_1).f3) ((rd_T46 l0 x15_1).f4) ((rd_T46 l0 x15_1).f5) ((rd_T46 l0 x15_1).f6) ((rd_T46 l0 x15_1).f7) ((rd_T46 l0 x15_1).f8) ((rd_T46 l0 x15_1).f9) ((rd_T46 l0 x15_1).f10) ((rd_T46 l0 x15_1).f11) ((rd_T46 l0 x15_1).f12) ((rd_T46 l0 x15_1).f13) ((rd_T46 l1 x15_1).f0) ((rd_T46 l1 x15_1).f1) ((rd_T46 l1 x15_1).f2) ((rd_T46 l1 x15_1).f3) ((rd_T46 l1 x15_1).f4) ((rd_T46 l1 x15_1).f5) ((rd_T46 l1 x15_1).f6) ((rd_T46 l1 x15_1).f7) ((rd_T46 l1 x15_1).f8) ((rd_T46 l1 x15_1).f9) ((rd_T46 l1 x15_1).f10) ((rd_T46 l1 x15_1).f11) ((rd_T46 l1 x15_1).f12) ((rd_T46 l1 x15_1).f13))) else (relayref05_Same.j1 k1 l0 l1 (l0.length : Int) x15_1 true ((rd_T46 l0 x15_1).f0) ((rd_T46 l0 x15_1).f1) ((rd_T46 l0 x15_1).f2) ((rd_T46 l0 x15_1).f3) ((rd_T46 l0 x15_1).f4) ((rd_T46 l0 x15_1).f5) ((rd_T46 l0 x15_1).f6) ((rd_T46 l0 x15_1).f7) ((rd_T46 l0 x15_1).f8) ((rd_T46 l0 x15_1).f9) ((rd_T46 l0 x15_1).f10) ((rd_T46 l0 x15_1).f11) ((rd_T46 l0 x15_1).f12) ((rd_T46 l0 x15_1).f13) ((rd_T46 l1 x15_1).f0) ((rd_T46 l1 x15_1).f1) ((rd_T46 l1 x15_1).f2) ((rd_T46 l1 x15_1).f3) ((rd_T46 l1 x15_1).f4) ((rd_T46 l1 x15_1).f5) ((rd_T46 l1 x15_1).f6) ((rd_T46 l1 x15_1).f7) ((rd_T46 l1 x15_1).f8) ((rd_T46 l1 x15_1).f9) ((rd_T46 l1 x15_1).f10) ((rd_T46 l1 x15_1).f11) ((rd_T46 l1 x15_1).f12) ((rd_T46 l1 x15_1).f13))) = some r := H
                  have A58 := Aside0.mk A580
                  clear A580
                  refine (Classical.em (t141 = true)).elim (fun c59 => ?p6_) (fun c59 => ?n6_)
                  case' p6_ =>
                   subst c59
                   have H1 : ((relayref05_sameTexts.f k1 ((rd_T46 l0 x15_1).f5) ((rd_T46 l1 x15_1).f5)).bind fun t142 => (relayref05_Same.j1 k1 l0 l1 (l0.length : Int) x15_1 (!t142) ((rd_T46 l0 x15_1).f0) ((rd_T46 l0 x15_1).f1) ((rd_T46 l0 x15_1).f2) ((rd_T46 l0 x15_1).f3) ((rd_T46 l0 x15_1).f4) ((rd_T46 l0 x15_1).f5) ((rd_T46 l0 x15_1).f6) ((rd_T46 l0 x15_1).f7) ((rd_T46 l0 x15_1).f8) ((rd_T46 l0 x15_1).f9) ((rd_T46 l0 x15_1).f10) ((rd_T46 l0 x15_1).f11) ((rd_T46 l0 x15_1).f12) ((rd_T46 l0 x15_1).f13) ((rd_T46 l1 x15_1).f0) ((rd_T46 l1 x15_1).f1) ((rd_T46 l1 x15_1).f2) ((rd_T46 l1 x15_1).f3) ((rd_T46 l1 x15_1).f4) ((rd_T46 l1 x15_1).f5) ((rd_T46 l1 x15_1).f6) ((rd_T46 l1 x15_1).f7) ((rd_T46 l1 x15_1).f8) ((rd_T46 l1 x15_1).f9) ((rd_T46 l1 x15_1).f10) ((rd_T46 l1 x15_1).f11) ((rd_T46 l1 x15_1).f12) ((rd_T46 l1 x15_1).f13))) = some r := by rw [if_pos rfl] at H; exact H
                   clear H
                   have H := H1
                   clear H1
                   replace H := Option.bind_eq_some_iff.mp H
                   obtain ⟨t142, A600, H⟩ := H
                   replace H : (relayref05_Same.j1 k1 l0 l1 (l0.length : Int) x15_1 (!t142) ((rd_T46 l0 x15_1).f0) ((rd_T46 l0 x15_1).f1) ((rd_T46 l0 x15_1).f2) ((rd_T46 l0 x15_1).f3) ((rd_T46 l0 x15_1).f4) ((rd_T46 l0 x15_1).f5) ((rd_T46 l0 x15_1).f6) ((rd_T46 l0 x15_1).f7) ((rd_T46 l0 x15_1).f8) ((rd_T46 l0 x15_1).f9) ((rd_T46 l0 x15_1).f10) ((rd_T46 l0 x15_1).f11) ((rd_T46 l0 x15_1).f12) ((rd_T46 l0 x15_1).f13) ((rd_T46 l1 x15_1).f0) ((rd_T46 l1 x15_1).f1) ((rd_T46 l1 x15_1).f2) ((rd_T46 l1 x15_1).f3) ((rd_T46 l1 x15_1).f4) ((rd_T46 l1 x15_1).f5) ((rd_T46 l1 x15_1).f6) ((rd_T46 l1 x15_1).f7) ((rd_T46 l1 x15_1).f8) ((rd_T46 l1 x15_1).f9) ((rd_T46 l1 x15_1).f10) ((rd_T46 l1 x15_1).f11) ((rd_T46 l1 x15_1).f12) ((rd_T46 l1 x15_1).f13)) = some r := H
                   have A60 := Aside0.mk A600
                   clear A600
                   have H' := Aside0.mk H
                   clear H
                   have hnb61 := NB137_138.out
                   have hnc61 := NB138_137.out
                   obtain ⟨hcz62_0, hcz62_1, hcz62_2, hcz62_3, hcz62_4, hcz62_5, hcz62_6, hcz62_7, hcz62_8, hcz62_9, hcz62_10, hcz62_11, hcz62_12, hcz62_13, hfz62_0, hfz62_1, hfz62_2, hfz62_3, hfz62_4, hfz62_5, hfz62_6, hfz62_7, hfz62_8, hfz62_9, hfz62_10, hfz62_11, hfz62_12, hfz62_13⟩ := cells14 BK137.out
                   obtain ⟨hcz63_0, hcz63_1, hcz63_2, hcz63_3, hcz63_4, hcz63_5, hcz63_6, hcz63_7, hcz63_8, hcz63_9, hcz63_10, hcz63_11, hcz63_12, hcz63_13, hfz63_0, hfz63_1, hfz63_2, hfz63_3, hfz63_4, hfz63_5, hfz63_6, hfz63_7, hfz63_8, hfz63_9, hfz63_10, hfz63_11, hfz63_12, hfz63_13⟩ := cells14 BK138.out
                  case' n6_ =>
                   replace c59 := Bool.eq_false_iff.mpr c59
                   subst c59
                   have H1 : (relayref05_Same.j1 k1 l0 l1 (l0.length : Int) x15_1 true ((rd_T46 l0 x15_1).f0) ((rd_T46 l0 x15_1).f1) ((rd_T46 l0 x15_1).f2) ((rd_T46 l0 x15_1).f3) ((rd_T46 l0 x15_1).f4) ((rd_T46 l0 x15_1).f5) ((rd_T46 l0 x15_1).f6) ((rd_T46 l0 x15_1).f7) ((rd_T46 l0 x15_1).f8) ((rd_T46 l0 x15_1).f9) ((rd_T46 l0 x15_1).f10) ((rd_T46 l0 x15_1).f11) ((rd_T46 l0 x15_1).f12) ((rd_T46 l0 x15_1).f13) ((rd_T46 l1 x15_1).f0) ((rd_T46 l1 x15_1).f1) ((rd_T46 l1 x15_1).f2) ((rd_T46 l1 x15_1).f3) ((rd_T46 l1 x15_1).f4) ((rd_T46 l1 x15_1).f5) ((rd_T46 l1 x15_1).f6) ((rd_T46 l1 x15_1).f7) ((rd_T46 l1 x15_1).f8) ((rd_T46 l1 x15_1).f9) ((rd_T46 l1 x15_1).f10) ((rd_T46 l1 x15_1).f11) ((rd_T46 l1 x15_1).f12) ((rd_T46 l1 x15_1).f13)) = some r := by rw [if_neg (show ¬ (false = true) by decide)] at H; exact H
                   clear H
                   have H := H1
                   clear H1
                   have H' := Aside0.mk H
                   clear H
                   have hnb67 := NB137_138.out
                   have hnc67 := NB138_137.out
                   obtain ⟨hcz68_0, hcz68_1, hcz68_2, hcz68_3, hcz68_4, hcz68_5, hcz68_6, hcz68_7, hcz68_8, hcz68_9, hcz68_10, hcz68_11, hcz68_12, hcz68_13, hfz68_0, hfz68_1, hfz68_2, hfz68_3, hfz68_4, hfz68_5, hfz68_6, hfz68_7, hfz68_8, hfz68_9, hfz68_10, hfz68_11, hfz68_12, hfz68_13⟩ := cells14 BK137.out
                   obtain ⟨hcz69_0, hcz69_1, hcz69_2, hcz69_3, hcz69_4, hcz69_5, hcz69_6, hcz69_7, hcz69_8, hcz69_9, hcz69_10, hcz69_11, hcz69_12, hcz69_13, hfz69_0, hfz69_1, hfz69_2, hfz69_3, hfz69_4, hfz69_5, hfz69_6, hfz69_7, hfz69_8, hfz69_9, hfz69_10, hfz69_11, hfz69_12, hfz69_13⟩ := cells14 BK138.out
                 case' n5_ =>
                  rw [if_neg c57] at H
                  have c57b0 : (((rd_T46 l0 x15_1).f3) == ((rd_T46 l1 x15_1).f3)) = false := beq_eq_false_iff_ne.mpr c57
                  have c57b1 : (((rd_T46 l0 x15_1).f3) != ((rd_T46 l1 x15_1).f3)) = true := bne_iff_ne.mpr c57
                  have H' := Aside0.mk H
                  clear H
                  have hnb71 := NB137_138.out
                  have hnc71 := NB138_137.out
                  obtain ⟨hcz72_0, hcz72_1, hcz72_2, hcz72_3, hcz72_4, hcz72_5, hcz72_6, hcz72_7, hcz72_8, hcz72_9, hcz72_10, hcz72_11, hcz72_12, hcz72_13, hfz72_0, hfz72_1, hfz72_2, hfz72_3, hfz72_4, hfz72_5, hfz72_6, hfz72_7, hfz72_8, hfz72_9, hfz72_10, hfz72_11, hfz72_12, hfz72_13⟩ := cells14 BK137.out
                  obtain ⟨hcz73_0, hcz73_1, hcz73_2, hcz73_3, hcz73_4, hcz73_5, hcz73_6, hcz73_7, hcz73_8, hcz73_9, hcz73_10, hcz73_11, hcz73_12, hcz73_13, hfz73_0, hfz73_1, hfz73_2, hfz73_3, hfz73_4, hfz73_5, hfz73_6, hfz73_7, hfz73_8, hfz73_9, hfz73_10, hfz73_11, hfz73_12, hfz73_13⟩ := cells14 BK138.out
                  go_wp2
                  go_meet
                  case rel => exact ⟨_, (true), (by first | rfl | (simp; done) | (simp [*]; done) | (simp [*, bne]; done)), H', ⟨by have := HK1.out; first | omega | exact Nat.le_refl _⟩, ⟨by (with_reducible repeat (first | refine blk_drewN ?_ _ | refine blk_drew ?_ | refine blk_alloc ?_ _)); refine blk_far ?_ NB137_138.out _; (with_reducible repeat (first | refine blk_drewN ?_ _ | refine blk_drew ?_ | refine blk_alloc ?_ _)); refine blk_far ?_ NB137_138.out _; (with_reducible repeat (first | refine blk_drewN ?_ _ | refine blk_drew ?_ | refine blk_alloc ?_ _)); refine blk_far ?_ NB137_138.out _; (with_reducible repeat (first | refine blk_drewN ?_ _ | refine blk_drew ?_ | refine blk_alloc ?_ _)); refine blk_far ?_ NB137_138.out _; (with_reducible repeat (first | refine blk_drewN ?_ _ | refine blk_drew ?_ | refine blk_alloc ?_ _)); refine blk_far ?_ NB137_138.out _; (with_reducible repeat (first | refine blk_drewN ?_ _ | refine blk_drew ?_ | refine blk_alloc ?_ _)); refine blk_far ?_ NB137_138.out _; (with_reducible repeat (first | refine blk_drewN ?_ _ | refine blk_drew ?_ | refine blk_alloc ?_ _)); refine blk_far ?_ NB137_138.out _; (with_reducible repeat (first | refine blk_drewN ?_ _ | refine blk_drew ?_ | refine blk_alloc ?_ _)); refine blk_far ?_ NB137_138.out _; (with_reducible repeat (first | refine blk_drewN ?_ _ | refine blk_drew ?_ | refine blk_alloc ?_ _)); refine blk_far ?_ NB137_138.out _; (with_reducible repeat (first | refine blk_drewN ?_ _ | refine blk_drew ?_ | refine blk_alloc ?_ _)); refine blk_far ?_ NB137_138.out _; (with_reducible repeat (first | refine blk_drewN ?_ _ | refine blk_drew ?_ | refine blk_alloc ?_ _)); refine blk_far ?_ NB137_138.out _; (with_reducible repeat (first | refine blk_drewN ?_ _ | refine blk_drew ?_ | refine blk_alloc ?_ _)); refine blk_far ?_ NB137_138.out _; (with_reducible repeat (first | refine blk_drewN ?_ _ | refine blk_drew ?_ | refine blk_alloc ?_ _)); refine blk_far ?_ NB137_138.out _; (with_reducible repeat (first | refine blk_drewN ?_ _ | refine blk_drew ?_ | refine blk_alloc ?_ _)); refine blk_far ?_ NB137_138.out _; (with_reducible repeat (first | refine blk_drewN ?_ _ | refine blk_drew ?_ | refine blk_alloc ?_ _)); apply put14; (with_reducible repeat (first | refine blk_drewN ?_ _ | refine blk_drew ?_ | refine blk_alloc ?_ _)); exact BK137.out⟩, ⟨by (with_reducible repeat (first | refine blk_drewN ?_ _ | refine blk_drew ?_ | refine blk_alloc ?_ _)); apply put14; (with_reducible repeat (first | refine blk_drewN ?_ _ | refine blk_drew ?_ | refine blk_alloc ?_ _)); refine blk_far ?_ NB138_137.out _; (with_reducible repeat (first | refine blk_drewN ?_ _ | refine blk_drew ?_ | refine blk_alloc ?_ _)); refine blk_far ?_ NB138_137.out _; (with_reducible repeat (first | refine blk_drewN ?_ _ | refine blk_drew ?_ | refine blk_alloc ?_ _)); refine blk_far ?_ NB138_137.out _; (with_reducible repeat (first | refine blk_drewN ?_ _ | refine blk_drew ?_ | refine blk_alloc ?_ _)); refine blk_far ?_ NB138_137.out _; (with_reducible repeat (first | refine blk_drewN ?_ _ | refine blk_drew ?_ | refine blk_alloc ?_ _)); refine blk_far ?_ NB138_137.out _; (with_reducible repeat (first | refine blk_drewN ?_ _ | refine blk_drew ?_ | refine blk_alloc ?_ _)); refine blk_far ?_ NB138_137.out _; (with_reducible repeat (first | refine blk_drewN ?_ _ | refine blk_drew ?_ | refine blk_alloc ?_ _)); refine blk_far ?_ NB138_137.out _; (with_reducible repeat (first | refine blk_drewN ?_ _ | refine blk_drew ?_ | refine blk_alloc ?_ _)); refine blk_far ?_ NB138_137.out _; (with_reducible repeat (first | refine blk_drewN ?_ _ | refine blk_drew ?_ | refine blk_alloc ?_ _)); refine blk_far ?_ NB138_137.out _; (with_reducible repeat (first | refine blk_drewN ?_ _ | refine blk_drew ?_ | refine blk_alloc ?_ _)); refine blk_far ?_ NB138_137.out _; (with_reducible repeat (first | refine blk_drewN ?_ _ | refine blk_drew ?_ | refine blk_alloc ?_ _)); refine blk_far ?_ NB138_137.out _; (with_reducible repeat (first | refine blk_drewN ?_ _ | refine blk_drew ?_ | refine blk_alloc ?_ _)); refine blk_far ?_ NB138_137.out _; (with_reducible repeat (first | refine blk_drewN ?_ _ | refine blk_drew ?_ | refine blk_alloc ?_ _)); refine blk_far ?_ NB138_137.out _; (with_reducible repeat (first | refine blk_drewN ?_ _ | refine blk_drew ?_ | refine blk_alloc ?_ _)); refine blk_far ?_ NB138_137.out _; (with_reducible repeat (first | refine blk_drewN ?_ _ | refine blk_drew ?_ | refine blk_alloc ?_ _)); exact BK138.out⟩, ⟨by repeat (first | (with_reducible first | exact HB.out | apply below_alloc | apply pw_below_drewN | apply below_drew1 | refine below_set ?_ GE137.out | refine below_set ?_ GE138.out) | exact HB.out)⟩⟩
               case' n2_ =>
                rw [if_neg c42] at H
                have c42b0 : (((rd_T46 l0 x15_1).f2).toList == ((rd_T46 l1 x15_1).f2).toList) = false := beq_eq_false_iff_ne.mpr c42
                have c42b1 : (((rd_T46 l0 x15_1).f2).toList != ((rd_T46 l1 x15_1).f2).toList) = true := bne_iff_ne.mpr c42
                have H' := Aside0.mk H
                clear H
                have hnb74 := NB137_138.out
                have hnc74 := NB138_137.out
                obtain ⟨hcz75_0, hcz75_1, hcz75_2, hcz75_3, hcz75_4, hcz75_5, hcz75_6, hcz75_7, hcz75_8, hcz75_9, hcz75_10, hcz75_11, hcz75_12, hcz75_13, hfz75_0, hfz75_1, hfz75_2, hfz75_3, hfz75_4, hfz75_5, hfz75_6, hfz75_7, hfz75_8, hfz75_9, hfz75_10, hfz75_11, hfz75_12, hfz75_13⟩ := cells14 BK137.out
                obtain ⟨hcz76_0, hcz76_1, hcz76_2, hcz76_3, hcz76_4, hcz76_5, hcz76_6, hcz76_7, hcz76_8, hcz76_9, hcz76_10, hcz76_11, hcz76_12, hcz76_13, hfz76_0, hfz76_1, hfz76_2, hfz76_3, hfz76_4, hfz76_5, hfz76_6, hfz76_7, hfz76_8, hfz76_9, hfz76_10, hfz76_11, hfz76_12, hfz76_13⟩ := cells14 BK138.out
                go_wp2
                go_meet
                case rel => exact ⟨_, (true), (by first | rfl | (simp; done) | (simp [*]; done) | (simp [*, bne]; done)), H', ⟨by have := HK1.out; first | omega | exact Nat.le_refl _⟩, ⟨by (with_reducible repeat (first | refine blk_drewN ?_ _ | refine blk_drew ?_ | refine blk_alloc ?_ _)); refine blk_far ?_ NB137_138.out _; (with_reducible repeat (first | refine blk_drewN ?_ _ | refine blk_drew ?_ | refine blk_alloc ?_ _)); refine blk_far ?_ NB137_138.out _; (with_reducible repeat (first | refine blk_drewN ?_ _ | refine blk_drew ?_ | refine blk_alloc ?_ _)); refine blk_far ?_ NB137_138.out _; (with_reducible repeat (first | refine blk_drewN ?_ _ | refine blk_drew ?_ | refine blk_alloc ?_ _)); refine blk_far ?_ NB137_138.out _; (with_reducible repeat (first | refine blk_drewN ?_ _ | refine blk_drew ?_ | refine blk_alloc ?_ _)); refine blk_far ?_ NB137_138.out _; (with_reducible repeat (first | refine blk_drewN ?_ _ | refine blk_drew ?_ | refine blk_alloc ?_ _)); refine blk_far ?_ NB137_138.out _; (with_reducible repeat (first | refine blk_drewN ?_ _ | refine blk_drew ?_ | refine blk_alloc ?_ _)); refine blk_far ?_ NB137_138.out _; (with_reducible repeat (first | refine blk_drewN ?_ _ | refine blk_drew ?_ | refine blk_alloc ?_ _)); refine blk_far ?_ NB137_138.out _; (with_reducible repeat (first | refine blk_drewN ?_ _ | refine blk_drew ?_ | refine blk_alloc ?_ _)); refine blk_far ?_ NB137_138.out _; (with_reducible repeat (first | refine blk_drewN ?_ _ | refine blk_drew ?_ | refine blk_alloc ?_ _)); refine blk_far ?_ NB137_138.out _; (with_reducible repeat (first | refine blk_drewN ?_ _ | refine blk_drew ?_ | refine blk_alloc ?_ _)); refine blk_far ?_ NB137_138.out _; (with_reducible repeat (first | refine blk_drewN ?_ _ | refine blk_drew ?_ | refine blk_alloc ?_ _)); refine blk_far ?_ NB137_138.out _; (with_reducible repeat (first | refine blk_drewN ?_ _ | refine blk_drew ?_ | refine blk_alloc ?_ _)); refine blk_far ?_ NB137_138.out _; (with_reducible repeat (first | refine blk_drewN ?_ _ | refine blk_drew ?_ | refine blk_alloc ?_ _)); refine blk_far ?_ NB137_138.out _; (with_reducible repeat (first | refine blk_drewN ?_ _ | refine blk_drew ?_ | refine blk_alloc ?_ _)); apply put14; (with_reducible repeat (first | refine blk_drewN ?_ _ | refine blk_drew ?_ | refine blk_alloc ?_ _)); exact BK137.out⟩, ⟨by (with_reducible repeat (first | refine blk_drewN ?_ _ | refine blk_drew ?_ | refine blk_alloc ?_ _)); apply put14; (with_reducible repeat (first | refine blk_drewN ?_ _ | refine blk_drew ?_ | refine blk_alloc ?_ _)); refine blk_far ?_ NB138_137.out _; (with_reducible repeat (first | refine blk_drewN ?_ _ | refine blk_drew ?_ | refine blk_alloc ?_ _)); refine blk_far ?_ NB138_137.out _; (with_reducible repeat (first | refine blk_drewN ?_ _ | refine blk_drew ?_ | refine blk_alloc ?_ _)); refine blk_far ?_ NB138_137.out _; (with_reducible repeat (first | refine blk_drewN ?_ _ | refine blk_drew ?_ | refine blk_alloc ?_ _)); refine blk_far ?_ NB138_137.out _; (with_reducible repeat (first | refine blk_drewN ?_ _ | refine blk_drew ?_ | refine blk_alloc ?_ _)); refine blk_far ?_ NB138_137.out _; (with_reducible repeat (first | refine blk_drewN ?_ _ | refine blk_drew ?_ | refine blk_alloc ?_ _)); refine blk_far ?_ NB138_137.out _; (with_reducible repeat (first | refine blk_drewN ?_ _ | refine blk_drew ?_ | refine blk_alloc ?_ _)); refine blk_far ?_ NB138_137.out _; (with_reducible repeat (first | refine blk_drewN ?_ _ | refine blk_drew ?_ | refine blk_alloc ?_ _)); refine blk_far ?_ NB138_137.out _; (with_reducible repeat (first | refine blk_drewN ?_ _ | refine blk_drew ?_ | refine blk_alloc ?_ _)); refine blk_far ?_ NB138_137.out _; (with_reducible repeat (first | refine blk_drewN ?_ _ | refine blk_drew ?_ | refine blk_alloc ?_ _)); refine blk_far ?_ NB138_137.out _; (with_reducible repeat (first | refine blk_drewN ?_ _ | refine blk_drew ?_ | refine blk_alloc ?_ _)); refine blk_far ?_ NB138_137.out _; (with_reducible repeat (first | refine blk_drewN ?_ _ | refine blk_drew ?_ | refine blk_alloc ?_ _)); refine blk_far ?_ NB138_137.out _; (with_reducible repeat (first | refine blk_drewN ?_ _ | refine blk_drew ?_ | refine blk_alloc ?_ _)); refine blk_far ?_ NB138_137.out _; (with_reducible repeat (first | refine blk_drewN ?_ _ | refine blk_drew ?_ | refine blk_alloc ?_ _)); refine blk_far ?_ NB138_137.out _; (with_reducible repeat (first | refine blk_drewN ?_ _ | refine blk_drew ?_ | refine blk_alloc ?_ _)); exact BK138.out⟩, ⟨by repeat (first | (with_reducible first | exact HB.out | apply below_alloc | apply pw_below_drewN | apply below_drew1 | refine below_set ?_ GE137.out | refine below_set ?_ GE138.out) | exact HB.out)⟩⟩
              case' n1_ =>
               rw [if_neg c41] at H
               have c41b0 : (((rd_T46 l0 x15_1).f0) == ((rd_T46 l1 x15_1).f0)) = false := beq_eq_false_iff_ne.mpr c41
               have c41b1 : (((rd_T46 l0 x15_1).f0) != ((rd_T46 l1 x15_1).f0)) = true := bne_iff_ne.mpr c41
               (first | rw [c41b0] | (simp only [i64_w, i32_w]; rw [c41b0]) | skip)
               have H' := Aside0.mk H
               clear H
               have hnb77 := NB137_138.out
               have hnc77 := NB138_137.out
               obtain ⟨hcz78_0, hcz78_1, hcz78_2, hcz78_3, hcz78_4, hcz78_5, hcz78_6, hcz78_7, hcz78_8, hcz78_9, hcz78_10, hcz78_11, hcz78_12, hcz78_13, hfz78_0, hfz78_1, hfz78_2, hfz78_3, hfz78_4, hfz78_5, hfz78_6, hfz78_7, hfz78_8, hfz78_9, hfz78_10, hfz78_11, hfz78_12, hfz78_13⟩ := cells14 BK137.out
               obtain ⟨hcz79_0, hcz79_1, hcz79_2, hcz79_3, hcz79_4, hcz79_5, hcz79_6, hcz79_7, hcz79_8, hcz79_9, hcz79_10, hcz79_11, hcz79_12, hcz79_13, hfz79_0, hfz79_1, hfz79_2, hfz79_3, hfz79_4, hfz79_5, hfz79_6, hfz79_7, hfz79_8, hfz79_9, hfz79_10, hfz79_11, hfz79_12, hfz79_13⟩ := cells14 BK138.out
               go_wp2
               go_meet
               case rel => exact ⟨_, (true), (by first | rfl | (simp; done) | (simp [*]; done) | (simp [*, bne]; done)), H', ⟨by have := HK1.out; first | omega | exact Nat.le_refl _⟩, ⟨by (with_reducible repeat (first | refine blk_drewN ?_ _ | refine blk_drew ?_ | refine blk_alloc ?_ _)); refine blk_far ?_ NB137_138.out _; (with_reducible repeat (first | refine blk_drewN ?_ _ | refine blk_drew ?_ | refine blk_alloc ?_ _)); refine blk_far ?_ NB137_138.out _; (with_reducible repeat (first | refine blk_drewN ?_ _ | refine blk_drew ?_ | refine blk_alloc ?_ _)); refine blk_far ?_ NB137_138.out _; (with_reducible repeat (first | refine blk_drewN ?_ _ | refine blk_drew ?_ | refine blk_alloc ?_ _)); refine blk_far ?_ NB137_138.out _; (with_reducible repeat (first | refine blk_drewN ?_ _ | refine blk_drew ?_ | refine blk_alloc ?_ _)); refine blk_far ?_ NB137_138.out _; (with_reducible repeat (first | refine blk_drewN ?_ _ | refine blk_drew ?_ | refine blk_alloc ?_ _)); refine blk_far ?_ NB137_138.out _; (with_reducible repeat (first | refine blk_drewN ?_ _ | refine blk_drew ?_ | refine blk_alloc ?_ _)); refine blk_far ?_ NB137_138.out _; (with_reducible repeat (first | refine blk_drewN ?_ _ | refine blk_drew ?_ | refine blk_alloc ?_ _)); refine blk_far ?_ NB137_138.out _; (with_reducible repeat (first | refine blk_drewN ?_ _ | refine blk_drew ?_ | refine blk_alloc ?_ _)); refine blk_far ?_ NB137_138.out _; (with_reducible repeat (first | refine blk_drewN ?_ _ | refine blk_drew ?_ | refine blk_alloc ?_ _)); refine blk_far ?_ NB137_138.out _; (with_reducible repeat (first | refine blk_drewN ?_ _ | refine blk_drew ?_ | refine blk_alloc ?_ _)); refine blk_far ?_ NB137_138.out _; (with_reducible repeat (first | refine blk_drewN ?_ _ | refine blk_drew ?_ | refine blk_alloc ?_ _)); refine blk_far ?_ NB137_138.out _; (with_reducible repeat (first | refine blk_drewN ?_ _ | refine blk_drew ?_ | refine blk_alloc ?_ _)); refine blk_far ?_ NB137_138.out _; (with_reducible repeat (first | refine blk_drewN ?_ _ | refine blk_drew ?_ | refine blk_alloc ?_ _)); refine blk_far ?_ NB137_138.out _; (with_reducible repeat (first | refine blk_drewN ?_ _ | refine blk_drew ?_ | refine blk_alloc ?_ _)); apply put14; (with_reducible repeat (first | refine blk_drewN ?_ _ | refine blk_drew ?_ | refine blk_alloc ?_ _)); exact BK137.out⟩, ⟨by (with_reducible repeat (first | refine blk_drewN ?_ _ | refine blk_drew ?_ | refine blk_alloc ?_ _)); apply put14; (with_reducible repeat (first | refine blk_drewN ?_ _ | refine blk_drew ?_ | refine blk_alloc ?_ _)); refine blk_far ?_ NB138_137.out _; (with_reducible repeat (first | refine blk_drewN ?_ _ | refine blk_drew ?_ | refine blk_alloc ?_ _)); refine blk_far ?_ NB138_137.out _; (with_reducible repeat (first | refine blk_drewN ?_ _ | refine blk_drew ?_ | refine blk_alloc ?_ _)); refine blk_far ?_ NB138_137.out _; (with_reducible repeat (first | refine blk_drewN ?_ _ | refine blk_drew ?_ | refine blk_alloc ?_ _)); refine blk_far ?_ NB138_137.out _; (with_reducible repeat (first | refine blk_drewN ?_ _ | refine blk_drew ?_ | refine blk_alloc ?_ _)); refine blk_far ?_ NB138_137.out _; (with_reducible repeat (first | refine blk_drewN ?_ _ | refine blk_drew ?_ | refine blk_alloc ?_ _)); refine blk_far ?_ NB138_137.out _; (with_reducible repeat (first | refine blk_drewN ?_ _ | refine blk_drew ?_ | refine blk_alloc ?_ _)); refine blk_far ?_ NB138_137.out _; (with_reducible repeat (first | refine blk_drewN ?_ _ | refine blk_drew ?_ | refine blk_alloc ?_ _)); refine blk_far ?_ NB138_137.out _; (with_reducible repeat (first | refine blk_drewN ?_ _ | refine blk_drew ?_ | refine blk_alloc ?_ _)); refine blk_far ?_ NB138_137.out _; (with_reducible repeat (first | refine blk_drewN ?_ _ | refine blk_drew ?_ | refine blk_alloc ?_ _)); refine blk_far ?_ NB138_137.out _; (with_reducible repeat (first | refine blk_drewN ?_ _ | refine blk_drew ?_ | refine blk_alloc ?_ _)); refine blk_far ?_ NB138_137.out _; (with_reducible repeat (first | refine blk_drewN ?_ _ | refine blk_drew ?_ | refine blk_alloc ?_ _)); refine blk_far ?_ NB138_137.out _; (with_reducible repeat (first | refine blk_drewN ?_ _ | refine blk_drew ?_ | refine blk_alloc ?_ _)); refine blk_far ?_ NB138_137.out _; (with_reducible repeat (first | refine blk_drewN ?_ _ | refine blk_drew ?_ | refine blk_alloc ?_ _)); refine blk_far ?_ NB138_137.out _; (with_reducible repeat (first | refine blk_drewN ?_ _ | refine blk_drew ?_ | refine blk_alloc ?_ _)); exact BK138.out⟩, ⟨by repeat (first | (with_reducible first | exact HB.out | apply below_alloc | apply pw_below_drewN | apply below_drew1 | refine below_set ?_ GE137.out | refine below_set ?_ GE138.out) | exact HB.out)⟩⟩
              all_goals go_wp2_with (first | (go_at_call 28; (with_reducible refine (relayref05_sameExprs.calls k1 _ _ ((rd_T46 l0 x15_1).f4) _ _ ((rd_T46 l1 x15_1).f4) _ _ ?side1 ?side2 ?side3 ?side4 A44.out).mono ?_); (case side1 => exact Kd.C_below HR135_4.out (by repeat (first | (with_reducible first | exact HB.out | apply below_alloc | apply pw_below_drewN | apply below_drew1 | refine below_set ?_ GE137.out | refine below_set ?_ GE138.out) | exact HB.out))); (case side2 => exact HC135_4.out); (case side3 => exact Kd.C_below HR136_4.out (by repeat (first | (with_reducible first | exact HB.out | apply below_alloc | apply pw_below_drewN | apply below_drew1 | refine below_set ?_ GE137.out | refine below_set ?_ GE138.out) | exact HB.out))); (case side4 => exact HC136_4.out); rintro e w50 ⟨rfl, hb⟩; have n0_ := Aside0.mk (blk_below (g := gb137) (o := .cells #[.int .i64 ((rd_T46 l0 x15_1).f0), .int .i64 ((rd_T46 l0 x15_1).f1), .string ((rd_T46 l0 x15_1).f2), .int .i64 ((rd_T46 l0 x15_1).f3), .slice A135_4 ((rd_T46 l0 x15_1).f4).length c135_4, .slice A135_5 ((rd_T46 l0 x15_1).f5).length c135_5, .slice A135_6 ((rd_T46 l0 x15_1).f6).length c135_6, .slice A135_7 ((rd_T46 l0 x15_1).f7).length c135_7, .slice A135_8 ((rd_T46 l0 x15_1).f8).length c135_8, .slice A135_9 ((rd_T46 l0 x15_1).f9).length c135_9, .slice A135_10 ((rd_T46 l0 x15_1).f10).length c135_10, .int .u8 ((rd_T46 l0 x15_1).f11), .int .i64 ((rd_T46 l0 x15_1).f12), .int .i64 ((rd_T46 l0 x15_1).f13)] 46 (0, 0)) (by (with_reducible repeat (first | refine blk_drewN ?_ _ | refine blk_drew ?_ | refine blk_alloc ?_ _)); refine blk_far ?_ NB137_138.out _; (with_reducible repeat (first | refine blk_drewN ?_ _ | refine blk_drew ?_ | refine blk_alloc ?_ _)); refine blk_far ?_ NB137_138.out _; (with_reducible repeat (first | refine blk_drewN ?_ _ | refine blk_drew ?_ | refine blk_alloc ?_ _)); refine blk_far ?_ NB137_138.out _; (with_reducible repeat (first | refine blk_drewN ?_ _ | refine blk_drew ?_ | refine blk_alloc ?_ _)); refine blk_far ?_ NB137_138.out _; (with_reducible repeat (first | refine blk_drewN ?_ _ | refine blk_drew ?_ | refine blk_alloc ?_ _)); refine blk_far ?_ NB137_138.out _; (with_reducible repeat (first | refine blk_drewN ?_ _ | refine blk_drew ?_ | refine blk_alloc ?_ _)); refine blk_far ?_ NB137_138.out _; (with_reducible repeat (first | refine blk_drewN ?_ _ | refine blk_drew ?_ | refine blk_alloc ?_ _)); refine blk_far ?_ NB137_138.out _; (with_reducible repeat (first | refine blk_drewN ?_ _ | refine blk_drew ?_ | refine blk_alloc ?_ _)); refine blk_far ?_ NB137_138.out _; (with_reducible repeat (first | refine blk_drewN ?_ _ | refine blk_drew ?_ | refine blk_alloc ?_ _)); refine blk_far ?_ NB137_138.out _; (with_reducible repeat (first | refine blk_drewN ?_ _ | refine blk_drew ?_ | refine blk_alloc ?_ _)); refine blk_far ?_ NB137_138.out _; (with_reducible repeat (first | refine blk_drewN ?_ _ | refine blk_drew ?_ | refine blk_alloc ?_ _)); refine blk_far ?_ NB137_138.out _; (with_reducible repeat (first | refine blk_drewN ?_ _ | refine blk_drew ?_ | refine blk_alloc ?_ _)); refine blk_far ?_ NB137_138.out _; (with_reducible repeat (first | refine blk_drewN ?_ _ | refine blk_drew ?_ | refine blk_alloc ?_ _)); refine blk_far ?_ NB137_138.out _; (with_reducible repeat (first | refine blk_drewN ?_ _ | refine blk_drew ?_ | refine blk_alloc ?_ _)); refine blk_far ?_ NB137_138.out _; (with_reducible repeat (first | refine blk_drewN ?_ _ | refine blk_drew ?_ | refine blk_alloc ?_ _)); apply put14; (with_reducible repeat (first | refine blk_drewN ?_ _ | refine blk_drew ?_ | refine blk_alloc ?_ _)); exact BK137.out) hb); have n1_ := Aside0.mk (blk_below (g := gb138) (o := .cells #[.int .i64 ((rd_T46 l1 x15_1).f0), .int .i64 ((rd_T46 l1 x15_1).f1), .string ((rd_T46 l1 x15_1).f2), .int .i64 ((rd_T46 l1 x15_1).f3), .slice A136_4 ((rd_T46 l1 x15_1).f4).length c136_4, .slice A136_5 ((rd_T46 l1 x15_1).f5).length c136_5, .slice A136_6 ((rd_T46 l1 x15_1).f6).length c136_6, .slice A136_7 ((rd_T46 l1 x15_1).f7).length c136_7, .slice A136_8 ((rd_T46 l1 x15_1).f8).length c136_8, .slice A136_9 ((rd_T46 l1 x15_1).f9).length c136_9, .slice A136_10 ((rd_T46 l1 x15_1).f10).length c136_10, .int .u8 ((rd_T46 l1 x15_1).f11), .int .i64 ((rd_T46 l1 x15_1).f12), .int .i64 ((rd_T46 l1 x15_1).f13)] 46 (0, 0)) (by (with_reducible repeat (first | refine blk_drewN ?_ _ | refine blk_drew ?_ | refine blk_alloc ?_ _)); apply put14; (with_reducible repeat (first | refine blk_drewN ?_ _ | refine blk_drew ?_ | refine blk_alloc ?_ _)); refine blk_far ?_ NB138_137.out _; (with_reducible repeat (first | refine blk_drewN ?_ _ | refine blk_drew ?_ | refine blk_alloc ?_ _)); refine blk_far ?_ NB138_137.out _; (with_reducible repeat (first | refine blk_drewN ?_ _ | refine blk_drew ?_ | refine blk_alloc ?_ _)); refine blk_far ?_ NB138_137.out _; (with_reducible repeat (first | refine blk_drewN ?_ _ | refine blk_drew ?_ | refine blk_alloc ?_ _)); refine blk_far ?_ NB138_137.out _; (with_reducible repeat (first | refine blk_drewN ?_ _ | refine blk_drew ?_ | refine blk_alloc ?_ _)); refine blk_far ?_ NB138_137.out _; (with_reducible repeat (first | refine blk_drewN ?_ _ | refine blk_drew ?_ | refine blk_alloc ?_ _)); refine blk_far ?_ NB138_137.out _; (with_reducible repeat (first | refine blk_drewN ?_ _ | refine blk_drew ?_ | refine blk_alloc ?_ _)); refine blk_far ?_ NB138_137.out _; (with_reducible repeat (first | refine blk_drewN ?_ _ | refine blk_drew ?_ | refine blk_alloc ?_ _)); refine blk_far ?_ NB138_137.out _; (with_reducible repeat (first | refine blk_drewN ?_ _ | refine blk_drew ?_ | refine blk_alloc ?_ _)); refine blk_far ?_ NB138_137.out _; (with_reducible repeat (first | refine blk_drewN ?_ _ | refine blk_drew ?_ | refine blk_alloc ?_ _)); refine blk_far ?_ NB138_137.out _; (with_reducible repeat (first | refine blk_drewN ?_ _ | refine blk_drew ?_ | refine blk_alloc ?_ _)); refine blk_far ?_ NB138_137.out _; (with_reducible repeat (first | refine blk_drewN ?_ _ | refine blk_drew ?_ | refine blk_alloc ?_ _)); refine blk_far ?_ NB138_137.out _; (with_reducible repeat (first | refine blk_drewN ?_ _ | refine blk_drew ?_ | refine blk_alloc ?_ _)); refine blk_far ?_ NB138_137.out _; (with_reducible repeat (first | refine blk_drewN ?_ _ | refine blk_drew ?_ | refine blk_alloc ?_ _)); refine blk_far ?_ NB138_137.out _; (with_reducible repeat (first | refine blk_drewN ?_ _ | refine blk_drew ?_ | refine blk_alloc ?_ _)); exact BK138.out) hb); have n2_ := Aside0.mk (below_step (by repeat (first | (with_reducible first | exact HB.out | apply below_alloc | apply pw_below_drewN | apply below_drew1 | refine below_set ?_ GE137.out | refine below_set ?_ GE138.out) | exact HB.out)) hb); clear BK137; clear BK138; clear HB; have BK137 := n0_; have BK138 := n1_; have HB := n2_; clear n0_ n1_ n2_; (try clear hb); (try clear hb2); (try clear hk); (try clear hi); obtain ⟨hcz51_0, hcz51_1, hcz51_2, hcz51_3, hcz51_4, hcz51_5, hcz51_6, hcz51_7, hcz51_8, hcz51_9, hcz51_10, hcz51_11, hcz51_12, hcz51_13, hfz51_0, hfz51_1, hfz51_2, hfz51_3, hfz51_4, hfz51_5, hfz51_6, hfz51_7, hfz51_8, hfz51_9, hfz51_10, hfz51_11, hfz51_12, hfz51_13⟩ := cells14 BK137.out; obtain ⟨hcz52_0, hcz52_1, hcz52_2, hcz52_3, hcz52_4, hcz52_5, hcz52_6, hcz52_7, hcz52_8, hcz52_9, hcz52_10, hcz52_11, hcz52_12, hcz52_13, hfz52_0, hfz52_1, hfz52_2, hfz52_3, hfz52_4, hfz52_5, hfz52_6, hfz52_7, hfz52_8, hfz52_9, hfz52_10, hfz52_11, hfz52_12, hfz52_13⟩ := cells14 BK138.out) | (go_at_call 29; (with_reducible refine (relayref05_sameTexts.calls k1 _ _ ((rd_T46 l0 x15_1).f5) _ _ ((rd_T46 l1 x15_1).f5) t140 _ ?side1 ?side2 ?side3 ?side4 A46.out).mono ?_); (case side1 => repeat (first | exact (Kd.C_below HR135_5.out HB.out) | (with_reducible refine Kd.C_alloc ?_ _) | (with_reducible refine Kd.C_drewN ?_ _) | (with_reducible refine Kd.C_drew ?_))); (case side2 => exact HC135_5.out); (case side3 => repeat (first | exact (Kd.C_below HR136_5.out HB.out) | (with_reducible refine Kd.C_alloc ?_ _) | (with_reducible refine Kd.C_drewN ?_ _) | (with_reducible refine Kd.C_drew ?_))); (case side4 => exact HC136_5.out); rintro e w' ⟨rfl, ⟨nd, rfl⟩⟩) | (go_at_call 28; (with_reducible refine (relayref05_sameExprs.calls k1 _ _ ((rd_T46 l0 x15_1).f4) _ _ ((rd_T46 l1 x15_1).f4) _ _ ?side1 ?side2 ?side3 ?side4 A58.out).mono ?_); (case side1 => exact Kd.C_below HR135_4.out (by repeat (first | (with_reducible first | exact HB.out | apply below_alloc | apply pw_below_drewN | apply below_drew1 | refine below_set ?_ GE137.out | refine below_set ?_ GE138.out) | exact HB.out))); (case side2 => exact HC135_4.out); (case side3 => exact Kd.C_below HR136_4.out (by repeat (first | (with_reducible first | exact HB.out | apply below_alloc | apply pw_below_drewN | apply below_drew1 | refine below_set ?_ GE137.out | refine below_set ?_ GE138.out) | exact HB.out))); (case side4 => exact HC136_4.out); rintro e w64 ⟨rfl, hb⟩; have n0_ := Aside0.mk (blk_below (g := gb137) (o := .cells #[.int .i64 ((rd_T46 l0 x15_1).f0), .int .i64 ((rd_T46 l0 x15_1).f1), .string ((rd_T46 l0 x15_1).f2), .int .i64 ((rd_T46 l0 x15_1).f3), .slice A135_4 ((rd_T46 l0 x15_1).f4).length c135_4, .slice A135_5 ((rd_T46 l0 x15_1).f5).length c135_5, .slice A135_6 ((rd_T46 l0 x15_1).f6).length c135_6, .slice A135_7 ((rd_T46 l0 x15_1).f7).length c135_7, .slice A135_8 ((rd_T46 l0 x15_1).f8).length c135_8, .slice A135_9 ((rd_T46 l0 x15_1).f9).length c135_9, .slice A135_10 ((rd_T46 l0 x15_1).f10).length c135_10, .int .u8 ((rd_T46 l0 x15_1).f11), .int .i64 ((rd_T46 l0 x15_1).f12), .int .i64 ((rd_T46 l0 x15_1).f13)] 46 (0, 0)) (by (with_reducible repeat (first | refine blk_drewN ?_ _ | refine blk_drew ?_ | refine blk_alloc ?_ _)); refine blk_far ?_ NB137_138.out _; (with_reducible repeat (first | refine blk_drewN ?_ _ | refine blk_drew ?_ | refine blk_alloc ?_ _)); refine blk_far ?_ NB137_138.out _; (with_reducible repeat (first | refine blk_drewN ?_ _ | refine blk_drew ?_ | refine blk_alloc ?_ _)); refine blk_far ?_ NB137_138.out _; (with_reducible repeat (first | refine blk_drewN ?_ _ | refine blk_drew ?_ | refine blk_alloc ?_ _)); refine blk_far ?_ NB137_138.out _; (with_reducible repeat (first | refine blk_drewN ?_ _ | refine blk_drew ?_ | refine blk_alloc ?_ _)); refine blk_far ?_ NB137_138.out _; (with_reducible repeat (first | refine blk_drewN ?_ _ | refine blk_drew ?_ | refine blk_alloc ?_ _)); refine blk_far ?_ NB137_138.out _; (with_reducible repeat (first | refine blk_drewN ?_ _ | refine blk_drew ?_ | refine blk_alloc ?_ _)); refine blk_far ?_ NB137_138.out _; (with_reducible repeat (first | refine blk_drewN ?_ _ | refine blk_drew ?_ | refine blk_alloc ?_ _)); refine blk_far ?_ NB137_138.out _; (with_reducible repeat (first | refine blk_drewN ?_ _ | refine blk_drew ?_ | refine blk_alloc ?_ _)); refine blk_far ?_ NB137_138.out _; (with_reducible repeat (first | refine blk_drewN ?_ _ | refine blk_drew ?_ | refine blk_alloc ?_ _)); refine blk_far ?_ NB137_138.out _; (with_reducible repeat (first | refine blk_drewN ?_ _ | refine blk_drew ?_ | refine blk_alloc ?_ _)); refine blk_far ?_ NB137_138.out _; (with_reducible repeat (first | refine blk_drewN ?_ _ | refine blk_drew ?_ | refine blk_alloc ?_ _)); refine blk_far ?_ NB137_138.out _; (with_reducible repeat (first | refine blk_drewN ?_ _ | refine blk_drew ?_ | refine blk_alloc ?_ _)); refine blk_far ?_ NB137_138.out _; (with_reducible repeat (first | refine blk_drewN ?_ _ | refine blk_drew ?_ | refine blk_alloc ?_ _)); refine blk_far ?_ NB137_138.out _; (with_reducible repeat (first | refine blk_drewN ?_ _ | refine blk_drew ?_ | refine blk_alloc ?_ _)); apply put14; (with_reducible repeat (first | refine blk_drewN ?_ _ | refine blk_drew ?_ | refine blk_alloc ?_ _)); exact BK137.out) hb); have n1_ := Aside0.mk (blk_below (g := gb138) (o := .cells #[.int .i64 ((rd_T46 l1 x15_1).f0), .int .i64 ((rd_T46 l1 x15_1).f1), .string ((rd_T46 l1 x15_1).f2), .int .i64 ((rd_T46 l1 x15_1).f3), .slice A136_4 ((rd_T46 l1 x15_1).f4).length c136_4, .slice A136_5 ((rd_T46 l1 x15_1).f5).length c136_5, .slice A136_6 ((rd_T46 l1 x15_1).f6).length c136_6, .slice A136_7 ((rd_T46 l1 x15_1).f7).length c136_7, .slice A136_8 ((rd_T46 l1 x15_1).f8).length c136_8, .slice A136_9 ((rd_T46 l1 x15_1).f9).length c136_9, .slice A136_10 ((rd_T46 l1 x15_1).f10).length c136_10, .int .u8 ((rd_T46 l1 x15_1).f11), .int .i64 ((rd_T46 l1 x15_1).f12), .int .i64 ((rd_T46 l1 x15_1).f13)] 46 (0, 0)) (by (with_reducible repeat (first | refine blk_drewN ?_ _ | refine blk_drew ?_ | refine blk_alloc ?_ _)); apply put14; (with_reducible repeat (first | refine blk_drewN ?_ _ | refine blk_drew ?_ | refine blk_alloc ?_ _)); refine blk_far ?_ NB138_137.out _; (with_reducible repeat (first | refine blk_drewN ?_ _ | refine blk_drew ?_ | refine blk_alloc ?_ _)); refine blk_far ?_ NB138_137.out _; (with_reducible repeat (first | refine blk_drewN ?_ _ | refine blk_drew ?_ | refine blk_alloc ?_ _)); refine blk_far ?_ NB138_137.out _; (with_reducible repeat (first | refine blk_drewN ?_ _ | refine blk_drew ?_ | refine blk_alloc ?_ _)); refine blk_far ?_ NB138_137.out _; (with_reducible repeat (first | refine blk_drewN ?_ _ | refine blk_drew ?_ | refine blk_alloc ?_ _)); refine blk_far ?_ NB138_137.out _; (with_reducible repeat (first | refine blk_drewN ?_ _ | refine blk_drew ?_ | refine blk_alloc ?_ _)); refine blk_far ?_ NB138_137.out _; (with_reducible repeat (first | refine blk_drewN ?_ _ | refine blk_drew ?_ | refine blk_alloc ?_ _)); refine blk_far ?_ NB138_137.out _; (with_reducible repeat (first | refine blk_drewN ?_ _ | refine blk_drew ?_ | refine blk_alloc ?_ _)); refine blk_far ?_ NB138_137.out _; (with_reducible repeat (first | refine blk_drewN ?_ _ | refine blk_drew ?_ | refine blk_alloc ?_ _)); refine blk_far ?_ NB138_137.out _; (with_reducible repeat (first | refine blk_drewN ?_ _ | refine blk_drew ?_ | refine blk_alloc ?_ _)); refine blk_far ?_ NB138_137.out _; (with_reducible repeat (first | refine blk_drewN ?_ _ | refine blk_drew ?_ | refine blk_alloc ?_ _)); refine blk_far ?_ NB138_137.out _; (with_reducible repeat (first | refine blk_drewN ?_ _ | refine blk_drew ?_ | refine blk_alloc ?_ _)); refine blk_far ?_ NB138_137.out _; (with_reducible repeat (first | refine blk_drewN ?_ _ | refine blk_drew ?_ | refine blk_alloc ?_ _)); refine blk_far ?_ NB138_137.out _; (with_reducible repeat (first | refine blk_drewN ?_ _ | refine blk_drew ?_ | refine blk_alloc ?_ _)); refine blk_far ?_ NB138_137.out _; (with_reducible repeat (first | refine blk_drewN ?_ _ | refine blk_drew ?_ | refine blk_alloc ?_ _)); exact BK138.out) hb); have n2_ := Aside0.mk (below_step (by repeat (first | (with_reducible first | exact HB.out | apply below_alloc | apply pw_below_drewN | apply below_drew1 | refine below_set ?_ GE137.out | refine below_set ?_ GE138.out) | exact HB.out)) hb); clear BK137; clear BK138; clear HB; have BK137 := n0_; have BK138 := n1_; have HB := n2_; clear n0_ n1_ n2_; (try clear hb); (try clear hb2); (try clear hk); (try clear hi); obtain ⟨hcz65_0, hcz65_1, hcz65_2, hcz65_3, hcz65_4, hcz65_5, hcz65_6, hcz65_7, hcz65_8, hcz65_9, hcz65_10, hcz65_11, hcz65_12, hcz65_13, hfz65_0, hfz65_1, hfz65_2, hfz65_3, hfz65_4, hfz65_5, hfz65_6, hfz65_7, hfz65_8, hfz65_9, hfz65_10, hfz65_11, hfz65_12, hfz65_13⟩ := cells14 BK137.out; obtain ⟨hcz66_0, hcz66_1, hcz66_2, hcz66_3, hcz66_4, hcz66_5, hcz66_6, hcz66_7, hcz66_8, hcz66_9, hcz66_10, hcz66_11, hcz66_12, hcz66_13, hfz66_0, hfz66_1, hfz66_2, hfz66_3, hfz66_4, hfz66_5, hfz66_6, hfz66_7, hfz66_8, hfz66_9, hfz66_10, hfz66_11, hfz66_12, hfz66_13⟩ := cells14 BK138.out) | (go_at_call 29; (with_reducible refine (relayref05_sameTexts.calls k1 _ _ ((rd_T46 l0 x15_1).f5) _ _ ((rd_T46 l1 x15_1).f5) t142 _ ?side1 ?side2 ?side3 ?side4 A60.out).mono ?_); (case side1 => repeat (first | exact (Kd.C_below HR135_5.out HB.out) | (with_reducible refine Kd.C_alloc ?_ _) | (with_reducible refine Kd.C_drewN ?_ _) | (with_reducible refine Kd.C_drew ?_))); (case side2 => exact HC135_5.out); (case side3 => repeat (first | exact (Kd.C_below HR136_5.out HB.out) | (with_reducible refine Kd.C_alloc ?_ _) | (with_reducible refine Kd.C_drewN ?_ _) | (with_reducible refine Kd.C_drew ?_))); (case side4 => exact HC136_5.out); rintro e w' ⟨rfl, ⟨nd, rfl⟩⟩) | (go_at_call 28; (with_reducible refine (relayref05_sameExprs.calls k1 _ _ ((rd_T46 l0 x15_1).f4) _ _ ((rd_T46 l1 x15_1).f4) _ _ ?side1 ?side2 ?side3 ?side4 A44.out).mono ?_); (case side1 => exact Kd.C_below HR135_4.out (by repeat (first | (with_reducible first | exact HB.out | apply below_alloc | apply pw_below_drewN | apply below_drew1 | refine below_set ?_ GE137.out | refine below_set ?_ GE138.out) | exact HB.out))); (case side2 => exact HC135_4.out); (case side3 => exact Kd.C_below HR136_4.out (by repeat (first | (with_reducible first | exact HB.out | apply below_alloc | apply pw_below_drewN | apply below_drew1 | refine below_set ?_ GE137.out | refine below_set ?_ GE138.out) | exact HB.out))); (case side4 => exact HC136_4.out); rintro e w56 ⟨rfl, hb⟩; have n0_ := Aside0.mk (blk_below (g := gb137) (o := .cells #[.int .i64 ((rd_T46 l0 x15_1).f0), .int .i64 ((rd_T46 l0 x15_1).f1), .string ((rd_T46 l0 x15_1).f2), .int .i64 ((rd_T46 l0 x15_1).f3), .slice A135_4 ((rd_T46 l0 x15_1).f4).length c135_4, .slice A135_5 ((rd_T46 l0 x15_1).f5).length c135_5, .slice A135_6 ((rd_T46 l0 x15_1).f6).length c135_6, .slice A135_7 ((rd_T46 l0 x15_1).f7).length c135_7, .slice A135_8 ((rd_T46 l0 x15_1).f8).length c135_8, .slice A135_9 ((rd_T46 l0 x15_1).f9).length c135_9, .slice A135_10 ((rd_T46 l0 x15_1).f10).length c135_10, .int .u8 ((rd_T46 l0 x15_1).f11), .int .i64 ((rd_T46 l0 x15_1).f12), .int .i64 ((rd_T46 l0 x15_1).f13)] 46 (0, 0)) (by (with_reducible repeat (first | refine blk_drewN ?_ _ | refine blk_drew ?_ | refine blk_alloc ?_ _)); refine blk_far ?_ NB137_138.out _; (with_reducible repeat (first | refine blk_drewN ?_ _ | refine blk_drew ?_ | refine blk_alloc ?_ _)); refine blk_far ?_ NB137_138.out _; (with_reducible repeat (first | refine blk_drewN ?_ _ | refine blk_drew ?_ | refine blk_alloc ?_ _)); refine blk_far ?_ NB137_138.out _; (with_reducible repeat (first | refine blk_drewN ?_ _ | refine blk_drew ?_ | refine blk_alloc ?_ _)); refine blk_far ?_ NB137_138.out _; (with_reducible repeat (first | refine blk_drewN ?_ _ | refine blk_drew ?_ | refine blk_alloc ?_ _)); refine blk_far ?_ NB137_138.out _; (with_reducible repeat (first | refine blk_drewN ?_ _ | refine blk_drew ?_ | refine blk_alloc ?_ _)); refine blk_far ?_ NB137_138.out _; (with_reducible repeat (first | refine blk_drewN ?_ _ | refine blk_drew ?_ | refine blk_alloc ?_ _)); refine blk_far ?_ NB137_138.out _; (with_reducible repeat (first | refine blk_drewN ?_ _ | refine blk_drew ?_ | refine blk_alloc ?_ _)); refine blk_far ?_ NB137_138.out _; (with_reducible repeat (first | refine blk_drewN ?_ _ | refine blk_drew ?_ | refine blk_alloc ?_ _)); refine blk_far ?_ NB137_138.out _; (with_reducible repeat (first | refine blk_drewN ?_ _ | refine blk_drew ?_ | refine blk_alloc ?_ _)); refine blk_far ?_ NB137_138.out _; (with_reducible repeat (first | refine blk_drewN ?_ _ | refine blk_drew ?_ | refine blk_alloc ?_ _)); refine blk_far ?_ NB137_138.out _; (with_reducible repeat (first | refine blk_drewN ?_ _ | refine blk_drew ?_ | refine blk_alloc ?_ _)); refine blk_far ?_ NB137_138.out _; (with_reducible repeat (first | refine blk_drewN ?_ _ | refine blk_drew ?_ | refine blk_alloc ?_ _)); refine blk_far ?_ NB137_138.out _; (with_reducible repeat (first | refine blk_drewN ?_ _ | refine blk_drew ?_ | refine blk_alloc ?_ _)); refine blk_far ?_ NB137_138.out _; (with_reducible repeat (first | refine blk_drewN ?_ _ | refine blk_drew ?_ | refine blk_alloc ?_ _)); apply put14; (with_reducible repeat (first | refine blk_drewN ?_ _ | refine blk_drew ?_ | refine blk_alloc ?_ _)); exact BK137.out) hb); have n1_ := Aside0.mk (blk_below (g := gb138) (o := .cells #[.int .i64 ((rd_T46 l1 x15_1).f0), .int .i64 ((rd_T46 l1 x15_1).f1), .string ((rd_T46 l1 x15_1).f2), .int .i64 ((rd_T46 l1 x15_1).f3), .slice A136_4 ((rd_T46 l1 x15_1).f4).length c136_4, .slice A136_5 ((rd_T46 l1 x15_1).f5).length c136_5, .slice A136_6 ((rd_T46 l1 x15_1).f6).length c136_6, .slice A136_7 ((rd_T46 l1 x15_1).f7).length c136_7, .slice A136_8 ((rd_T46 l1 x15_1).f8).length c136_8, .slice A136_9 ((rd_T46 l1 x15_1).f9).length c136_9, .slice A136_10 ((rd_T46 l1 x15_1).f10).length c136_10, .int .u8 ((rd_T46 l1 x15_1).f11), .int .i64 ((rd_T46 l1 x15_1).f12), .int .i64 ((rd_T46 l1 x15_1).f13)] 46 (0, 0)) (by (with_reducible repeat (first | refine blk_drewN ?_ _ | refine blk_drew ?_ | refine blk_alloc ?_ _)); apply put14; (with_reducible repeat (first | refine blk_drewN ?_ _ | refine blk_drew ?_ | refine blk_alloc ?_ _)); refine blk_far ?_ NB138_137.out _; (with_reducible repeat (first | refine blk_drewN ?_ _ | refine blk_drew ?_ | refine blk_alloc ?_ _)); refine blk_far ?_ NB138_137.out _; (with_reducible repeat (first | refine blk_drewN ?_ _ | refine blk_drew ?_ | refine blk_alloc ?_ _)); refine blk_far ?_ NB138_137.out _; (with_reducible repeat (first | refine blk_drewN ?_ _ | refine blk_drew ?_ | refine blk_alloc ?_ _)); refine blk_far ?_ NB138_137.out _; (with_reducible repeat (first | refine blk_drewN ?_ _ | refine blk_drew ?_ | refine blk_alloc ?_ _)); refine blk_far ?_ NB138_137.out _; (with_reducible repeat (first | refine blk_drewN ?_ _ | refine blk_drew ?_ | refine blk_alloc ?_ _)); refine blk_far ?_ NB138_137.out _; (with_reducible repeat (first | refine blk_drewN ?_ _ | refine blk_drew ?_ | refine blk_alloc ?_ _)); refine blk_far ?_ NB138_137.out _; (with_reducible repeat (first | refine blk_drewN ?_ _ | refine blk_drew ?_ | refine blk_alloc ?_ _)); refine blk_far ?_ NB138_137.out _; (with_reducible repeat (first | refine blk_drewN ?_ _ | refine blk_drew ?_ | refine blk_alloc ?_ _)); refine blk_far ?_ NB138_137.out _; (with_reducible repeat (first | refine blk_drewN ?_ _ | refine blk_drew ?_ | refine blk_alloc ?_ _)); refine blk_far ?_ NB138_137.out _; (with_reducible repeat (first | refine blk_drewN ?_ _ | refine blk_drew ?_ | refine blk_alloc ?_ _)); refine blk_far ?_ NB138_137.out _; (with_reducible repeat (first | refine blk_drewN ?_ _ | refine blk_drew ?_ | refine blk_alloc ?_ _)); refine blk_far ?_ NB138_137.out _; (with_reducible repeat (first | refine blk_drewN ?_ _ | refine blk_drew ?_ | refine blk_alloc ?_ _)); refine blk_far ?_ NB138_137.out _; (with_reducible repeat (first | refine blk_drewN ?_ _ | refine blk_drew ?_ | refine blk_alloc ?_ _)); refine blk_far ?_ NB138_137.out _; (with_reducible repeat (first | refine blk_drewN ?_ _ | refine blk_drew ?_ | refine blk_alloc ?_ _)); exact BK138.out) hb); have n2_ := Aside0.mk (below_step (by repeat (first | (with_reducible first | exact HB.out | apply below_alloc | apply pw_below_drewN | apply below_drew1 | refine below_set ?_ GE137.out | refine below_set ?_ GE138.out) | exact HB.out)) hb); clear BK137; clear BK138; clear HB; have BK137 := n0_; have BK138 := n1_; have HB := n2_; clear n0_ n1_ n2_; (try clear hb); (try clear hb2); (try clear hk); (try clear hi)) | (go_at_call 28; (with_reducible refine (relayref05_sameExprs.calls k1 _ _ ((rd_T46 l0 x15_1).f4) _ _ ((rd_T46 l1 x15_1).f4) _ _ ?side1 ?side2 ?side3 ?side4 A58.out).mono ?_); (case side1 => exact Kd.C_below HR135_4.out (by repeat (first | (with_reducible first | exact HB.out | apply below_alloc | apply pw_below_drewN | apply below_drew1 | refine below_set ?_ GE137.out | refine below_set ?_ GE138.out) | exact HB.out))); (case side2 => exact HC135_4.out); (case side3 => exact Kd.C_below HR136_4.out (by repeat (first | (with_reducible first | exact HB.out | apply below_alloc | apply pw_below_drewN | apply below_drew1 | refine below_set ?_ GE137.out | refine below_set ?_ GE138.out) | exact HB.out))); (case side4 => exact HC136_4.out); rintro e w70 ⟨rfl, hb⟩; have n0_ := Aside0.mk (blk_below (g := gb137) (o := .cells #[.int .i64 ((rd_T46 l0 x15_1).f0), .int .i64 ((rd_T46 l0 x15_1).f1), .string ((rd_T46 l0 x15_1).f2), .int .i64 ((rd_T46 l0 x15_1).f3), .slice A135_4 ((rd_T46 l0 x15_1).f4).length c135_4, .slice A135_5 ((rd_T46 l0 x15_1).f5).length c135_5, .slice A135_6 ((rd_T46 l0 x15_1).f6).length c135_6, .slice A135_7 ((rd_T46 l0 x15_1).f7).length c135_7, .slice A135_8 ((rd_T46 l0 x15_1).f8).length c135_8, .slice A135_9 ((rd_T46 l0 x15_1).f9).length c135_9, .slice A135_10 ((rd_T46 l0 x15_1).f10).length c135_10, .int .u8 ((rd_T46 l0 x15_1).f11), .int .i64 ((rd_T46 l0 x15_1).f12), .int .i64 ((rd_T46 l0 x15_1).f13)] 46 (0, 0)) (by (with_reducible repeat (first | refine blk_drewN ?_ _ | refine blk_drew ?_ | refine blk_alloc ?_ _)); refine blk_far ?_ NB137_138.out _; (with_reducible repeat (first | refine blk_drewN ?_ _ | refine blk_drew ?_ | refine blk_alloc ?_ _)); refine blk_far ?_ NB137_138.out _; (with_reducible repeat (first | refine blk_drewN ?_ _ | refine blk_drew ?_ | refine blk_alloc ?_ _)); refine blk_far ?_ NB137_138.out _; (with_reducible repeat (first | refine blk_drewN ?_ _ | refine blk_drew ?_ | refine blk_alloc ?_ _)); refine blk_far ?_ NB137_138.out _; (with_reducible repeat (first | refine blk_drewN ?_ _ | refine blk_drew ?_ | refine blk_alloc ?_ _)); refine blk_far ?_ NB137_138.out _; (with_reducible repeat (first | refine blk_drewN ?_ _ | refine blk_drew ?_ | refine blk_alloc ?_ _)); refine blk_far ?_ NB137_138.out _; (with_reducible repeat (first | refine blk_drewN ?_ _ | refine blk_drew ?_ | refine blk_alloc ?_ _)); refine blk_far ?_ NB137_138.out _; (with_reducible repeat (first | refine blk_drewN ?_ _ | refine blk_drew ?_ | refine blk_alloc ?_ _)); refine blk_far ?_ NB137_138.out _; (with_reducible repeat (first | refine blk_drewN ?_ _ | refine blk_drew ?_ | refine blk_alloc ?_ _)); refine blk_far ?_ NB137_138.out _; (with_reducible repeat (first | refine blk_drewN ?_ _ | refine blk_drew ?_ | refine blk_alloc ?_ _)); refine blk_far ?_ NB137_138.out _; (with_reducible repeat (first | refine blk_drewN ?_ _ | refine blk_drew ?_ | refine blk_alloc ?_ _)); refine blk_far ?_ NB137_138.out _; (with_reducible repeat (first | refine blk_drewN ?_ _ | refine blk_drew ?_ | refine blk_alloc ?_ _)); refine blk_far ?_ NB137_138.out _; (with_reducible repeat (first | refine blk_drewN ?_ _ | refine blk_drew ?_ | refine blk_alloc ?_ _)); refine blk_far ?_ NB137_138.out _; (with_reducible repeat (first | refine blk_drewN ?_ _ | refine blk_drew ?_ | refine blk_alloc ?_ _)); refine blk_far ?_ NB137_138.out _; (with_reducible repeat (first | refine blk_drewN ?_ _ | refine blk_drew ?_ | refine blk_alloc ?_ _)); apply put14; (with_reducible repeat (first | refine blk_drewN ?_ _ | refine blk_drew ?_ | refine blk_alloc ?_ _)); exact BK137.out) hb); have n1_ := Aside0.mk (blk_below (g := gb138) (o := .cells #[.int .i64 ((rd_T46 l1 x15_1).f0), .int .i64 ((rd_T46 l1 x15_1).f1), .string ((rd_T46 l1 x15_1).f2), .int .i64 ((rd_T46 l1 x15_1).f3), .slice A136_4 ((rd_T46 l1 x15_1).f4).length c136_4, .slice A136_5 ((rd_T46 l1 x15_1).f5).length c136_5, .slice A136_6 ((rd_T46 l1 x15_1).f6).length c136_6, .slice A136_7 ((rd_T46 l1 x15_1).f7).length c136_7, .slice A136_8 ((rd_T46 l1 x15_1).f8).length c136_8, .slice A136_9 ((rd_T46 l1 x15_1).f9).length c136_9, .slice A136_10 ((rd_T46 l1 x15_1).f10).length c136_10, .int .u8 ((rd_T46 l1 x15_1).f11), .int .i64 ((rd_T46 l1 x15_1).f12), .int .i64 ((rd_T46 l1 x15_1).f13)] 46 (0, 0)) (by (with_reducible repeat (first | refine blk_drewN ?_ _ | refine blk_drew ?_ | refine blk_alloc ?_ _)); apply put14; (with_reducible repeat (first | refine blk_drewN ?_ _ | refine blk_drew ?_ | refine blk_alloc ?_ _)); refine blk_far ?_ NB138_137.out _; (with_reducible repeat (first | refine blk_drewN ?_ _ | refine blk_drew ?_ | refine blk_alloc ?_ _)); refine blk_far ?_ NB138_137.out _; (with_reducible repeat (first | refine blk_drewN ?_ _ | refine blk_drew ?_ | refine blk_alloc ?_ _)); refine blk_far ?_ NB138_137.out _; (with_reducible repeat (first | refine blk_drewN ?_ _ | refine blk_drew ?_ | refine blk_alloc ?_ _)); refine blk_far ?_ NB138_137.out _; (with_reducible repeat (first | refine blk_drewN ?_ _ | refine blk_drew ?_ | refine blk_alloc ?_ _)); refine blk_far ?_ NB138_137.out _; (with_reducible repeat (first | refine blk_drewN ?_ _ | refine blk_drew ?_ | refine blk_alloc ?_ _)); refine blk_far ?_ NB138_137.out _; (with_reducible repeat (first | refine blk_drewN ?_ _ | refine blk_drew ?_ | refine blk_alloc ?_ _)); refine blk_far ?_ NB138_137.out _; (with_reducible repeat (first | refine blk_drewN ?_ _ | refine blk_drew ?_ | refine blk_alloc ?_ _)); refine blk_far ?_ NB138_137.out _; (with_reducible repeat (first | refine blk_drewN ?_ _ | refine blk_drew ?_ | refine blk_alloc ?_ _)); refine blk_far ?_ NB138_137.out _; (with_reducible repeat (first | refine blk_drewN ?_ _ | refine blk_drew ?_ | refine blk_alloc ?_ _)); refine blk_far ?_ NB138_137.out _; (with_reducible repeat (first | refine blk_drewN ?_ _ | refine blk_drew ?_ | refine blk_alloc ?_ _)); refine blk_far ?_ NB138_137.out _; (with_reducible repeat (first | refine blk_drewN ?_ _ | refine blk_drew ?_ | refine blk_alloc ?_ _)); refine blk_far ?_ NB138_137.out _; (with_reducible repeat (first | refine blk_drewN ?_ _ | refine blk_drew ?_ | refine blk_alloc ?_ _)); refine blk_far ?_ NB138_137.out _; (with_reducible repeat (first | refine blk_drewN ?_ _ | refine blk_drew ?_ | refine blk_alloc ?_ _)); refine blk_far ?_ NB138_137.out _; (with_reducible repeat (first | refine blk_drewN ?_ _ | refine blk_drew ?_ | refine blk_alloc ?_ _)); exact BK138.out) hb); have n2_ := Aside0.mk (below_step (by repeat (first | (with_reducible first | exact HB.out | apply below_alloc | apply pw_below_drewN | apply below_drew1 | refine below_set ?_ GE137.out | refine below_set ?_ GE138.out) | exact HB.out)) hb); clear BK137; clear BK138; clear HB; have BK137 := n0_; have BK138 := n1_; have HB := n2_; clear n0_ n1_ n2_; (try clear hb); (try clear hb2); (try clear hk); (try clear hi)))
              all_goals first
               | (go_meet
                  case rel => exact ⟨_, (!t140), (by first | rfl | (simp; done) | (simp [*]; done) | (simp [*, bne]; done)), H', ⟨by have := HK1.out; first | omega | exact Nat.le_refl _⟩, ⟨by (with_reducible repeat (first | refine blk_drewN ?_ _ | refine blk_drew ?_ | refine blk_alloc ?_ _)); exact BK137.out⟩, ⟨by (with_reducible repeat (first | refine blk_drewN ?_ _ | refine blk_drew ?_ | refine blk_alloc ?_ _)); exact BK138.out⟩, ⟨by repeat (first | (with_reducible first | exact HB.out | apply below_alloc | apply pw_below_drewN | apply below_drew1 | refine below_set ?_ GE137.out | refine below_set ?_ GE138.out) | exact HB.out)⟩⟩)
               | (go_meet
                  case rel => exact ⟨_, (true), (by first | rfl | (simp; done) | (simp [*]; done) | (simp [*, bne]; done)), H', ⟨by have := HK1.out; first | omega | exact Nat.le_refl _⟩, ⟨by (with_reducible repeat (first | refine blk_drewN ?_ _ | refine blk_drew ?_ | refine blk_alloc ?_ _)); exact BK137.out⟩, ⟨by (with_reducible repeat (first | refine blk_drewN ?_ _ | refine blk_drew ?_ | refine blk_alloc ?_ _)); exact BK138.out⟩, ⟨by repeat (first | (with_reducible first | exact HB.out | apply below_alloc | apply pw_below_drewN | apply below_drew1 | refine below_set ?_ GE137.out | refine below_set ?_ GE138.out) | exact HB.out)⟩⟩)
               | (go_meet
                  case rel => exact ⟨_, (!t142), (by first | rfl | (simp; done) | (simp [*]; done) | (simp [*, bne]; done)), H', ⟨by have := HK1.out; first | omega | exact Nat.le_refl _⟩, ⟨by (with_reducible repeat (first | refine blk_drewN ?_ _ | refine blk_drew ?_ | refine blk_alloc ?_ _)); exact BK137.out⟩, ⟨by (with_reducible repeat (first | refine blk_drewN ?_ _ | refine blk_drew ?_ | refine blk_alloc ?_ _)); exact BK138.out⟩, ⟨by repeat (first | (with_reducible first | exact HB.out | apply below_alloc | apply pw_below_drewN | apply below_drew1 | refine below_set ?_ GE137.out | refine below_set ?_ GE138.out) | exact HB.out)⟩⟩)
             case rest =>
              clear HC8
              try clear c1
              try clear p2
              try clear c4
              try clear c5
              try clear c6
              try clear c7
              try clear c13
              try clear c41
              try clear c41b0
              try clear c41b1
              try clear c42
              try clear c42b0
              try clear c42b1
              try clear c43
              try clear c43b0
              try clear c43b1
              try clear c45
              try clear c47
              try clear c53
              try clear c57
              try clear c57b0
              try clear c57b1
              try clear c59
              try clear c61
              try clear c67
              try clear c71
              try clear c74
              try clear c77
              try clear hcz48_0 hcz48_1 hcz48_10 hcz48_11 hcz48_12 hcz48_13 hcz48_2 hcz48_3 hcz48_4 hcz48_5 hcz48_6 hcz48_7 hcz48_8 hcz48_9
              try clear hcz49_0 hcz49_1 hcz49_10 hcz49_11 hcz49_12 hcz49_13 hcz49_2 hcz49_3 hcz49_4 hcz49_5 hcz49_6 hcz49_7 hcz49_8 hcz49_9
              try clear hcz51_0 hcz51_1 hcz51_10 hcz51_11 hcz51_12 hcz51_13 hcz51_2 hcz51_3 hcz51_4 hcz51_5 hcz51_6 hcz51_7 hcz51_8 hcz51_9
              try clear hcz52_0 hcz52_1 hcz52_10 hcz52_11 hcz52_12 hcz52_13 hcz52_2 hcz52_3 hcz52_4 hcz52_5 hcz52_6 hcz52_7 hcz52_8 hcz52_9
              try clear hcz54_0 hcz54_1 hcz54_10 hcz54_11 hcz54_12 hcz54_13 hcz54_2 hcz54_3 hcz54_4 hcz54_5 hcz54_6 hcz54_7 hcz54_8 hcz54_9
              try clear hcz55_0 hcz55_1 hcz55_10 hcz55_11 hcz55_12 hcz55_13 hcz55_2 hcz55_3 hcz55_4 hcz55_5 hcz55_6 hcz55_7 hcz55_8 hcz55_9
              try clear hcz62_0 hcz62_1 hcz62_10 hcz62_11 hcz62_12 hcz62_13 hcz62_2 hcz62_3 hcz62_4 hcz62_5 hcz62_6 hcz62_7 hcz62_8 hcz62_9
              try clear hcz63_0 hcz63_1 hcz63_10 hcz63_11 hcz63_12 hcz63_13 hcz63_2 hcz63_3 hcz63_4 hcz63_5 hcz63_6 hcz63_7 hcz63_8 hcz63_9
              try clear hcz65_0 hcz65_1 hcz65_10 hcz65_11 hcz65_12 hcz65_13 hcz65_2 hcz65_3 hcz65_4 hcz65_5 hcz65_6 hcz65_7 hcz65_8 hcz65_9
              try clear hcz66_0 hcz66_1 hcz66_10 hcz66_11 hcz66_12 hcz66_13 hcz66_2 hcz66_3 hcz66_4 hcz66_5 hcz66_6 hcz66_7 hcz66_8 hcz66_9
              try clear hcz68_0 hcz68_1 hcz68_10 hcz68_11 hcz68_12 hcz68_13 hcz68_2 hcz68_3 hcz68_4 hcz68_5 hcz68_6 hcz68_7 hcz68_8 hcz68_9
              try clear hcz69_0 hcz69_1 hcz69_10 hcz69_11 hcz69_12 hcz69_13 hcz69_2 hcz69_3 hcz69_4 hcz69_5 hcz69_6 hcz69_7 hcz69_8 hcz69_9
              try clear hcz72_0 hcz72_1 hcz72_10 hcz72_11 hcz72_12 hcz72_13 hcz72_2 hcz72_3 hcz72_4 hcz72_5 hcz72_6 hcz72_7 hcz72_8 hcz72_9
              try clear hcz73_0 hcz73_1 hcz73_10 hcz73_11 hcz73_12 hcz73_13 hcz73_2 hcz73_3 hcz73_4 hcz73_5 hcz73_6 hcz73_7 hcz73_8 hcz73_9
              try clear hcz75_0 hcz75_1 hcz75_10 hcz75_11 hcz75_12 hcz75_13 hcz75_2 hcz75_3 hcz75_4 hcz75_5 hcz75_6 hcz75_7 hcz75_8 hcz75_9
              try clear hcz76_0 hcz76_1 hcz76_10 hcz76_11 hcz76_12 hcz76_13 hcz76_2 hcz76_3 hcz76_4 hcz76_5 hcz76_6 hcz76_7 hcz76_8 hcz76_9
              try clear hcz78_0 hcz78_1 hcz78_10 hcz78_11 hcz78_12 hcz78_13 hcz78_2 hcz78_3 hcz78_4 hcz78_5 hcz78_6 hcz78_7 hcz78_8 hcz78_9
              try clear hcz79_0 hcz79_1 hcz79_10 hcz79_11 hcz79_12 hcz79_13 hcz79_2 hcz79_3 hcz79_4 hcz79_5 hcz79_6 hcz79_7 hcz79_8 hcz79_9
              try clear hfz48_0 hfz48_1 hfz48_10 hfz48_11 hfz48_12 hfz48_13 hfz48_2 hfz48_3 hfz48_4 hfz48_5 hfz48_6 hfz48_7 hfz48_8 hfz48_9
              try clear hfz49_0 hfz49_1 hfz49_10 hfz49_11 hfz49_12 hfz49_13 hfz49_2 hfz49_3 hfz49_4 hfz49_5 hfz49_6 hfz49_7 hfz49_8 hfz49_9
              try clear hfz51_0 hfz51_1 hfz51_10 hfz51_11 hfz51_12 hfz51_13 hfz51_2 hfz51_3 hfz51_4 hfz51_5 hfz51_6 hfz51_7 hfz51_8 hfz51_9
              try clear hfz52_0 hfz52_1 hfz52_10 hfz52_11 hfz52_12 hfz52_13 hfz52_2 hfz52_3 hfz52_4 hfz52_5 hfz52_6 hfz52_7 hfz52_8 hfz52_9
              try clear hfz54_0 hfz54_1 hfz54_10 hfz54_11 hfz54_12 hfz54_13 hfz54_2 hfz54_3 hfz54_4 hfz54_5 hfz54_6 hfz54_7 hfz54_8 hfz54_9
              try clear hfz55_0 hfz55_1 hfz55_10 hfz55_11 hfz55_12 hfz55_13 hfz55_2 hfz55_3 hfz55_4 hfz55_5 hfz55_6 hfz55_7 hfz55_8 hfz55_9
              try clear hfz62_0 hfz62_1 hfz62_10 hfz62_11 hfz62_12 hfz62_13 hfz62_2 hfz62_3 hfz62_4 hfz62_5 hfz62_6 hfz62_7 hfz62_8 hfz62_9
              try clear hfz63_0 hfz63_1 hfz63_10 hfz63_11 hfz63_12 hfz63_13 hfz63_2 hfz63_3 hfz63_4 hfz63_5 hfz63_6 hfz63_7 hfz63_8 hfz63_9
              try clear hfz65_0 hfz65_1 hfz65_10 hfz65_11 hfz65_12 hfz65_13 hfz65_2 hfz65_3 hfz65_4 hfz65_5 hfz65_6 hfz65_7 hfz65_8 hfz65_9
              try clear hfz66_0 hfz66_1 hfz66_10 hfz66_11 hfz66_12 hfz66_13 hfz66_2 hfz66_3 hfz66_4 hfz66_5 hfz66_6 hfz66_7 hfz66_8 hfz66_9
              try clear hfz68_0 hfz68_1 hfz68_10 hfz68_11 hfz68_12 hfz68_13 hfz68_2 hfz68_3 hfz68_4 hfz68_5 hfz68_6 hfz68_7 hfz68_8 hfz68_9
              try clear hfz69_0 hfz69_1 hfz69_10 hfz69_11 hfz69_12 hfz69_13 hfz69_2 hfz69_3 hfz69_4 hfz69_5 hfz69_6 hfz69_7 hfz69_8 hfz69_9
              try clear hfz72_0 hfz72_1 hfz72_10 hfz72_11 hfz72_12 hfz72_13 hfz72_2 hfz72_3 hfz72_4 hfz72_5 hfz72_6 hfz72_7 hfz72_8 hfz72_9
              try clear hfz73_0 hfz73_1 hfz73_10 hfz73_11 hfz73_12 hfz73_13 hfz73_2 hfz73_3 hfz73_4 hfz73_5 hfz73_6 hfz73_7 hfz73_8 hfz73_9
              try clear hfz75_0 hfz75_1 hfz75_10 hfz75_11 hfz75_12 hfz75_13 hfz75_2 hfz75_3 hfz75_4 hfz75_5 hfz75_6 hfz75_7 hfz75_8 hfz75_9
              try clear hfz76_0 hfz76_1 hfz76_10 hfz76_11 hfz76_12 hfz76_13 hfz76_2 hfz76_3 hfz76_4 hfz76_5 hfz76_6 hfz76_7 hfz76_8 hfz76_9
              try clear hfz78_0 hfz78_1 hfz78_10 hfz78_11 hfz78_12 hfz78_13 hfz78_2 hfz78_3 hfz78_4 hfz78_5 hfz78_6 hfz78_7 hfz78_8 hfz78_9
              try clear hfz79_0 hfz79_1 hfz79_10 hfz79_11 hfz79_12 hfz79_13 hfz79_2 hfz79_3 hfz79_4 hfz79_5 hfz79_6 hfz79_7 hfz79_8 hfz79_9
              obtain ⟨kq, x65_7, rfl, HA, HJ7, BK137, BK138, HB⟩ := hcut
              cases kq with
              | zero => exact absurd HA.out (by simp [relayref05_Same.j1])
              | succ kj7 =>
               have H := HA.out
               clear HA
               simp only [relayref05_Same.j1] at H
               refine (Classical.em (x65_7 = true)).elim (fun c80 => ?p7_) (fun c80 => ?n7_)
               case' p7_ =>
                subst c80
                have H1 : (some false) = some r := by rw [if_pos rfl] at H; exact H
                clear H
                have H := H1
                clear H1
                obtain rfl := Option.some.inj H
                go_wp2
                go_ret
                exact ⟨by first | rfl | (simp [errW_none, errW_some] <;> rfl) | (simp [*, errW_none, errW_some] <;> rfl), by repeat (first | (with_reducible first | exact HB.out | apply below_alloc | apply pw_below_drewN | apply below_drew1 | refine below_set ?_ GE137.out | refine below_set ?_ GE138.out) | exact HB.out)⟩
               case' n7_ =>
                replace c80 := Bool.eq_false_iff.mpr c80
                subst c80
                have H1 : ((relayref05_sameExprs.f kj7 ((rd_T46 l0 x15_1).f6) ((rd_T46 l1 x15_1).f6)).bind fun t143 => (if t143 = true then ((relayref05_sameTexts.f kj7 ((rd_T46 l0 x15_1).f7) ((rd_T46 l1 x15_1).f7)).bind fun t144 => (if t144 = true then ((relayref05_sameRanges.f kj7 ((rd_T46 l0 x15_1).f8) ((rd_T46 l1 x15_1).f8)).bind fun t145 => (if t145 = true then ((relayref05_Same.f kj7 ((rd_T46 l0 x15_1).f9) ((rd_T46 l1 x15_1).f9)).bind fun t146 => (if t146 = true then ((relayref05_Same.f kj7 ((rd_T46 l0 x15_1).f10) ((rd_T46 l1 x15_1).f10)).bind fun t147 => (if t147 = true then (relayref05_Same.l0 kj7 l0 l1 (l0.length : Int) (wrap64 (x15_1 + 1))) else (some false))) else (some false))) else (some false))) else (some false))) else (some false))) = some r := by rw [if_neg (show ¬ (false = true) by decide)] at H; exact H
                clear H
                have H := H1
                clear H1
                replace H := Option.bind_eq_some_iff.mp H
                obtain ⟨t143, A810, H⟩ := H
                replace H : (if t143 = true then ((relayref05_sameTexts.f kj7 ((rd_T46 l0 x15_1).f7) ((rd_T46 l1 x15_1).f7)).bind fun t144 => (if t144 = true then ((relayref05_sameRanges.f kj7 ((rd_T46 l0 x15_1).f8) ((rd_T46 l1 x15_1).f8)).bind fun t145 => (if t145 = true then ((relayref05_Same.f kj7 ((rd_T46 l0 x15_1).f9) ((rd_T46 l1 x15_1).f9)).bind fun t146 => (if t146 = true then ((relayref05_Same.f kj7 ((rd_T46 l0 x15_1).f10) ((rd_T46 l1 x15_1).f10)).bind fun t147 => (if t147 = true then (relayref05_Same.l0 kj7 l0 l1 (l0.length : Int) (wrap64 (x15_1 + 1))) else (some false))) else (some false))) else (some false))) else (some false))) else (some false)) = some r := H
                have A81 := Aside0.mk A810
                clear A810
                refine (Classical.em (t143 = true)).elim (fun c82 => ?p8_) (fun c82 => ?n8_)
                case' p8_ =>
                 subst c82
                 have H1 : ((relayref05_sameTexts.f kj7 ((rd_T46 l0 x15_1).f7) ((rd_T46 l1 x15_1).f7)).bind fun t144 => (if t144 = true then ((relayref05_sameRanges.f kj7 ((rd_T46 l0 x15_1).f8) ((rd_T46 l1 x15_1).f8)).bind fun t145 => (if t145 = true then ((relayref05_Same.f kj7 ((rd_T46 l0 x15_1).f9) ((rd_T46 l1 x15_1).f9)).bind fun t146 => (if t146 = true then ((relayref05_Same.f kj7 ((rd_T46 l0 x15_1).f10) ((rd_T46 l1 x15_1).f10)).bind fun t147 => (if t147 = true then (relayref05_Same.l0 kj7 l0 l1 (l0.length : Int) (wrap64 (x15_1 + 1))) else (some false))) else (some false))) else (some false))) else (some false))) = some r := by rw [if_pos rfl] at H; exact H
                 clear H
                 have H := H1
                 clear H1
                 replace H := Option.bind_eq_some_iff.mp H
                 obtain ⟨t144, A830, H⟩ := H
                 replace H : (if t144 = true then ((relayref05_sameRanges.f kj7 ((rd_T46 l0 x15_1).f8) ((rd_T46 l1 x15_1).f8)).bind fun t145 => (if t145 = true then ((relayref05_Same.f kj7 ((rd_T46 l0 x15_1).f9) ((rd_T46 l1 x15_1).f9)).bind fun t146 => (if t146 = true then ((relayref05_Same.f kj7 ((rd_T46 l0 x15_1).f10) ((rd_T46 l1 x15_1).f10)).bind fun t147 => (if t147 = true then (relayref05_Same.l0 kj7 l0 l1 (l0.length : Int) (wrap64 (x15_1 + 1))) else (some false))) else (some false))) else (some false))) else (some false)) = some r := H
                 have A83 := Aside0.mk A830
                 clear A830
                 refine (Classical.em (t144 = true)).elim (fun c84 => ?p9_) (fun c84 => ?n9_)
                 case' p9_ =>
                  subst c84
                  have H1 : ((relayref05_sameRanges.f kj7 ((rd_T46 l0 x15_1).f8) ((rd_T46 l1 x15_1).f8)).bind fun t145 => (if t145 = true then ((relayref05_Same.f kj7 ((rd_T46 l0 x15_1).f9) ((rd_T46 l1 x15_1).f9)).bind fun t146 => (if t146 = true then ((relayref05_Same.f kj7 ((rd_T46 l0 x15_1).f10) ((rd_T46 l1 x15_1).f10)).bind fun t147 => (if t147 = true then (relayref05_Same.l0 kj7 l0 l1 (l0.length : Int) (wrap64 (x15_1 + 1))) else (some false))) else (some false))) else (some false))) = some r := by rw [if_pos rfl] at H; exact H
                  clear H
                  have H := H1
                  clear H1
                  replace H := Option.bind_eq_some_iff.mp H
                  obtain ⟨t145, A850, H⟩ := H
                  replace H : (if t145 = true then ((relayref05_Same.f kj7 ((rd_T46 l0 x15_1).f9) ((rd_T46 l1 x15_1).f9)).bind fun t146 => (if t146 = true then ((relayref05_Same.f kj7 ((rd_T46 l0 x15_1).f10) ((rd_T46 l1 x15_1).f10)).bind fun t147 => (if t147 = true then (relayref05_Same.l0 kj7 l0 l1 (l0.length : Int) (wrap64 (x15_1 + 1))) else (some false))) else (some false))) else (some false)) = some r := H
                  have A85 := Aside0.mk A850
                  clear A850
                  refine (Classical.em (t145 = true)).elim (fun c86 => ?p10_) (fun c86 => ?n10_)
                  case' p10_ =>
                   subst c86
                   have H1 : ((relayref05_Same.f kj7 ((rd_T46 l0 x15_1).f9) ((rd_T46 l1 x15_1).f9)).bind fun t146 => (if t146 = true then ((relayref05_Same.f kj7 ((rd_T46 l0 x15_1).f10) ((rd_T46 l1 x15_1).f10)).bind fun t147 => (if t147 = true then (relayref05_Same.l0 kj7 l0 l1 (l0.length : Int) (wrap64 (x15_1 + 1))) else (some false))) else (some false))) = some r := by rw [if_pos rfl] at H; exact H
                   clear H
                   have H := H1
                   clear H1
                   replace H := Option.bind_eq_some_iff.mp H
                   obtain ⟨t146, A870, H⟩ := H
                   replace H : (if t146 = true then ((relayref05_Same.f kj7 ((rd_T46 l0 x15_1).f10) ((rd_T46 l1 x15_1).f10)).bind fun t147 => (if t147 = true then (relayref05_Same.l0 kj7 l0 l1 (l0.length : Int) (wrap64 (x15_1 + 1))) else (some false))) else (some false)) = some r := H
                   have A87 := Aside0.mk A870
                   clear A870
                   refine (Classical.em (t146 = true)).elim (fun c88 => ?p11_) (fun c88 => ?n11_)
                   case' p11_ =>
                    subst c88
                    have H1 : ((relayref05_Same.f kj7 ((rd_T46 l0 x15_1).f10) ((rd_T46 l1 x15_1).f10)).bind fun t147 => (if t147 = true then (relayref05_Same.l0 kj7 l0 l1 (l0.length : Int) (wrap64 (x15_1 + 1))) else (some false))) = some r := by rw [if_pos rfl] at H; exact H
                    clear H
                    have H := H1
                    clear H1
                    replace H := Option.bind_eq_some_iff.mp H
                    obtain ⟨t147, A890, H⟩ := H
                    replace H : (if t147 = true then (relayref05_Same.l0 kj7 l0 l1 (l0.length : Int) (wrap64 (x15_1 + 1))) else (some false)) = some r := H
                    have A89 := Aside0.mk A890
                    clear A890
                    refine (Classical.em (t147 = true)).elim (fun c90 => ?p12_) (fun c90 => ?n12_)
                    case' p12_ =>
                     subst c90
                     have H1 : (relayref05_Same.l0 kj7 l0 l1 (l0.length : Int) (wrap64 (x15_1 + 1))) = some r := by rw [if_pos rfl] at H; exact H
                     clear H
                     have H := H1
                     clear H1
                     have H' := Aside0.mk H
                     clear H
                     have hnb91 := NB137_138.out
                     have hnc91 := NB138_137.out
                     obtain ⟨_, _, _, _, _, _, _, _, _, _, _, _, _, _, _, _, _, _, _, _, _, _, _, _, _, _, _, _⟩ := cells14 BK137.out
                     obtain ⟨_, _, _, _, _, _, _, _, _, _, _, _, _, _, _, _, _, _, _, _, _, _, _, _, _, _, _, _⟩ := cells14 BK138.out
                    case' n12_ =>
                     replace c90 := Bool.eq_false_iff.mpr c90
                     subst c90
                     have H1 : (some false) = some r := by rw [if_neg (show ¬ (false = true) by decide)] at H; exact H
                     clear H
                     have H := H1
                     clear H1
                     obtain rfl := Option.some.inj H
                     have hnb101 := NB137_138.out
                     have hnc101 := NB138_137.out
                     obtain ⟨_, _, _, _, _, _, _, _, _, _, _, _, _, _, _, _, _, _, _, _, _, _, _, _, _, _, _, _⟩ := cells14 BK137.out
                     obtain ⟨_, _, _, _, _, _, _, _, _, _, _, _, _, _, _, _, _, _, _, _, _, _, _, _, _, _, _, _⟩ := cells14 BK138.out
                   case' n11_ =>
                    replace c88 := Bool.eq_false_iff.mpr c88
                    subst c88
                    have H1 : (some false) = some r := by rw [if_neg (show ¬ (false = true) by decide)] at H; exact H
                    clear H
                    have H := H1
                    clear H1
                    obtain rfl := Option.some.inj H
                    have hnb111 := NB137_138.out
                    have hnc111 := NB138_137.out
                    obtain ⟨_, _, _, _, _, _, _, _, _, _, _, _, _, _, _, _, _, _, _, _, _, _, _, _, _, _, _, _⟩ := cells14 BK137.out
                    obtain ⟨_, _, _, _, _, _, _, _, _, _, _, _, _, _, _, _, _, _, _, _, _, _, _, _, _, _, _, _⟩ := cells14 BK138.out
                  case' n10_ =>
                   replace c86 := Bool.eq_false_iff.mpr c86
                   subst c86
                   have H1 : (some false) = some r := by rw [if_neg (show ¬ (false = true) by decide)] at H; exact H
                   clear H
                   have H := H1
                   clear H1
                   obtain rfl := Option.some.inj H
                   have hnb118 := NB137_138.out
                   have hnc118 := NB138_137.out
                   obtain ⟨_, _, _, _, _, _, _, _, _, _, _, _, _, _, _, _, _, _, _, _, _, _, _, _, _, _, _, _⟩ := cells14 BK137.out
                   obtain ⟨_, _, _, _, _, _, _, _, _, _, _, _, _, _, _, _, _, _, _, _, _, _, _, _, _, _, _, _⟩ := cells14 BK138.out
                 case' n9_ =>
                  replace c84 := Bool.eq_false_iff.mpr c84
                  subst c84
                  have H1 : (some false) = some r := by rw [if_neg (show ¬ (false = true) by decide)] at H; exact H
                  clear H
                  have H := H1
                  clear H1
                  obtain rfl := Option.some.inj H
                  have hnb124 := NB137_138.out
                  have hnc124 := NB138_137.out
                  obtain ⟨_, _, _, _, _, _, _, _, _, _, _, _, _, _, _, _, _, _, _, _, _, _, _, _, _, _, _, _⟩ := cells14 BK137.out
                  obtain ⟨_, _, _, _, _, _, _, _, _, _, _, _, _, _, _, _, _, _, _, _, _, _, _, _, _, _, _, _⟩ := cells14 BK138.out
                case' n8_ =>
                 replace c82 := Bool.eq_false_iff.mpr c82
                 subst c82
                 have H1 : (some false) = some r := by rw [if_neg (show ¬ (false = true) by decide)] at H; exact H
                 clear H
                 have H := H1
                 clear H1
                 obtain rfl := Option.some.inj H
                 have hnb130 := NB137_138.out
                 have hnc130 := NB138_137.out
                 obtain ⟨_, _, _, _, _, _, _, _, _, _, _, _, _, _, _, _, _, _, _, _, _, _, _, _, _, _, _, _⟩ := cells14 BK137.out
                 obtain ⟨_, _, _, _, _, _, _, _, _, _, _, _, _, _, _, _, _, _, _, _, _, _, _, _, _, _, _, _⟩ := cells14 BK138.out
               all_goals go_wp2_with (first | ((with_reducible refine gate_callee (f := 28) rfl ?_); refine goesL_ (some 70) rfl rfl Try.func28 (by kernel_rfl) rfl #[.slice A135_6 ((rd_T46 l0 x15_1).f6).length c135_6, .slice A136_6 ((rd_T46 l1 x15_1).f6).length c136_6] rfl (by (try simp only [List.map_toArray, List.map_cons, List.map_nil]); first | done | rfl | (simp only [List.length_drop, List.length_take]; rfl)) ?_; (with_reducible refine (relayref05_sameExprs.calls kj7 _ _ ((rd_T46 l0 x15_1).f6) _ _ ((rd_T46 l1 x15_1).f6) _ _ ?side1 ?side2 ?side3 ?side4 A81.out).mono ?_); (case side1 => repeat (first | exact (Kd.C_below HR135_6.out HB.out) | (with_reducible refine Kd.C_alloc ?_ _) | (with_reducible refine Kd.C_drewN ?_ _) | (with_reducible refine Kd.C_drew ?_))); (case side2 => exact HC135_6.out); (case side3 => repeat (first | exact (Kd.C_below HR136_6.out HB.out) | (with_reducible refine Kd.C_alloc ?_ _) | (with_reducible refine Kd.C_drewN ?_ _) | (with_reducible refine Kd.C_drew ?_))); (case side4 => exact HC136_6.out); rintro e w94 ⟨rfl, hb⟩; refine ⟨_, rfl, ?_⟩; have n0_ := Aside0.mk (blk_below (g := gb137) (o := .cells #[.int .i64 ((rd_T46 l0 x15_1).f0), .int .i64 ((rd_T46 l0 x15_1).f1), .string ((rd_T46 l0 x15_1).f2), .int .i64 ((rd_T46 l0 x15_1).f3), .slice A135_4 ((rd_T46 l0 x15_1).f4).length c135_4, .slice A135_5 ((rd_T46 l0 x15_1).f5).length c135_5, .slice A135_6 ((rd_T46 l0 x15_1).f6).length c135_6, .slice A135_7 ((rd_T46 l0 x15_1).f7).length c135_7, .slice A135_8 ((rd_T46 l0 x15_1).f8).length c135_8, .slice A135_9 ((rd_T46 l0 x15_1).f9).length c135_9, .slice A135_10 ((rd_T46 l0 x15_1).f10).length c135_10, .int .u8 ((rd_T46 l0 x15_1).f11), .int .i64 ((rd_T46 l0 x15_1).f12), .int .i64 ((rd_T46 l0 x15_1).f13)] 46 (0, 0)) (by (with_reducible repeat (first | refine blk_drewN ?_ _ | refine blk_drew ?_ | refine blk_alloc ?_ _)); exact BK137.out) hb); have n1_ := Aside0.mk (blk_below (g := gb138) (o := .cells #[.int .i64 ((rd_T46 l1 x15_1).f0), .int .i64 ((rd_T46 l1 x15_1).f1), .string ((rd_T46 l1 x15_1).f2), .int .i64 ((rd_T46 l1 x15_1).f3), .slice A136_4 ((rd_T46 l1 x15_1).f4).length c136_4, .slice A136_5 ((rd_T46 l1 x15_1).f5).length c136_5, .slice A136_6 ((rd_T46 l1 x15_1).f6).length c136_6, .slice A136_7 ((rd_T46 l1 x15_1).f7).length c136_7, .slice A136_8 ((rd_T46 l1 x15_1).f8).length c136_8, .slice A136_9 ((rd_T46 l1 x15_1).f9).length c136_9, .slice A136_10 ((rd_T46 l1 x15_1).f10).length c136_10, .int .u8 ((rd_T46 l1 x15_1).f11), .int .i64 ((rd_T46 l1 x15_1).f12), .int .i64 ((rd_T46 l1 x15_1).f13)] 46 (0, 0)) (by (with_reducible repeat (first | refine blk_drewN ?_ _ | refine blk_drew ?_ | refine blk_alloc ?_ _)); exact BK138.out) hb); have n2_ := Aside0.mk (below_step (by repeat (first | (with_reducible first | exact HB.out | apply below_alloc | apply pw_below_drewN | apply below_drew1 | refine below_set ?_ GE137.out | refine below_set ?_ GE138.out) | exact HB.out)) hb); clear BK137; clear BK138; clear HB; have BK137 := n0_; have BK138 := n1_; have HB := n2_; clear n0_ n1_ n2_; (try clear hb); (try clear hb2); (try clear hk); (try clear hi); obtain ⟨_, _, _, _, _, _, _, _, _, _, _, _, _, _, _, _, _, _, _, _, _, _, _, _, _, _, _, _⟩ := cells14 BK137.out; obtain ⟨_, _, _, _, _, _, _, _, _, _, _, _, _, _, _, _, _, _, _, _, _, _, _, _, _, _, _, _⟩ := cells14 BK138.out) | (go_at_call 29; (with_reducible refine (relayref05_sameTexts.calls kj7 _ _ ((rd_T46 l0 x15_1).f7) _ _ ((rd_T46 l1 x15_1).f7) _ _ ?side1 ?side2 ?side3 ?side4 A83.out).mono ?_); (case side1 => repeat (first | exact (Kd.C_below HR135_7.out HB.out) | (with_reducible refine Kd.C_alloc ?_ _) | (with_reducible refine Kd.C_drewN ?_ _) | (with_reducible refine Kd.C_drew ?_))); (case side2 => exact HC135_7.out); (case side3 => repeat (first | exact (Kd.C_below HR136_7.out HB.out) | (with_reducible refine Kd.C_alloc ?_ _) | (with_reducible refine Kd.C_drewN ?_ _) | (with_reducible refine Kd.C_drew ?_))); (case side4 => exact HC136_7.out); rintro e w' ⟨rfl, ⟨nd, rfl⟩⟩) | (go_at_call 30; (with_reducible refine (relayref05_sameRanges.calls kj7 _ _ ((rd_T46 l0 x15_1).f8) _ _ ((rd_T46 l1 x15_1).f8) _ _ ?side1 ?side2 ?side3 ?side4 A85.out).mono ?_); (case side1 => repeat (first | exact (Kd.C_below HR135_8.out (by repeat (first | (with_reducible first | exact HB.out | apply below_alloc | apply pw_below_drewN | apply below_drew1 | refine below_set ?_ GE137.out | refine below_set ?_ GE138.out) | exact HB.out))) | (with_reducible refine Kd.C_alloc ?_ _) | (with_reducible refine Kd.C_drewN ?_ _) | (with_reducible refine Kd.C_drew ?_))); (case side2 => exact HC135_8.out); (case side3 => repeat (first | exact (Kd.C_below HR136_8.out (by repeat (first | (with_reducible first | exact HB.out | apply below_alloc | apply pw_below_drewN | apply below_drew1 | refine below_set ?_ GE137.out | refine below_set ?_ GE138.out) | exact HB.out))) | (with_reducible refine Kd.C_alloc ?_ _) | (with_reducible refine Kd.C_drewN ?_ _) | (with_reducible refine Kd.C_drew ?_))); (case side4 => exact HC136_8.out); rintro e w' ⟨rfl, ⟨nd, rfl⟩⟩) | (go_at_call 11; (with_reducible refine (ih kj7 (by have := HK1.out; have := HJ7.out; omega) _ _ ((rd_T46 l0 x15_1).f9) _ _ ((rd_T46 l1 x15_1).f9) _ _ ?side1 ?side2 ?side3 ?side4 A87.out).mono ?_); (case side1 => repeat (first | exact (Kd.C_below HR135_9.out (by repeat (first | (with_reducible first | exact HB.out | apply below_alloc | apply pw_below_drewN | apply below_drew1 | refine below_set ?_ GE137.out | refine below_set ?_ GE138.out) | exact HB.out))) | (with_reducible refine Kd.C_alloc ?_ _) | (with_reducible refine Kd.C_drewN ?_ _) | (with_reducible refine Kd.C_drew ?_))); (case side2 => exact HC135_9.out); (case side3 => repeat (first | exact (Kd.C_below HR136_9.out (by repeat (first | (with_reducible first | exact HB.out | apply below_alloc | apply pw_below_drewN | apply below_drew1 | refine below_set ?_ GE137.out | refine below_set ?_ GE138.out) | exact HB.out))) | (with_reducible refine Kd.C_alloc ?_ _) | (with_reducible refine Kd.C_drewN ?_ _) | (with_reducible refine Kd.C_drew ?_))); (case side4 => exact HC136_9.out); rintro e w97 ⟨rfl, hb⟩; have n0_ := Aside0.mk (blk_below (g := gb137) (o := .cells #[.int .i64 ((rd_T46 l0 x15_1).f0), .int .i64 ((rd_T46 l0 x15_1).f1), .string ((rd_T46 l0 x15_1).f2), .int .i64 ((rd_T46 l0 x15_1).f3), .slice A135_4 ((rd_T46 l0 x15_1).f4).length c135_4, .slice A135_5 ((rd_T46 l0 x15_1).f5).length c135_5, .slice A135_6 ((rd_T46 l0 x15_1).f6).length c135_6, .slice A135_7 ((rd_T46 l0 x15_1).f7).length c135_7, .slice A135_8 ((rd_T46 l0 x15_1).f8).length c135_8, .slice A135_9 ((rd_T46 l0 x15_1).f9).length c135_9, .slice A135_10 ((rd_T46 l0 x15_1).f10).length c135_10, .int .u8 ((rd_T46 l0 x15_1).f11), .int .i64 ((rd_T46 l0 x15_1).f12), .int .i64 ((rd_T46 l0 x15_1).f13)] 46 (0, 0)) (by (with_reducible repeat (first | refine blk_drewN ?_ _ | refine blk_drew ?_ | refine blk_alloc ?_ _)); exact BK137.out) hb); have n1_ := Aside0.mk (blk_below (g := gb138) (o := .cells #[.int .i64 ((rd_T46 l1 x15_1).f0), .int .i64 ((rd_T46 l1 x15_1).f1), .string ((rd_T46 l1 x15_1).f2), .int .i64 ((rd_T46 l1 x15_1).f3), .slice A136_4 ((rd_T46 l1 x15_1).f4).length c136_4, .slice A136_5 ((rd_T46 l1 x15_1).f5).length c136_5, .slice A136_6 ((rd_T46 l1 x15_1).f6).length c136_6, .slice A136_7 ((rd_T46 l1 x15_1).f7).length c136_7, .slice A136_8 ((rd_T46 l1 x15_1).f8).length c136_8, .slice A136_9 ((rd_T46 l1 x15_1).f9).length c136_9, .slice A136_10 ((rd_T46 l1 x15_1).f10).length c136_10, .int .u8 ((rd_T46 l1 x15_1).f11), .int .i64 ((rd_T46 l1 x15_1).f12), .int .i64 ((rd_T46 l1 x15_1).f13)] 46 (0, 0)) (by (with_reducible repeat (first | refine blk_drewN ?_ _ | refine blk_drew ?_ | refine blk_alloc ?_ _)); exact BK138.out) hb); have n2_ := Aside0.mk (below_step (by repeat (first | (with_reducible first | exact HB.out | apply below_alloc | apply pw_below_drewN | apply below_drew1 | refine below_set ?_ GE137.out | refine below_set ?_ GE138.out) | exact HB.out)) hb); clear BK137; clear BK138; clear HB; have BK137 := n0_; have BK138 := n1_; have HB := n2_; clear n0_ n1_ n2_; (try clear hb); (try clear hb2); (try clear hk); (try clear hi); obtain ⟨_, _, _, _, _, _, _, _, _, _, _, _, _, _, _, _, _, _, _, _, _, _, _, _, _, _, _, _⟩ := cells14 BK137.out; obtain ⟨_, _, _, _, _, _, _, _, _, _, _, _, _, _, _, _, _, _, _, _, _, _, _, _, _, _, _, _⟩ := cells14 BK138.out) | (go_at_call 11; (with_reducible refine (ih kj7 (by have := HK1.out; have := HJ7.out; omega) _ _ ((rd_T46 l0 x15_1).f10) _ _ ((rd_T46 l1 x15_1).f10) _ _ ?side1 ?side2 ?side3 ?side4 A89.out).mono ?_); (case side1 => repeat (first | exact (Kd.C_below HR135_10.out HB.out) | (with_reducible refine Kd.C_alloc ?_ _) | (with_reducible refine Kd.C_drewN ?_ _) | (with_reducible refine Kd.C_drew ?_))); (case side2 => exact HC135_10.out); (case side3 => repeat (first | exact (Kd.C_below HR136_10.out HB.out) | (with_reducible refine Kd.C_alloc ?_ _) | (with_reducible refine Kd.C_drewN ?_ _) | (with_reducible refine Kd.C_drew ?_))); (case side4 => exact HC136_10.out); rintro e w100 ⟨rfl, hb⟩; have n0_ := Aside0.mk (blk_below (g := gb137) (o := .cells #[.int .i64 ((rd_T46 l0 x15_1).f0), .int .i64 ((rd_T46 l0 x15_1).f1), .string ((rd_T46 l0 x15_1).f2), .int .i64 ((rd_T46 l0 x15_1).f3), .slice A135_4 ((rd_T46 l0 x15_1).f4).length c135_4, .slice A135_5 ((rd_T46 l0 x15_1).f5).length c135_5, .slice A135_6 ((rd_T46 l0 x15_1).f6).length c135_6, .slice A135_7 ((rd_T46 l0 x15_1).f7).length c135_7, .slice A135_8 ((rd_T46 l0 x15_1).f8).length c135_8, .slice A135_9 ((rd_T46 l0 x15_1).f9).length c135_9, .slice A135_10 ((rd_T46 l0 x15_1).f10).length c135_10, .int .u8 ((rd_T46 l0 x15_1).f11), .int .i64 ((rd_T46 l0 x15_1).f12), .int .i64 ((rd_T46 l0 x15_1).f13)] 46 (0, 0)) (by (with_reducible repeat (first | refine blk_drewN ?_ _ | refine blk_drew ?_ | refine blk_alloc ?_ _)); exact BK137.out) hb); have n1_ := Aside0.mk (blk_below (g := gb138) (o := .cells #[.int .i64 ((rd_T46 l1 x15_1).f0), .int .i64 ((rd_T46 l1 x15_1).f1), .string ((rd_T46 l1 x15_1).f2), .int .i64 ((rd_T46 l1 x15_1).f3), .slice A136_4 ((rd_T46 l1 x15_1).f4).length c136_4, .slice A136_5 ((rd_T46 l1 x15_1).f5).length c136_5, .slice A136_6 ((rd_T46 l1 x15_1).f6).length c136_6, .slice A136_7 ((rd_T46 l1 x15_1).f7).length c136_7, .slice A136_8 ((rd_T46 l1 x15_1).f8).length c136_8, .slice A136_9 ((rd_T46 l1 x15_1).f9).length c136_9, .slice A136_10 ((rd_T46 l1 x15_1).f10).length c136_10, .int .u8 ((rd_T46 l1 x15_1).f11), .int .i64 ((rd_T46 l1 x15_1).f12), .int .i64 ((rd_T46 l1 x15_1).f13)] 46 (0, 0)) (by (with_reducible repeat (first | refine blk_drewN ?_ _ | refine blk_drew ?_ | refine blk_alloc ?_ _)); exact BK138.out) hb); have n2_ := Aside0.mk (below_step (by repeat (first | (with_reducible first | exact HB.out | apply below_alloc | apply pw_below_drewN | apply below_drew1 | refine below_set ?_ GE137.out | refine below_set ?_ GE138.out) | exact HB.out)) hb); clear BK137; clear BK138; clear HB; have BK137 := n0_; have BK138 := n1_; have HB := n2_; clear n0_ n1_ n2_; (try clear hb); (try clear hb2); (try clear hk); (try clear hi)) | (go_at_call 11; (with_reducible refine (ih kj7 (by have := HK1.out; have := HJ7.out; omega) _ _ ((rd_T46 l0 x15_1).f10) _ _ ((rd_T46 l1 x15_1).f10) _ _ ?side1 ?side2 ?side3 ?side4 A89.out).mono ?_); (case side1 => repeat (first | exact (Kd.C_below HR135_10.out HB.out) | (with_reducible refine Kd.C_alloc ?_ _) | (with_reducible refine Kd.C_drewN ?_ _) | (with_reducible refine Kd.C_drew ?_))); (case side2 => exact HC135_10.out); (case side3 => repeat (first | exact (Kd.C_below HR136_10.out HB.out) | (with_reducible refine Kd.C_alloc ?_ _) | (with_reducible refine Kd.C_drewN ?_ _) | (with_reducible refine Kd.C_drew ?_))); (case side4 => exact HC136_10.out); rintro e w110 ⟨rfl, hb⟩; have n0_ := Aside0.mk (blk_below (g := gb137) (o := .cells #[.int .i64 ((rd_T46 l0 x15_1).f0), .int .i64 ((rd_T46 l0 x15_1).f1), .string ((rd_T46 l0 x15_1).f2), .int .i64 ((rd_T46 l0 x15_1).f3), .slice A135_4 ((rd_T46 l0 x15_1).f4).length c135_4, .slice A135_5 ((rd_T46 l0 x15_1).f5).length c135_5, .slice A135_6 ((rd_T46 l0 x15_1).f6).length c135_6, .slice A135_7 ((rd_T46 l0 x15_1).f7).length c135_7, .slice A135_8 ((rd_T46 l0 x15_1).f8).length c135_8, .slice A135_9 ((rd_T46 l0 x15_1).f9).length c135_9, .slice A135_10 ((rd_T46 l0 x15_1).f10).length c135_10, .int .u8 ((rd_T46 l0 x15_1).f11), .int .i64 ((rd_T46 l0 x15_1).f12), .int .i64 ((rd_T46 l0 x15_1).f13)] 46 (0, 0)) (by (with_reducible repeat (first | refine blk_drewN ?_ _ | refine blk_drew ?_ | refine blk_alloc ?_ _)); exact BK137.out) hb); have n1_ := Aside0.mk (blk_below (g := gb138) (o := .cells #[.int .i64 ((rd_T46 l1 x15_1).f0), .int .i64 ((rd_T46 l1 x15_1).f1), .string ((rd_T46 l1 x15_1).f2), .int .i64 ((rd_T46 l1 x15_1).f3), .slice A136_4 ((rd_T46 l1 x15_1).f4).length c136_4, .slice A136_5 ((rd_T46 l1 x15_1).f5).length c136_5, .slice A136_6 ((rd_T46 l1 x15_1).f6).length c136_6, .slice A136_7 ((rd_T46 l1 x15_1).f7).length c136_7, .slice A136_8 ((rd_T46 l1 x15_1).f8).length c136_8, .slice A136_9 ((rd_T46 l1 x15_1).f9).length c136_9, .slice A136_10 ((rd_T46 l1 x15_1).f10).length c136_10, .int .u8 ((rd_T46 l1 x15_1).f11), .int .i64 ((rd_T46 l1 x15_1).f12), .int .i64 ((rd_T46 l1 x15_1).f13)] 46 (0, 0)) (by (with_reducible repeat (first | refine blk_drewN ?_ _ | refine blk_drew ?_ | refine blk_alloc ?_ _)); exact BK138.out) hb); have n2_ := Aside0.mk (below_step (by repeat (first | (with_reducible first | exact HB.out | apply below_alloc | apply pw_below_drewN | apply below_drew1 | refine below_set ?_ GE137.out | refine below_set ?_ GE138.out) | exact HB.out)) hb); clear BK137; clear BK138; clear HB; have BK137 := n0_; have BK138 := n1_; have HB := n2_; clear n0_ n1_ n2_; (try clear hb); (try clear hb2); (try clear hk); (try clear hi)) | (go_at_call 11; (with_reducible refine (ih kj7 (by have := HK1.out; have := HJ7.out; omega) _ _ ((rd_T46 l0 x15_1).f9) _ _ ((rd_T46 l1 x15_1).f9) _ _ ?side1 ?side2 ?side3 ?side4 A87.out).mono ?_); (case side1 => repeat (first | exact (Kd.C_below HR135_9.out (by repeat (first | (with_reducible first | exact HB.out | apply below_alloc | apply pw_below_drewN | apply below_drew1 | refine below_set ?_ GE137.out | refine below_set ?_ GE138.out) | exact HB.out))) | (with_reducible refine Kd.C_alloc ?_ _) | (with_reducible refine Kd.C_drewN ?_ _) | (with_reducible refine Kd.C_drew ?_))); (case side2 => exact HC135_9.out); (case side3 => repeat (first | exact (Kd.C_below HR136_9.out (by repeat (first | (with_reducible first | exact HB.out | apply below_alloc | apply pw_below_drewN | apply below_drew1 | refine below_set ?_ GE137.out | refine below_set ?_ GE138.out) | exact HB.out))) | (with_reducible refine Kd.C_alloc ?_ _) | (with_reducible refine Kd.C_drewN ?_ _) | (with_reducible refine Kd.C_drew ?_))); (case side4 => exact HC136_9.out); rintro e w117 ⟨rfl, hb⟩; have n0_ := Aside0.mk (blk_below (g := gb137) (o := .cells #[.int .i64 ((rd_T46 l0 x15_1).f0), .int .i64 ((rd_T46 l0 x15_1).f1), .string ((rd_T46 l0 x15_1).f2), .int .i64 ((rd_T46 l0 x15_1).f3), .slice A135_4 ((rd_T46 l0 x15_1).f4).length c135_4, .slice A135_5 ((rd_T46 l0 x15_1).f5).length c135_5, .slice A135_6 ((rd_T46 l0 x15_1).f6).length c135_6, .slice A135_7 ((rd_T46 l0 x15_1).f7).length c135_7, .slice A135_8 ((rd_T46 l0 x15_1).f8).length c135_8, .slice A135_9 ((rd_T46 l0 x15_1).f9).length c135_9, .slice A135_10 ((rd_T46 l0 x15_1).f10).length c135_10, .int .u8 ((rd_T46 l0 x15_1).f11), .int .i64 ((rd_T46 l0 x15_1).f12), .int .i64 ((rd_T46 l0 x15_1).f13)] 46 (0, 0)) (by (with_reducible repeat (first | refine blk_drewN ?_ _ | refine blk_drew ?_ | refine blk_alloc ?_ _)); exact BK137.out) hb); have n1_ := Aside0.mk (blk_below (g := gb138) (o := .cells #[.int .i64 ((rd_T46 l1 x15_1).f0), .int .i64 ((rd_T46 l1 x15_1).f1), .string ((rd_T46 l1 x15_1).f2), .int .i64 ((rd_T46 l1 x15_1).f3), .slice A136_4 ((rd_T46 l1 x15_1).f4).length c136_4, .slice A136_5 ((rd_T46 l1 x15_1).f5).length c136_5, .slice A136_6 ((rd_T46 l1 x15_1).f6).length c136_6, .slice A136_7 ((rd_T46 l1 x15_1).f7).length c136_7, .slice A136_8 ((rd_T46 l1 x15_1).f8).length c136_8, .slice A136_9 ((rd_T46 l1 x15_1).f9).length c136_9, .slice A136_10 ((rd_T46 l1 x15_1).f10).length c136_10, .int .u8 ((rd_T46 l1 x15_1).f11), .int .i64 ((rd_T46 l1 x15_1).f12), .int .i64 ((rd_T46 l1 x15_1).f13)] 46 (0, 0)) (by (with_reducible repeat (first | refine blk_drewN ?_ _ | refine blk_drew ?_ | refine blk_alloc ?_ _)); exact BK138.out) hb); have n2_ := Aside0.mk (below_step (by repeat (first | (with_reducible first | exact HB.out | apply below_alloc | apply pw_below_drewN | apply below_drew1 | refine below_set ?_ GE137.out | refine below_set ?_ GE138.out) | exact HB.out)) hb); clear BK137; clear BK138; clear HB; have BK137 := n0_; have BK138 := n1_; have HB := n2_; clear n0_ n1_ n2_; (try clear hb); (try clear hb2); (try clear hk); (try clear hi)) | (go_at_call 30; (with_reducible refine (relayref05_sameRanges.calls kj7 _ _ ((rd_T46 l0 x15_1).f8) _ _ ((rd_T46 l1 x15_1).f8) _ _ ?side1 ?side2 ?side3 ?side4 A85.out).mono ?_); (case side1 => repeat (first | exact (Kd.C_below HR135_8.out (by repeat (first | (with_reducible first | exact HB.out | apply below_alloc | apply pw_below_drewN | apply below_drew1 | refine below_set ?_ GE137.out | refine below_set ?_ GE138.out) | exact HB.out))) | (with_reducible refine Kd.C_alloc ?_ _) | (with_reducible refine Kd.C_drewN ?_ _) | (with_reducible refine Kd.C_drew ?_))); (case side2 => exact HC135_8.out); (case side3 => repeat (first | exact (Kd.C_below HR136_8.out (by repeat (first | (with_reducible first | exact HB.out | apply below_alloc | apply pw_below_drewN | apply below_drew1 | refine below_set ?_ GE137.out | refine below_set ?_ GE138.out) | exact HB.out))) | (with_reducible refine Kd.C_alloc ?_ _) | (with_reducible refine Kd.C_drewN ?_ _) | (with_reducible refine Kd.C_drew ?_))); (case side4 => exact HC136_8.out); rintro e w' ⟨rfl, ⟨nd, rfl⟩⟩) | (go_at_call 29; (with_reducible refine (relayref05_sameTexts.calls kj7 _ _ ((rd_T46 l0 x15_1).f7) _ _ ((rd_T46 l1 x15_1).f7) _ _ ?side1 ?side2 ?side3 ?side4 A83.out).mono ?_); (case side1 => repeat (first | exact (Kd.C_below HR135_7.out HB.out) | (with_reducible refine Kd.C_alloc ?_ _) | (with_reducible refine Kd.C_drewN ?_ _) | (with_reducible refine Kd.C_drew ?_))); (case side2 => exact HC135_7.out); (case side3 => repeat (first | exact (Kd.C_below HR136_7.out HB.out) | (with_reducible refine Kd.C_alloc ?_ _) | (with_reducible refine Kd.C_drewN ?_ _) | (with_reducible refine Kd.C_drew ?_))); (case side4 => exact HC136_7.out); rintro e w' ⟨rfl, ⟨nd, rfl⟩⟩) | ((with_reducible refine gate_callee (f := 28) rfl ?_); refine goesL_ (some 70) rfl rfl Try.func28 (by kernel_rfl) rfl #[.slice A135_6 ((rd_T46 l0 x15_1).f6).length c135_6, .slice A136_6 ((rd_T46 l1 x15_1).f6).length c136_6] rfl (by (try simp only [List.map_toArray, List.map_cons, List.map_nil]); first | done | rfl | (simp only [List.length_drop, List.length_take]; rfl)) ?_; (with_reducible refine (relayref05_sameExprs.calls kj7 _ _ ((rd_T46 l0 x15_1).f6) _ _ ((rd_T46 l1 x15_1).f6) _ _ ?side1 ?side2 ?side3 ?side4 A81.out).mono ?_); (case side1 => repeat (first | exact (Kd.C_below HR135_6.out HB.out) | (with_reducible refine Kd.C_alloc ?_ _) | (with_reducible refine Kd.C_drewN ?_ _) | (with_reducible refine Kd.C_drew ?_))); (case side2 => exact HC135_6.out); (case side3 => repeat (first | exact (Kd.C_below HR136_6.out HB.out) | (with_reducible refine Kd.C_alloc ?_ _) | (with_reducible refine Kd.C_drewN ?_ _) | (with_reducible refine Kd.C_drew ?_))); (case side4 => exact HC136_6.out); rintro e w133 ⟨rfl, hb⟩; refine ⟨_, rfl, ?_⟩; have n0_ := Aside0.mk (blk_below (g := gb137) (o := .cells #[.int .i64 ((rd_T46 l0 x15_1).f0), .int .i64 ((rd_T46 l0 x15_1).f1), .string ((rd_T46 l0 x15_1).f2), .int .i64 ((rd_T46 l0 x15_1).f3), .slice A135_4 ((rd_T46 l0 x15_1).f4).length c135_4, .slice A135_5 ((rd_T46 l0 x15_1).f5).length c135_5, .slice A135_6 ((rd_T46 l0 x15_1).f6).length c135_6, .slice A135_7 ((rd_T46 l0 x15_1).f7).length c135_7, .slice A135_8 ((rd_T46 l0 x15_1).f8).length c135_8, .slice A135_9 ((rd_T46 l0 x15_1).f9).length c135_9, .slice A135_10 ((rd_T46 l0 x15_1).f10).length c135_10, .int .u8 ((rd_T46 l0 x15_1).f11), .int .i64 ((rd_T46 l0 x15_1).f12), .int .i64 ((rd_T46 l0 x15_1).f13)] 46 (0, 0)) (by (with_reducible repeat (first | refine blk_drewN ?_ _ | refine blk_drew ?_ | refine blk_alloc ?_ _)); exact BK137.out) hb); have n1_ := Aside0.mk (blk_below (g := gb138) (o := .cells #[.int .i64 ((rd_T46 l1 x15_1).f0), .int .i64 ((rd_T46 l1 x15_1).f1), .string ((rd_T46 l1 x15_1).f2), .int .i64 ((rd_T46 l1 x15_1).f3), .slice A136_4 ((rd_T46 l1 x15_1).f4).length c136_4, .slice A136_5 ((rd_T46 l1 x15_1).f5).length c136_5, .slice A136_6 ((rd_T46 l1 x15_1).f6).length c136_6, .slice A136_7 ((rd_T46 l1 x15_1).f7).length c136_7, .slice A136_8 ((rd_T46 l1 x15_1).f8).length c136_8, .slice A136_9 ((rd_T46 l1 x15_1).f9).length c136_9, .slice A136_10 ((rd_T46 l1 x15_1).f10).length c136_10, .int .u8 ((rd_T46 l1 x15_1).f11), .int .i64 ((rd_T46 l1 x15_1).f12), .int .i64 ((rd_T46 l1 x15_1).f13)] 46 (0, 0)) (by (with_reducible repeat (first | refine blk_drewN ?_ _ | refine blk_drew ?_ | refine blk_alloc ?_ _)); exact BK138.out) hb); have n2_ := Aside0.mk (below_step (by repeat (first | (with_reducible first | exact HB.out | apply below_alloc | apply pw_below_drewN | apply below_drew1 | refine below_set ?_ GE137.out | refine below_set ?_ GE138.out) | exact HB.out)) hb); clear BK137; clear BK138; clear HB; have BK137 := n0_; have BK138 := n1_; have HB := n2_; clear n0_ n1_ n2_; (try clear hb); (try clear hb2); (try clear hk); (try clear hi)))
               all_goals first
                | (go_roundg kj7
                   case measure => have := HK1.out; have := HJ7.out; omega
                   case rel => exact ⟨(wrap64 (x15_1 + 1)), (by first | rfl | (simp; done) | (simp [*]; done) | (simp [*, bne]; done)), H', ⟨by have := HK1.out; have := HJ7.out; omega⟩, ⟨by repeat (first | (with_reducible first | exact HB.out | apply below_alloc | apply pw_below_drewN | apply below_drew1 | refine below_set ?_ GE137.out | refine below_set ?_ GE138.out) | exact HB.out)⟩⟩)
                | (go_ret
                   exact ⟨by first | rfl | (simp [errW_none, errW_some] <;> rfl) | (simp [*, errW_none, errW_some] <;> rfl), by repeat (first | (with_reducible first | exact HB.out | apply below_alloc | apply pw_below_drewN | apply below_drew1 | refine below_set ?_ GE137.out | refine below_set ?_ GE138.out) | exact HB.out)⟩)
           · rw [if_neg c7] at H
             exact absurd H (by simp)
         · rw [if_neg c6] at H
           exact absurd H (by simp)
       · rw [if_neg c5] at H
         exact absurd H (by simp)
     · rw [if_neg c4] at H
       have c4b0 : decide (x15_1 < (l0.length : Int)) = false := decide_eq_false c4
       clear c4
       obtain rfl := Option.some.inj H
       go_wp2
       go_ret
       exact ⟨by first | rfl | (simp [errW_none, errW_some] <;> rfl) | (simp [*, errW_none, errW_some] <;> rfl), by repeat (first | (with_reducible first | exact HB.out | apply below_alloc | apply pw_below_drewN | apply below_drew1) | exact HB.out)⟩
 · rw [if_neg c3] at H
   have c3b0 : ((l0.length : Int) == (l1.length : Int)) = false := beq_eq_false_iff_ne.mpr c3
   have c3b1 : ((l0.length : Int) != (l1.length : Int)) = true := bne_iff_ne.mpr c3
   have c3b2 : (l0.length == l1.length) = false := by first | simpa using c3 | (simp at c3 ⊢; omega)
   obtain rfl := Option.some.inj H
   go_enter Try.func11, Try.ntmps11
   go_wp2
   go_ret
   exact ⟨by first | rfl | (simp [errW_none, errW_some] <;> rfl) | (simp [*, errW_none, errW_some] <;> rfl), by repeat (first | (with_reducible first | exact HB.out | apply below_alloc | apply pw_below_drewN | apply below_drew1) | exact HB.out)⟩


end Go.Proofs.Ytmdkbhbconnmmaa.XIl
