-- WRITTEN BY wip/tools/xprint.py out of the translation: the kit's print with this work's hooks.
import Derived.Test.YtmdkbhbconnmmaaXIlx0
import Derived.Test.YtmdkbhbconnmmaaXIlx4
import Derived.Test.YtmdkbhbconnmmaaXIlx15
namespace Go.Proofs.Ytmdkbhbconnmmaa.XIl
open Go.RowKit Go.Proofs.YtmdkbhbconnmmaaW.PrintWords Go.Proofs.YtmdkbhbconnmmaaW.PrintLast Go.Proofs.YtmdkbhbconnmmaaW.PrintMore
attribute [local go_sem] max2_int min2_int max_two min_two max_three min_three max_four min_four   -- for this text's walks alone
set_option linter.unusedVariables false
set_option linter.unusedSimpArgs false

/-! ### relaylaw06_same: function 19 -/
mutual
def relaylaw06_same.l0 : Nat → List (S81) → List (S81) → Int → Int → Option (Bool)
 | 0, _, _, _, _ => none
 | k + 1, x1, x14, x15, x16 => if x16 < x15 then (if 0 ≤ x16 then (if x16 < (x14.length : Int) then (if x16 < (x1.length : Int) then (if ((rd_T81 x14 x16).f0) = ((rd_T81 x1 x16).f0) then (if ((rd_T81 x14 x16).f1).toList = ((rd_T81 x1 x16).f1).toList then (if ((rd_T81 x14 x16).f2).toList = ((rd_T81 x1 x16).f2).toList then (if (((rd_T81 x14 x16).f3) == ((rd_T81 x1 x16).f3)) = true then (if (((rd_T81 x14 x16).f4) == ((rd_T81 x1 x16).f4)) = true then (if (((rd_T81 x14 x16).f5) == ((rd_T81 x1 x16).f5)) = true then (relaylaw06_same.j1 k x1 (((rd_T81 x14 x16).f6).toList == ((rd_T81 x1 x16).f6).toList) x14 x15 x16 ((rd_T81 x14 x16).f0) ((rd_T81 x14 x16).f1) ((rd_T81 x14 x16).f2) ((rd_T81 x14 x16).f3) ((rd_T81 x14 x16).f4) ((rd_T81 x14 x16).f5) ((rd_T81 x14 x16).f6) ((rd_T81 x14 x16).f7) ((rd_T81 x14 x16).f8) ((rd_T81 x14 x16).f9) ((rd_T81 x14 x16).f10) ((rd_T81 x1 x16).f0) ((rd_T81 x1 x16).f1) ((rd_T81 x1 x16).f2) ((rd_T81 x1 x16).f3) ((rd_T81 x1 x16).f4) ((rd_T81 x1 x16).f5) ((rd_T81 x1 x16).f6) ((rd_T81 x1 x16).f7) ((rd_T81 x1 x16).f8) ((rd_T81 x1 x16).f9) ((rd_T81 x1 x16).f10)) else (relaylaw06_same.j1 k x1 false x14 x15 x16 ((rd_T81 x14 x16).f0) ((rd_T81 x14 x16).f1) ((rd_T81 x14 x16).f2) ((rd_T81 x14 x16).f3) ((rd_T81 x14 x16).f4) ((rd_T81 x14 x16).f5) ((rd_T81 x14 x16).f6) ((rd_T81 x14 x16).f7) ((rd_T81 x14 x16).f8) ((rd_T81 x14 x16).f9) ((rd_T81 x14 x16).f10) ((rd_T81 x1 x16).f0) ((rd_T81 x1 x16).f1) ((rd_T81 x1 x16).f2) ((rd_T81 x1 x16).f3) ((rd_T81 x1 x16).f4) ((rd_T81 x1 x16).f5) ((rd_T81 x1 x16).f6) ((rd_T81 x1 x16).f7) ((rd_T81 x1 x16).f8) ((rd_T81 x1 x16).f9) ((rd_T81 x1 x16).f10))) else (relaylaw06_same.j1 k x1 false x14 x15 x16 ((rd_T81 x14 x16).f0) ((rd_T81 x14 x16).f1) ((rd_T81 x14 x16).f2) ((rd_T81 x14 x16).f3) ((rd_T81 x14 x16).f4) ((rd_T81 x14 x16).f5) ((rd_T81 x14 x16).f6) ((rd_T81 x14 x16).f7) ((rd_T81 x14 x16).f8) ((rd_T81 x14 x16).f9) ((rd_T81 x14 x16).f10) ((rd_T81 x1 x16).f0) ((rd_T81 x1 x16).f1) ((rd_T81 x1 x16).f2) ((rd_T81 x1 x16).f3) ((rd_T81 x1 x16).f4) ((rd_T81 x1 x16).f5) ((rd_T81 x1 x16).f6) ((rd_T81 x1 x16).f7) ((rd_T81 x1 x16).f8) ((rd_T81 x1 x16).f9) ((rd_T81 x1 x16).f10))) else (relaylaw06_same.j1 k x1 false x14 x15 x16 ((rd_T81 x14 x16).f0) ((rd_T81 x14 x16).f1) ((rd_T81 x14 x16).f2) ((rd_T81 x14 x16).f3) ((rd_T81 x14 x16).f4) ((rd_T81 x14 x16).f5) ((rd_T81 x14 x16).f6) ((rd_T81 x14 x16).f7) ((rd_T81 x14 x16).f8) ((rd_T81 x14 x16).f9) ((rd_T81 x14 x16).f10) ((rd_T81 x1 x16).f0) ((rd_T81 x1 x16).f1) ((rd_T81 x1 x16).f2) ((rd_T81 x1 x16).f3) ((rd_T81 x1 x16).f4) ((rd_T81 x1 x16).f5) ((rd_T81 x1 x16).f6) ((rd_T81 x1 x16).f7) ((rd_T81 x1 x16).f8) ((rd_T81 x1 x16).f9) ((rd_T81 x1 x16).f10))) else (relaylaw06_same.j1 k x1 false x14 x15 x16 ((rd_T81 x14 x16).f0) ((rd_T81 x14 x16).f1) ((rd_T81 x14 x16).f2) ((rd_T81 x14 x16).f3) ((rd_T81 x14 x16).f4) ((rd_T81 x14 x16).f5) ((rd_T81 x14 x16).f6) ((rd_T81 x14 x16).f7) ((rd_T81 x14 x16).f8) ((rd_T81 x14 x16).f9) ((rd_T81 x14 x16).f10) ((rd_T81 x1 x16).f0) ((rd_T81 x1 x16).f1) ((rd_T81 x1 x16).f2) ((rd_T81 x1 x16).f3) ((rd_T81 x1 x16).f4) ((rd_T81 x1 x16).f5) ((rd_T81 x1 x16).f6) ((rd_T81 x1 x16).f7) ((rd_T81 x1 x16).f8) ((rd_T81 x1 x16).f9) ((rd_T81 x1 x16).f10))) else (relaylaw06_same.j1 k x1 false x14 x15 x16 ((rd_T81 x14 x16).f0) ((rd_T81 x14 x16).f1) ((rd_T81 x14 x16).f2) ((rd_T81 x14 x16).f3) ((rd_T81 x14 x16).f4) ((rd_T81 x14 x16).f5) ((rd_T81 x14 x16).f6) ((rd_T81 x14 x16).f7) ((rd_T81 x14 x16).f8) ((rd_T81 x14 x16).f9) ((rd_T81 x14 x16).f10) ((rd_T81 x1 x16).f0) ((rd_T81 x1 x16).f1) ((rd_T81 x1 x16).f2) ((rd_T81 x1 x16).f3) ((rd_T81 x1 x16).f4) ((rd_T81 x1 x16).f5) ((rd_T81 x1 x16).f6) ((rd_T81 x1 x16).f7) ((rd_T81 x1 x16).f8) ((rd_T81 x1 x16).f9) ((rd_T81 x1 x16).f10))) else (relaylaw06_same.j1 k x1 false x14 x15 x16 ((rd_T81 x14 x16).f0) ((rd_T81 x14 x16).f1) ((rd_T81 x14 x16).f2) ((rd_T81 x14 x16).f3) ((rd_T81 x14 x16).f4) ((rd_T81 x14 x16).f5) ((rd_T81 x14 x16).f6) ((rd_T81 x14 x16).f7) ((rd_T81 x14 x16).f8) ((rd_T81 x14 x16).f9) ((rd_T81 x14 x16).f10) ((rd_T81 x1 x16).f0) ((rd_T81 x1 x16).f1) ((rd_T81 x1 x16).f2) ((rd_T81 x1 x16).f3) ((rd_T81 x1 x16).f4) ((rd_T81 x1 x16).f5) ((rd_T81 x1 x16).f6) ((rd_T81 x1 x16).f7) ((rd_T81 x1 x16).f8) ((rd_T81 x1 x16).f9) ((rd_T81 x1 x16).f10))) else (none)) else (none)) else (none)) else (some true)
def relaylaw06_same.j1 : Nat → List (S81) → Bool → List (S81) → Int → Int → Int → ByteArray → ByteArray → Bool → Bool → Bool → ByteArray → List (S65) → List ByteArray → List (S65) → List ByteArray → Int → ByteArray → ByteArray → Bool → Bool → Bool → ByteArray → List (S65) → List ByteArray → List (S65) → List ByteArray → Option (Bool)
 | 0, _, _, _, _, _, _, _, _, _, _, _, _, _, _, _, _, _, _, _, _, _, _, _, _, _, _, _ => none
 | k + 1, x1, x8, x14, x15, x16, x128000, x128001, x128002, x128003, x128004, x128005, x128006, x128007, x128008, x128009, x128010, x130000, x130001, x130002, x130003, x130004, x130005, x130006, x130007, x130008, x130009, x130010 => if x8 = true then ((relayplain_SameExprs.f k x128007 x130007).bind fun t130 => (if t130 = true then ((relayplain_SameExprs.f k x128009 x130009).bind fun t131 => (if t131 = true then ((slices_Equal_string_string.f k x128008 x130008).bind fun t132 => (if t132 = true then ((slices_Equal_string_string.f k x128010 x130010).bind fun t133 => (if t133 = true then (relaylaw06_same.l0 k x1 x14 x15 (wrap64 (x16 + 1))) else (some false))) else (some false))) else (some false))) else (some false))) else (some false)
end
def relaylaw06_same.f (k : Nat) (l0 : List (S81)) (l1 : List (S81)) : Option (Bool) := if (l0.length : Int) = (l1.length : Int) then (relaylaw06_same.l0 k l1 l0 (l0.length : Int) 0) else (some false)
theorem relaylaw06_same.mono_l : ∀ k, (∀ y0 y1 y2 y3, LeO (relaylaw06_same.l0 k y0 y1 y2 y3) (relaylaw06_same.l0 (k + 1) y0 y1 y2 y3)) ∧ (∀ y0 y1 y2 y3 y4 y5 y6 y7 y8 y9 y10 y11 y12 y13 y14 y15 y16 y17 y18 y19 y20 y21 y22 y23 y24 y25 y26, LeO (relaylaw06_same.j1 k y0 y1 y2 y3 y4 y5 y6 y7 y8 y9 y10 y11 y12 y13 y14 y15 y16 y17 y18 y19 y20 y21 y22 y23 y24 y25 y26) (relaylaw06_same.j1 (k + 1) y0 y1 y2 y3 y4 y5 y6 y7 y8 y9 y10 y11 y12 y13 y14 y15 y16 y17 y18 y19 y20 y21 y22 y23 y24 y25 y26))
 | 0 => ⟨fun _ _ _ _ r h => by simp [relaylaw06_same.l0] at h, fun _ _ _ _ _ _ _ _ _ _ _ _ _ _ _ _ _ _ _ _ _ _ _ _ _ _ _ r h => by simp [relaylaw06_same.j1] at h⟩
 | k + 1 => by
  obtain ⟨ih0, ih1⟩ := relaylaw06_same.mono_l k
  refine ⟨?_, ?_⟩
  · intro y0 y1 y2 y3
    unfold relaylaw06_same.l0
    repeat' first
    | (with_reducible exact ih0 _ _ _ _)
    | (with_reducible exact ih1 _ _ _ _ _ _ _ _ _ _ _ _ _ _ _ _ _ _ _ _ _ _ _ _ _ _ _)
    | (with_reducible exact relayplain_SameExprs.mono _ _ _)
    | (with_reducible exact slices_Equal_string_string.mono _ _ _)
    | (with_reducible exact LeO.refl _)
    | (with_reducible exact LeO.none _)
    | (with_reducible refine LeO.ite ?_ ?_)
    | (with_reducible refine LeO.bind ?_ (fun _ => ?_))
    | exact ih0 _ _ _ _
    | exact ih1 _ _ _ _ _ _ _ _ _ _ _ _ _ _ _ _ _ _ _ _ _ _ _ _ _ _ _
    | exact relayplain_SameExprs.mono _ _ _
    | exact slices_Equal_string_string.mono _ _ _
    | exact LeO.none _
    | refine LeO.ite ?_ ?_
    | refine LeO.bind ?_ (fun _ => ?_)
  · intro y0 y1 y2 y3 y4 y5 y6 y7 y8 y9 y10 y11 y12 y13 y14 y15 y16 y17 y18 y19 y20 y21 y22 y23 y24 y25 y26
    unfold relaylaw06_same.j1
    repeat' first
    | (with_reducible exact ih0 _ _ _ _)
    | (with_reducible exact ih1 _ _ _ _ _ _ _ _ _ _ _ _ _ _ _ _ _ _ _ _ _ _ _ _ _ _ _)
    | (with_reducible exact relayplain_SameExprs.mono _ _ _)
    | (with_reducible exact slices_Equal_string_string.mono _ _ _)
    | (with_reducible exact LeO.refl _)
    | (with_reducible exact LeO.none _)
    | (with_reducible refine LeO.ite ?_ ?_)
    | (with_reducible refine LeO.bind ?_ (fun _ => ?_))
    | exact ih0 _ _ _ _
    | exact ih1 _ _ _ _ _ _ _ _ _ _ _ _ _ _ _ _ _ _ _ _ _ _ _ _ _ _ _
    | exact relayplain_SameExprs.mono _ _ _
    | exact slices_Equal_string_string.mono _ _ _
    | exact LeO.none _
    | refine LeO.ite ?_ ?_
    | refine LeO.bind ?_ (fun _ => ?_)
theorem relaylaw06_same.mono : ∀ a0 a1 k, LeO (relaylaw06_same.f k a0 a1) (relaylaw06_same.f (k + 1) a0 a1) := by
 intro a0 a1 k
 obtain ⟨ih0, ih1⟩ := relaylaw06_same.mono_l k
 unfold relaylaw06_same.f
 repeat' first
  | (with_reducible exact ih0 _ _ _ _)
  | (with_reducible exact ih1 _ _ _ _ _ _ _ _ _ _ _ _ _ _ _ _ _ _ _ _ _ _ _ _ _ _ _)
  | (with_reducible exact relayplain_SameExprs.mono _ _ _)
  | (with_reducible exact slices_Equal_string_string.mono _ _ _)
  | (with_reducible exact LeO.refl _)
  | (with_reducible exact LeO.none _)
  | (with_reducible refine LeO.ite ?_ ?_)
  | (with_reducible refine LeO.bind ?_ (fun _ => ?_))
  | exact ih0 _ _ _ _
  | exact ih1 _ _ _ _ _ _ _ _ _ _ _ _ _ _ _ _ _ _ _ _ _ _ _ _ _ _ _
  | exact relayplain_SameExprs.mono _ _ _
  | exact slices_Equal_string_string.mono _ _ _
  | exact LeO.none _
  | refine LeO.ite ?_ ?_
  | refine LeO.bind ?_ (fun _ => ?_)
set_option maxHeartbeats 8000000 in
set_option maxRecDepth 100000 in
theorem relaylaw06_same.calls (k : Nat) (A0 : Option Addr) (c0 : Nat) (l0 : List (S81)) (A1 : Option Addr) (c1 : Nat) (l1 : List (S81)) (r : Bool) (w : World) (hr0 : Kd.C k81 w A0 l0.length l0) (hc0 : l0.length ≤ c0) (hr1 : Kd.C k81 w A1 l1.length l1) (hc1 : l1.length ≤ c1) (h : relaylaw06_same.f k l0 l1 = some r) :
 Calls Try.prog 19 #[.slice A0 l0.length c0, .slice A1 l1.length c1] w fun e w' => e = .returned (.bool r) ∧ Below w.heap.size w w' := by
 have hu81 := Try.underlying81
 have HR0 := Aside0.mk hr0
 have HC0 := Aside0.mk hc0
 clear hr0 hc0
 have HR1 := Aside0.mk hr1
 have HC1 := Aside0.mk hc1
 clear hr1 hc1
 have HB := Aside0.mk (Below.refl w.heap.size w)
 have H : (if (l0.length : Int) = (l1.length : Int) then (relaylaw06_same.l0 k l1 l0 (l0.length : Int) 0) else (some false)) = some r := h
 clear h
 by_cases c3 : (l0.length : Int) = (l1.length : Int)
 · rw [if_pos c3] at H
   have c3b0 : ((l0.length : Int) == (l1.length : Int)) = true := beq_iff_eq.mpr c3
   have c3b1 : ((l0.length : Int) != (l1.length : Int)) = false := bne_eq_false_iff_eq.mpr c3
   have c3b2 : (l0.length == l1.length) = true := by first | simpa using c3 | (simp at c3 ⊢; omega)
   clear c3
   have H' := Aside0.mk H
   clear H
   go_enter Try.func19, Try.ntmps19
   go_wp2
   go_loopg [16] k (fun kq v16 w' => ∃ (x16_1 : Int), v16 = .int .i64 x16_1 ∧ Aside0 (relaylaw06_same.l0 kq l1 l0 (l0.length : Int) x16_1 = some r) ∧ Aside0 (kq ≤ k) ∧ Aside0 (Below w.heap.size w w'))
   case atStart => exact ⟨(0), (by first | rfl | (simp; done) | (simp [*]; done) | (simp [*, bne]; done)), H', ⟨Nat.le_refl _⟩, ⟨by repeat (first | (with_reducible first | exact HB.out | apply below_alloc | apply pw_below_drewN | apply below_drew1) | exact HB.out)⟩⟩
   case round =>
    clear H'
    try clear c1
    try clear p2
    try clear c3
    try clear c3b0
    try clear c3b1
    try clear c3b2
    obtain ⟨x16_1, rfl, HA, HK1, HB⟩ := hrel
    cases gk with
    | zero => exact absurd HA.out (by simp [relaylaw06_same.l0])
    | succ k1 =>
     have H := HA.out
     clear HA
     simp only [relaylaw06_same.l0] at H
     by_cases c4 : x16_1 < (l0.length : Int)
     · rw [if_pos c4] at H
       have c4b0 : decide (x16_1 < (l0.length : Int)) = true := decide_eq_true c4
       clear c4
       by_cases c5 : 0 ≤ x16_1
       · rw [if_pos c5] at H
         have c5b0 : decide (0 ≤ x16_1) = true := decide_eq_true c5
         clear c5
         by_cases c6 : x16_1 < (l0.length : Int)
         · rw [if_pos c6] at H
           have c6b0 : decide (x16_1 < (l0.length : Int)) = true := decide_eq_true c6
           clear c6
           by_cases c7 : x16_1 < (l1.length : Int)
           · rw [if_pos c7] at H
             have c7b0 : decide (x16_1 < (l1.length : Int)) = true := decide_eq_true c7
             clear c7
             have HC8 := Aside0.mk H
             clear H
             have p126 : 0 ≤ (x16_1 : Int) := of_decide_eq_true (by first | (with_reducible assumption) | assumption)
             have q126 : x16_1 < (l0.length : Int) := of_decide_eq_true (by first | (with_reducible assumption) | assumption)
             obtain ⟨ad126, A126_7, c126_7, A126_8, c126_8, A126_9, c126_9, A126_10, c126_10, e126, hx126_0, hx126_1, hx126_2, hx126_3, hx126_4, hx126_5, hx126_6, hx126_7, hx126_8, hx126_9, hx126_10, hl126_7, hi126_7, hl126_8, hi126_8, hl126_9, hi126_9, hl126_10, hi126_10⟩ := at_T81 HR0.out x16_1 p126 q126
             cases e126
             replace hx126_0 := (HB.out.cell (World.block_lt_of_cell? w _ hx126_0)).trans hx126_0
             replace hx126_1 := (HB.out.cell (World.block_lt_of_cell? w _ hx126_1)).trans hx126_1
             replace hx126_2 := (HB.out.cell (World.block_lt_of_cell? w _ hx126_2)).trans hx126_2
             replace hx126_3 := (HB.out.cell (World.block_lt_of_cell? w _ hx126_3)).trans hx126_3
             replace hx126_4 := (HB.out.cell (World.block_lt_of_cell? w _ hx126_4)).trans hx126_4
             replace hx126_5 := (HB.out.cell (World.block_lt_of_cell? w _ hx126_5)).trans hx126_5
             replace hx126_6 := (HB.out.cell (World.block_lt_of_cell? w _ hx126_6)).trans hx126_6
             replace hx126_7 := (HB.out.cell (World.block_lt_of_cell? w _ hx126_7)).trans hx126_7
             replace hx126_8 := (HB.out.cell (World.block_lt_of_cell? w _ hx126_8)).trans hx126_8
             replace hx126_9 := (HB.out.cell (World.block_lt_of_cell? w _ hx126_9)).trans hx126_9
             replace hx126_10 := (HB.out.cell (World.block_lt_of_cell? w _ hx126_10)).trans hx126_10
             have HR126_7 := Aside0.mk hi126_7
             have HC126_7 := Aside0.mk hl126_7
             clear hi126_7 hl126_7
             have HR126_8 := Aside0.mk hi126_8
             have HC126_8 := Aside0.mk hl126_8
             clear hi126_8 hl126_8
             have HR126_9 := Aside0.mk hi126_9
             have HC126_9 := Aside0.mk hl126_9
             clear hi126_9 hl126_9
             have HR126_10 := Aside0.mk hi126_10
             have HC126_10 := Aside0.mk hl126_10
             clear hi126_10 hl126_10
             replace p126 := eq_true p126
             replace q126 := eq_true q126
             go_upto_region 7 with (first | ((with_reducible refine gate_dst (N := 6) rfl ?_); refine box_event ?hg (N := 6) ?hd (cs := #[.int .i64 0, .string (⟨#[]⟩ : ByteArray), .string (⟨#[]⟩ : ByteArray), .bool false, .bool false, .bool false, .string (⟨#[]⟩ : ByteArray), .slice none 0 0, .slice none 0 0, .slice none 0 0, .slice none 0 0]) (t := 81) ?hr ?_; (case hd => rfl); (case hg => rfl); (case hr => first | (go_simp; done) | (go_simp; rfl)); intro gb127 hg w9 hbox hb; have n0_ := Aside0.mk (below_step (by repeat (first | (with_reducible first | exact HB.out | apply below_alloc | apply pw_below_drewN | apply below_drew1) | exact HB.out)) hb); have n1_ := Aside0.mk (hbox); have n2_ := Aside0.mk ((by rw [hg]; exact (below_size (by repeat (first | (with_reducible first | exact HB.out | apply below_alloc | apply pw_below_drewN | apply below_drew1) | exact HB.out))) : w.heap.size ≤ gb127)); have n3_ := Aside0.mk ((by rw [hg]; exact (below_size (by repeat (first | (with_reducible first | exact HB.out | apply below_alloc | apply pw_below_drewN | apply below_drew1) | exact HB.out))) : w.heap.size ≤ gb127)); clear HB; have HB := n0_; have BK127 := n1_; have GW127 := n2_; have GE127 := n3_; clear n0_ n1_ n2_ n3_; clear hb hbox hg; obtain ⟨hcz10_0, hcz10_1, hcz10_2, hcz10_3, hcz10_4, hcz10_5, hcz10_6, hcz10_7, hcz10_8, hcz10_9, hcz10_10, hfz10_0, hfz10_1, hfz10_2, hfz10_3, hfz10_4, hfz10_5, hfz10_6, hfz10_7, hfz10_8, hfz10_9, hfz10_10⟩ := cells11 BK127.out; have p128 : 0 ≤ (x16_1 : Int) := of_decide_eq_true (by first | (with_reducible assumption) | assumption); have q128 : x16_1 < (l1.length : Int) := of_decide_eq_true (by first | (with_reducible assumption) | assumption); obtain ⟨ad128, A128_7, c128_7, A128_8, c128_8, A128_9, c128_9, A128_10, c128_10, e128, hx128_0, hx128_1, hx128_2, hx128_3, hx128_4, hx128_5, hx128_6, hx128_7, hx128_8, hx128_9, hx128_10, hl128_7, hi128_7, hl128_8, hi128_8, hl128_9, hi128_9, hl128_10, hi128_10⟩ := at_T81 HR1.out x16_1 p128 q128; cases e128; have hn128_0 : ad128.block ≠ gb127 := Nat.ne_of_lt (Nat.lt_of_lt_of_le (by have := World.block_lt_of_cell? _ _ hx128_0; first | rwa [add_block] at this | exact this) GW127.out); have hn128_1 := hn128_0; have hn128_2 := hn128_0; have hn128_3 := hn128_0; have hn128_4 := hn128_0; have hn128_5 := hn128_0; have hn128_6 := hn128_0; have hn128_7 := hn128_0; have hn128_8 := hn128_0; have hn128_9 := hn128_0; have hn128_10 := hn128_0; replace hx128_0 := (HB.out.cell (World.block_lt_of_cell? w _ hx128_0)).trans hx128_0; replace hx128_1 := (HB.out.cell (World.block_lt_of_cell? w _ hx128_1)).trans hx128_1; replace hx128_2 := (HB.out.cell (World.block_lt_of_cell? w _ hx128_2)).trans hx128_2; replace hx128_3 := (HB.out.cell (World.block_lt_of_cell? w _ hx128_3)).trans hx128_3; replace hx128_4 := (HB.out.cell (World.block_lt_of_cell? w _ hx128_4)).trans hx128_4; replace hx128_5 := (HB.out.cell (World.block_lt_of_cell? w _ hx128_5)).trans hx128_5; replace hx128_6 := (HB.out.cell (World.block_lt_of_cell? w _ hx128_6)).trans hx128_6; replace hx128_7 := (HB.out.cell (World.block_lt_of_cell? w _ hx128_7)).trans hx128_7; replace hx128_8 := (HB.out.cell (World.block_lt_of_cell? w _ hx128_8)).trans hx128_8; replace hx128_9 := (HB.out.cell (World.block_lt_of_cell? w _ hx128_9)).trans hx128_9; replace hx128_10 := (HB.out.cell (World.block_lt_of_cell? w _ hx128_10)).trans hx128_10; have HR128_7 := Aside0.mk hi128_7; have HC128_7 := Aside0.mk hl128_7; clear hi128_7 hl128_7; have HR128_8 := Aside0.mk hi128_8; have HC128_8 := Aside0.mk hl128_8; clear hi128_8 hl128_8; have HR128_9 := Aside0.mk hi128_9; have HC128_9 := Aside0.mk hl128_9; clear hi128_9 hl128_9; have HR128_10 := Aside0.mk hi128_10; have HC128_10 := Aside0.mk hl128_10; clear hi128_10 hl128_10; replace hx128_0 := far11 gb127 (.int .i64 ((rd_T81 l0 x16_1).f0)) (.string ((rd_T81 l0 x16_1).f1)) (.string ((rd_T81 l0 x16_1).f2)) (.bool ((rd_T81 l0 x16_1).f3)) (.bool ((rd_T81 l0 x16_1).f4)) (.bool ((rd_T81 l0 x16_1).f5)) (.string ((rd_T81 l0 x16_1).f6)) (.slice A126_7 ((rd_T81 l0 x16_1).f7).length c126_7) (.slice A126_8 ((rd_T81 l0 x16_1).f8).length c126_8) (.slice A126_9 ((rd_T81 l0 x16_1).f9).length c126_9) (.slice A126_10 ((rd_T81 l0 x16_1).f10).length c126_10) (by first | (rw [add_block]; exact hn128_0) | (show (Addr.add _ _).block ≠ _; rw [add_block]; exact hn128_0) | exact hn128_0) hx128_0; replace hx128_1 := far11 gb127 (.int .i64 ((rd_T81 l0 x16_1).f0)) (.string ((rd_T81 l0 x16_1).f1)) (.string ((rd_T81 l0 x16_1).f2)) (.bool ((rd_T81 l0 x16_1).f3)) (.bool ((rd_T81 l0 x16_1).f4)) (.bool ((rd_T81 l0 x16_1).f5)) (.string ((rd_T81 l0 x16_1).f6)) (.slice A126_7 ((rd_T81 l0 x16_1).f7).length c126_7) (.slice A126_8 ((rd_T81 l0 x16_1).f8).length c126_8) (.slice A126_9 ((rd_T81 l0 x16_1).f9).length c126_9) (.slice A126_10 ((rd_T81 l0 x16_1).f10).length c126_10) (by first | (rw [add_block]; exact hn128_0) | (show (Addr.add _ _).block ≠ _; rw [add_block]; exact hn128_0) | exact hn128_0) hx128_1; replace hx128_2 := far11 gb127 (.int .i64 ((rd_T81 l0 x16_1).f0)) (.string ((rd_T81 l0 x16_1).f1)) (.string ((rd_T81 l0 x16_1).f2)) (.bool ((rd_T81 l0 x16_1).f3)) (.bool ((rd_T81 l0 x16_1).f4)) (.bool ((rd_T81 l0 x16_1).f5)) (.string ((rd_T81 l0 x16_1).f6)) (.slice A126_7 ((rd_T81 l0 x16_1).f7).length c126_7) (.slice A126_8 ((rd_T81 l0 x16_1).f8).length c126_8) (.slice A126_9 ((rd_T81 l0 x16_1).f9).length c126_9) (.slice A126_10 ((rd_T81 l0 x16_1).f10).length c126_10) (by first | (rw [add_block]; exact hn128_0) | (show (Addr.add _ _).block ≠ _; rw [add_block]; exact hn128_0) | exact hn128_0) hx128_2; replace hx128_3 := far11 gb127 (.int .i64 ((rd_T81 l0 x16_1).f0)) (.string ((rd_T81 l0 x16_1).f1)) (.string ((rd_T81 l0 x16_1).f2)) (.bool ((rd_T81 l0 x16_1).f3)) (.bool ((rd_T81 l0 x16_1).f4)) (.bool ((rd_T81 l0 x16_1).f5)) (.string ((rd_T81 l0 x16_1).f6)) (.slice A126_7 ((rd_T81 l0 x16_1).f7).length c126_7) (.slice A126_8 ((rd_T81 l0 x16_1).f8).length c126_8) (.slice A126_9 ((rd_T81 l0 x16_1).f9).length c126_9) (.slice A126_10 ((rd_T81 l0 x16_1).f10).length c126_10) (by first | (rw [add_block]; exact hn128_0) | (show (Addr.add _ _).block ≠ _; rw [add_block]; exact hn128_0) | exact hn128_0) hx128_3; replace hx128_4 := far11 gb127 (.int .i64 ((rd_T81 l0 x16_1).f0)) (.string ((rd_T81 l0 x16_1).f1)) (.string ((rd_T81 l0 x16_1).f2)) (.bool ((rd_T81 l0 x16_1).f3)) (.bool ((rd_T81 l0 x16_1).f4)) (.bool ((rd_T81 l0 x16_1).f5)) (.string ((rd_T81 l0 x16_1).f6)) (.slice A126_7 ((rd_T81 l0 x16_1).f7).length c126_7) (.slice A126_8 ((rd_T81 l0 x16_1).f8).length c126_8) (.slice A126_9 ((rd_T81 l0 x16_1).f9).length c126_9) (.slice A126_10 ((rd_T81 l0 x16_1).f10).length c126_10) (by first | (rw [add_block]; exact hn128_0) | (show (Addr.add _ _).block ≠ _; rw [add_block]; exact hn128_0) | exact hn128_0) hx128_4; replace hx128_5 := far11 gb127 (.int .i64 ((rd_T81 l0 x16_1).f0)) (.string ((rd_T81 l0 x16_1).f1)) (.string ((rd_T81 l0 x16_1).f2)) (.bool ((rd_T81 l0 x16_1).f3)) (.bool ((rd_T81 l0 x16_1).f4)) (.bool ((rd_T81 l0 x16_1).f5)) (.string ((rd_T81 l0 x16_1).f6)) (.slice A126_7 ((rd_T81 l0 x16_1).f7).length c126_7) (.slice A126_8 ((rd_T81 l0 x16_1).f8).length c126_8) (.slice A126_9 ((rd_T81 l0 x16_1).f9).length c126_9) (.slice A126_10 ((rd_T81 l0 x16_1).f10).length c126_10) (by first | (rw [add_block]; exact hn128_0) | (show (Addr.add _ _).block ≠ _; rw [add_block]; exact hn128_0) | exact hn128_0) hx128_5; replace hx128_6 := far11 gb127 (.int .i64 ((rd_T81 l0 x16_1).f0)) (.string ((rd_T81 l0 x16_1).f1)) (.string ((rd_T81 l0 x16_1).f2)) (.bool ((rd_T81 l0 x16_1).f3)) (.bool ((rd_T81 l0 x16_1).f4)) (.bool ((rd_T81 l0 x16_1).f5)) (.string ((rd_T81 l0 x16_1).f6)) (.slice A126_7 ((rd_T81 l0 x16_1).f7).length c126_7) (.slice A126_8 ((rd_T81 l0 x16_1).f8).length c126_8) (.slice A126_9 ((rd_T81 l0 x16_1).f9).length c126_9) (.slice A126_10 ((rd_T81 l0 x16_1).f10).length c126_10) (by first | (rw [add_block]; exact hn128_0) | (show (Addr.add _ _).block ≠ _; rw [add_block]; exact hn128_0) | exact hn128_0) hx128_6; replace hx128_7 := far11 gb127 (.int .i64 ((rd_T81 l0 x16_1).f0)) (.string ((rd_T81 l0 x16_1).f1)) (.string ((rd_T81 l0 x16_1).f2)) (.bool ((rd_T81 l0 x16_1).f3)) (.bool ((rd_T81 l0 x16_1).f4)) (.bool ((rd_T81 l0 x16_1).f5)) (.string ((rd_T81 l0 x16_1).f6)) (.slice A126_7 ((rd_T81 l0 x16_1).f7).length c126_7) (.slice A126_8 ((rd_T81 l0 x16_1).f8).length c126_8) (.slice A126_9 ((rd_T81 l0 x16_1).f9).length c126_9) (.slice A126_10 ((rd_T81 l0 x16_1).f10).length c126_10) (by first | (rw [add_block]; exact hn128_0) | (show (Addr.add _ _).block ≠ _; rw [add_block]; exact hn128_0) | exact hn128_0) hx128_7; replace hx128_8 := far11 gb127 (.int .i64 ((rd_T81 l0 x16_1).f0)) (.string ((rd_T81 l0 x16_1).f1)) (.string ((rd_T81 l0 x16_1).f2)) (.bool ((rd_T81 l0 x16_1).f3)) (.bool ((rd_T81 l0 x16_1).f4)) (.bool ((rd_T81 l0 x16_1).f5)) (.string ((rd_T81 l0 x16_1).f6)) (.slice A126_7 ((rd_T81 l0 x16_1).f7).length c126_7) (.slice A126_8 ((rd_T81 l0 x16_1).f8).length c126_8) (.slice A126_9 ((rd_T81 l0 x16_1).f9).length c126_9) (.slice A126_10 ((rd_T81 l0 x16_1).f10).length c126_10) (by first | (rw [add_block]; exact hn128_0) | (show (Addr.add _ _).block ≠ _; rw [add_block]; exact hn128_0) | exact hn128_0) hx128_8; replace hx128_9 := far11 gb127 (.int .i64 ((rd_T81 l0 x16_1).f0)) (.string ((rd_T81 l0 x16_1).f1)) (.string ((rd_T81 l0 x16_1).f2)) (.bool ((rd_T81 l0 x16_1).f3)) (.bool ((rd_T81 l0 x16_1).f4)) (.bool ((rd_T81 l0 x16_1).f5)) (.string ((rd_T81 l0 x16_1).f6)) (.slice A126_7 ((rd_T81 l0 x16_1).f7).length c126_7) (.slice A126_8 ((rd_T81 l0 x16_1).f8).length c126_8) (.slice A126_9 ((rd_T81 l0 x16_1).f9).length c126_9) (.slice A126_10 ((rd_T81 l0 x16_1).f10).length c126_10) (by first | (rw [add_block]; exact hn128_0) | (show (Addr.add _ _).block ≠ _; rw [add_block]; exact hn128_0) | exact hn128_0) hx128_9; replace hx128_10 := far11 gb127 (.int .i64 ((rd_T81 l0 x16_1).f0)) (.string ((rd_T81 l0 x16_1).f1)) (.string ((rd_T81 l0 x16_1).f2)) (.bool ((rd_T81 l0 x16_1).f3)) (.bool ((rd_T81 l0 x16_1).f4)) (.bool ((rd_T81 l0 x16_1).f5)) (.string ((rd_T81 l0 x16_1).f6)) (.slice A126_7 ((rd_T81 l0 x16_1).f7).length c126_7) (.slice A126_8 ((rd_T81 l0 x16_1).f8).length c126_8) (.slice A126_9 ((rd_T81 l0 x16_1).f9).length c126_9) (.slice A126_10 ((rd_T81 l0 x16_1).f10).length c126_10) (by first | (rw [add_block]; exact hn128_0) | (show (Addr.add _ _).block ≠ _; rw [add_block]; exact hn128_0) | exact hn128_0) hx128_10; clear hn128_0; clear hn128_1; clear hn128_2; clear hn128_3; clear hn128_4; clear hn128_5; clear hn128_6; clear hn128_7; clear hn128_8; clear hn128_9; clear hn128_10; replace p128 := eq_true p128; replace q128 := eq_true q128) | ((with_reducible refine gate_dst (N := 7) rfl ?_); refine box_event ?hg (N := 7) ?hd (cs := #[.int .i64 0, .string (⟨#[]⟩ : ByteArray), .string (⟨#[]⟩ : ByteArray), .bool false, .bool false, .bool false, .string (⟨#[]⟩ : ByteArray), .slice none 0 0, .slice none 0 0, .slice none 0 0, .slice none 0 0]) (t := 81) ?hr ?_; (case hd => rfl); (case hg => rfl); (case hr => first | (go_simp; done) | (go_simp; rfl)); intro gb129 hg w11 hbox hb; have n0_ := Aside0.mk (blk_below (g := gb127) (o := .cells #[.int .i64 ((rd_T81 l0 x16_1).f0), .string ((rd_T81 l0 x16_1).f1), .string ((rd_T81 l0 x16_1).f2), .bool ((rd_T81 l0 x16_1).f3), .bool ((rd_T81 l0 x16_1).f4), .bool ((rd_T81 l0 x16_1).f5), .string ((rd_T81 l0 x16_1).f6), .slice A126_7 ((rd_T81 l0 x16_1).f7).length c126_7, .slice A126_8 ((rd_T81 l0 x16_1).f8).length c126_8, .slice A126_9 ((rd_T81 l0 x16_1).f9).length c126_9, .slice A126_10 ((rd_T81 l0 x16_1).f10).length c126_10] 81 (0, 0)) (by (with_reducible repeat (first | refine blk_drewN ?_ _ | refine blk_drew ?_ | refine blk_alloc ?_ _)); apply put11; (with_reducible repeat (first | refine blk_drewN ?_ _ | refine blk_drew ?_ | refine blk_alloc ?_ _)); exact BK127.out) hb); have n1_ := Aside0.mk (below_step (by repeat (first | (with_reducible first | exact HB.out | apply below_alloc | apply pw_below_drewN | apply below_drew1 | refine below_set ?_ GE127.out) | exact HB.out)) hb); have n2_ := Aside0.mk (hbox); have n3_ := Aside0.mk ((by rw [hg]; exact (below_size (by repeat (first | (with_reducible first | exact HB.out | apply below_alloc | apply pw_below_drewN | apply below_drew1 | refine below_set ?_ GE127.out) | exact HB.out))) : w.heap.size ≤ gb129)); have n4_ := Aside0.mk ((by rw [hg]; exact (below_size (by repeat (first | (with_reducible first | exact HB.out | apply below_alloc | apply pw_below_drewN | apply below_drew1 | refine below_set ?_ GE127.out) | exact HB.out))) : w.heap.size ≤ gb129)); have n5_ := Aside0.mk ((by rw [hg]; exact Nat.ne_of_lt (blk_lt (g := gb127) (o := .cells #[.int .i64 ((rd_T81 l0 x16_1).f0), .string ((rd_T81 l0 x16_1).f1), .string ((rd_T81 l0 x16_1).f2), .bool ((rd_T81 l0 x16_1).f3), .bool ((rd_T81 l0 x16_1).f4), .bool ((rd_T81 l0 x16_1).f5), .string ((rd_T81 l0 x16_1).f6), .slice A126_7 ((rd_T81 l0 x16_1).f7).length c126_7, .slice A126_8 ((rd_T81 l0 x16_1).f8).length c126_8, .slice A126_9 ((rd_T81 l0 x16_1).f9).length c126_9, .slice A126_10 ((rd_T81 l0 x16_1).f10).length c126_10] 81 (0, 0)) (by (with_reducible repeat (first | refine blk_drewN ?_ _ | refine blk_drew ?_ | refine blk_alloc ?_ _)); apply put11; (with_reducible repeat (first | refine blk_drewN ?_ _ | refine blk_drew ?_ | refine blk_alloc ?_ _)); exact BK127.out)) : gb127 ≠ gb129)); have n6_ := Aside0.mk ((by rw [hg]; exact Nat.ne_of_gt (blk_lt (g := gb127) (o := .cells #[.int .i64 ((rd_T81 l0 x16_1).f0), .string ((rd_T81 l0 x16_1).f1), .string ((rd_T81 l0 x16_1).f2), .bool ((rd_T81 l0 x16_1).f3), .bool ((rd_T81 l0 x16_1).f4), .bool ((rd_T81 l0 x16_1).f5), .string ((rd_T81 l0 x16_1).f6), .slice A126_7 ((rd_T81 l0 x16_1).f7).length c126_7, .slice A126_8 ((rd_T81 l0 x16_1).f8).length c126_8, .slice A126_9 ((rd_T81 l0 x16_1).f9).length c126_9, .slice A126_10 ((rd_T81 l0 x16_1).f10).length c126_10] 81 (0, 0)) (by (with_reducible repeat (first | refine blk_drewN ?_ _ | refine blk_drew ?_ | refine blk_alloc ?_ _)); apply put11; (with_reducible repeat (first | refine blk_drewN ?_ _ | refine blk_drew ?_ | refine blk_alloc ?_ _)); exact BK127.out)) : gb129 ≠ gb127)); clear BK127; clear HB; have BK127 := n0_; have HB := n1_; have BK129 := n2_; have GW129 := n3_; have GE129 := n4_; have NB127_129 := n5_; have NB129_127 := n6_; clear n0_ n1_ n2_ n3_ n4_ n5_ n6_; clear hb hbox hg; have hnb12 := NB129_127.out; have hnc12 := NB127_129.out; obtain ⟨hcz13_0, hcz13_1, hcz13_2, hcz13_3, hcz13_4, hcz13_5, hcz13_6, hcz13_7, hcz13_8, hcz13_9, hcz13_10, hfz13_0, hfz13_1, hfz13_2, hfz13_3, hfz13_4, hfz13_5, hfz13_6, hfz13_7, hfz13_8, hfz13_9, hfz13_10⟩ := cells11 BK129.out))
             (try simp only [Act.put, List.setIfInBounds_toArray, List.set_cons_zero, List.set_cons_succ])
             go_cut [8] (fun v8 wc => ∃ (kq : Nat) (x8_7 : Bool), v8 = .bool x8_7 ∧ Aside0 (relaylaw06_same.j1 kq l1 x8_7 l0 (l0.length : Int) x16_1 ((rd_T81 l0 x16_1).f0) ((rd_T81 l0 x16_1).f1) ((rd_T81 l0 x16_1).f2) ((rd_T81 l0 x16_1).f3) ((rd_T81 l0 x16_1).f4) ((rd_T81 l0 x16_1).f5) ((rd_T81 l0 x16_1).f6) ((rd_T81 l0 x16_1).f7) ((rd_T81 l0 x16_1).f8) ((rd_T81 l0 x16_1).f9) ((rd_T81 l0 x16_1).f10) ((rd_T81 l1 x16_1).f0) ((rd_T81 l1 x16_1).f1) ((rd_T81 l1 x16_1).f2) ((rd_T81 l1 x16_1).f3) ((rd_T81 l1 x16_1).f4) ((rd_T81 l1 x16_1).f5) ((rd_T81 l1 x16_1).f6) ((rd_T81 l1 x16_1).f7) ((rd_T81 l1 x16_1).f8) ((rd_T81 l1 x16_1).f9) ((rd_T81 l1 x16_1).f10) = some r) ∧ Aside0 (kq ≤ k1) ∧ Aside0 (wc.heap[gb127]? = some (.cells #[.int .i64 ((rd_T81 l0 x16_1).f0), .string ((rd_T81 l0 x16_1).f1), .string ((rd_T81 l0 x16_1).f2), .bool ((rd_T81 l0 x16_1).f3), .bool ((rd_T81 l0 x16_1).f4), .bool ((rd_T81 l0 x16_1).f5), .string ((rd_T81 l0 x16_1).f6), (.slice A126_7 ((rd_T81 l0 x16_1).f7).length c126_7), (.slice A126_8 ((rd_T81 l0 x16_1).f8).length c126_8), (.slice A126_9 ((rd_T81 l0 x16_1).f9).length c126_9), (.slice A126_10 ((rd_T81 l0 x16_1).f10).length c126_10)] 81 (0, 0))) ∧ Aside0 (wc.heap[gb129]? = some (.cells #[.int .i64 ((rd_T81 l1 x16_1).f0), .string ((rd_T81 l1 x16_1).f1), .string ((rd_T81 l1 x16_1).f2), .bool ((rd_T81 l1 x16_1).f3), .bool ((rd_T81 l1 x16_1).f4), .bool ((rd_T81 l1 x16_1).f5), .string ((rd_T81 l1 x16_1).f6), (.slice A128_7 ((rd_T81 l1 x16_1).f7).length c128_7), (.slice A128_8 ((rd_T81 l1 x16_1).f8).length c128_8), (.slice A128_9 ((rd_T81 l1 x16_1).f9).length c128_9), (.slice A128_10 ((rd_T81 l1 x16_1).f10).length c128_10)] 81 (0, 0))) ∧ Aside0 (Below w.heap.size w wc))
             case first =>
              have H := HC8.out
              clear HC8
              by_cases c14 : ((rd_T81 l0 x16_1).f0) = ((rd_T81 l1 x16_1).f0)
              · rw [if_pos c14] at H
                have c14b0 : (((rd_T81 l0 x16_1).f0) == ((rd_T81 l1 x16_1).f0)) = true := beq_iff_eq.mpr c14
                have c14b1 : (((rd_T81 l0 x16_1).f0) != ((rd_T81 l1 x16_1).f0)) = false := bne_eq_false_iff_eq.mpr c14
                clear c14
                (first | rw [c14b0] | (simp only [i64_w, i32_w]; rw [c14b0]) | skip)
                by_cases c15 : ((rd_T81 l0 x16_1).f1).toList = ((rd_T81 l1 x16_1).f1).toList
                · rw [if_pos c15] at H
                  have c15b0 : (((rd_T81 l0 x16_1).f1).toList == ((rd_T81 l1 x16_1).f1).toList) = true := beq_iff_eq.mpr c15
                  have c15b1 : (((rd_T81 l0 x16_1).f1).toList != ((rd_T81 l1 x16_1).f1).toList) = false := bne_eq_false_iff_eq.mpr c15
                  clear c15
                  by_cases c16 : ((rd_T81 l0 x16_1).f2).toList = ((rd_T81 l1 x16_1).f2).toList
                  · rw [if_pos c16] at H
                    have c16b0 : (((rd_T81 l0 x16_1).f2).toList == ((rd_T81 l1 x16_1).f2).toList) = true := beq_iff_eq.mpr c16
                    have c16b1 : (((rd_T81 l0 x16_1).f2).toList != ((rd_T81 l1 x16_1).f2).toList) = false := bne_eq_false_iff_eq.mpr c16
                    clear c16
                    by_cases c17 : (((rd_T81 l0 x16_1).f3) == ((rd_T81 l1 x16_1).f3)) = true
                    · rw [if_pos c17] at H
                      have c17b0 : (((rd_T81 l0 x16_1).f3) == ((rd_T81 l1 x16_1).f3)) = true := c17
                      (try (have c17b1 : decide (((rd_T81 l0 x16_1).f3) = ((rd_T81 l1 x16_1).f3)) = true := by simpa using c17))
                      (try (have c17b2 : (((rd_T81 l0 x16_1).f3) == ((rd_T81 l1 x16_1).f3)) = true := by simpa using c17))
                      clear c17
                      by_cases c18 : (((rd_T81 l0 x16_1).f4) == ((rd_T81 l1 x16_1).f4)) = true
                      · rw [if_pos c18] at H
                        have c18b0 : (((rd_T81 l0 x16_1).f4) == ((rd_T81 l1 x16_1).f4)) = true := c18
                        (try (have c18b1 : decide (((rd_T81 l0 x16_1).f4) = ((rd_T81 l1 x16_1).f4)) = true := by simpa using c18))
                        (try (have c18b2 : (((rd_T81 l0 x16_1).f4) == ((rd_T81 l1 x16_1).f4)) = true := by simpa using c18))
                        clear c18
                        by_cases c19 : (((rd_T81 l0 x16_1).f5) == ((rd_T81 l1 x16_1).f5)) = true
                        · rw [if_pos c19] at H
                          have c19b0 : (((rd_T81 l0 x16_1).f5) == ((rd_T81 l1 x16_1).f5)) = true := c19
                          (try (have c19b1 : decide (((rd_T81 l0 x16_1).f5) = ((rd_T81 l1 x16_1).f5)) = true := by simpa using c19))
                          (try (have c19b2 : (((rd_T81 l0 x16_1).f5) == ((rd_T81 l1 x16_1).f5)) = true := by simpa using c19))
                          clear c19
                          have H' := Aside0.mk H
                          clear H
                          have hnb20 := NB127_129.out
                          have hnc20 := NB129_127.out
                          obtain ⟨hcz21_0, hcz21_1, hcz21_2, hcz21_3, hcz21_4, hcz21_5, hcz21_6, hcz21_7, hcz21_8, hcz21_9, hcz21_10, hfz21_0, hfz21_1, hfz21_2, hfz21_3, hfz21_4, hfz21_5, hfz21_6, hfz21_7, hfz21_8, hfz21_9, hfz21_10⟩ := cells11 BK127.out
                          obtain ⟨hcz22_0, hcz22_1, hcz22_2, hcz22_3, hcz22_4, hcz22_5, hcz22_6, hcz22_7, hcz22_8, hcz22_9, hcz22_10, hfz22_0, hfz22_1, hfz22_2, hfz22_3, hfz22_4, hfz22_5, hfz22_6, hfz22_7, hfz22_8, hfz22_9, hfz22_10⟩ := cells11 BK129.out
                          go_wp2
                          go_meet
                          case rel => exact ⟨_, ((((rd_T81 l0 x16_1).f6).toList == ((rd_T81 l1 x16_1).f6).toList)), (by first | rfl | (simp; done) | (simp [*]; done) | (simp [*, bne]; done)), H', ⟨by have := HK1.out; first | omega | exact Nat.le_refl _⟩, ⟨by (with_reducible repeat (first | refine blk_drewN ?_ _ | refine blk_drew ?_ | refine blk_alloc ?_ _)); refine blk_far ?_ NB127_129.out _; (with_reducible repeat (first | refine blk_drewN ?_ _ | refine blk_drew ?_ | refine blk_alloc ?_ _)); refine blk_far ?_ NB127_129.out _; (with_reducible repeat (first | refine blk_drewN ?_ _ | refine blk_drew ?_ | refine blk_alloc ?_ _)); refine blk_far ?_ NB127_129.out _; (with_reducible repeat (first | refine blk_drewN ?_ _ | refine blk_drew ?_ | refine blk_alloc ?_ _)); refine blk_far ?_ NB127_129.out _; (with_reducible repeat (first | refine blk_drewN ?_ _ | refine blk_drew ?_ | refine blk_alloc ?_ _)); refine blk_far ?_ NB127_129.out _; (with_reducible repeat (first | refine blk_drewN ?_ _ | refine blk_drew ?_ | refine blk_alloc ?_ _)); refine blk_far ?_ NB127_129.out _; (with_reducible repeat (first | refine blk_drewN ?_ _ | refine blk_drew ?_ | refine blk_alloc ?_ _)); refine blk_far ?_ NB127_129.out _; (with_reducible repeat (first | refine blk_drewN ?_ _ | refine blk_drew ?_ | refine blk_alloc ?_ _)); refine blk_far ?_ NB127_129.out _; (with_reducible repeat (first | refine blk_drewN ?_ _ | refine blk_drew ?_ | refine blk_alloc ?_ _)); refine blk_far ?_ NB127_129.out _; (with_reducible repeat (first | refine blk_drewN ?_ _ | refine blk_drew ?_ | refine blk_alloc ?_ _)); refine blk_far ?_ NB127_129.out _; (with_reducible repeat (first | refine blk_drewN ?_ _ | refine blk_drew ?_ | refine blk_alloc ?_ _)); refine blk_far ?_ NB127_129.out _; (with_reducible repeat (first | refine blk_drewN ?_ _ | refine blk_drew ?_ | refine blk_alloc ?_ _)); exact BK127.out⟩, ⟨by (with_reducible repeat (first | refine blk_drewN ?_ _ | refine blk_drew ?_ | refine blk_alloc ?_ _)); apply put11; (with_reducible repeat (first | refine blk_drewN ?_ _ | refine blk_drew ?_ | refine blk_alloc ?_ _)); exact BK129.out⟩, ⟨by repeat (first | (with_reducible first | exact HB.out | apply below_alloc | apply pw_below_drewN | apply below_drew1 | refine below_set ?_ GE127.out | refine below_set ?_ GE129.out) | exact HB.out)⟩⟩
                        · rw [if_neg c19] at H
                          have c19b0 : (((rd_T81 l0 x16_1).f5) == ((rd_T81 l1 x16_1).f5)) = false := by simpa using c19
                          (try (have c19b1 : decide (((rd_T81 l0 x16_1).f5) = ((rd_T81 l1 x16_1).f5)) = false := by simpa using c19))
                          (try (have c19b2 : (((rd_T81 l0 x16_1).f5) == ((rd_T81 l1 x16_1).f5)) = false := by simpa using c19))
                          (try (have c19b3 : ¬ (((rd_T81 l0 x16_1).f5) = ((rd_T81 l1 x16_1).f5)) := by simpa using c19))
                          clear c19
                          have H' := Aside0.mk H
                          clear H
                          have hnb23 := NB127_129.out
                          have hnc23 := NB129_127.out
                          obtain ⟨hcz24_0, hcz24_1, hcz24_2, hcz24_3, hcz24_4, hcz24_5, hcz24_6, hcz24_7, hcz24_8, hcz24_9, hcz24_10, hfz24_0, hfz24_1, hfz24_2, hfz24_3, hfz24_4, hfz24_5, hfz24_6, hfz24_7, hfz24_8, hfz24_9, hfz24_10⟩ := cells11 BK127.out
                          obtain ⟨hcz25_0, hcz25_1, hcz25_2, hcz25_3, hcz25_4, hcz25_5, hcz25_6, hcz25_7, hcz25_8, hcz25_9, hcz25_10, hfz25_0, hfz25_1, hfz25_2, hfz25_3, hfz25_4, hfz25_5, hfz25_6, hfz25_7, hfz25_8, hfz25_9, hfz25_10⟩ := cells11 BK129.out
                          go_wp2
                          go_meet
                          case rel => exact ⟨_, (false), (by first | rfl | (simp; done) | (simp [*]; done) | (simp [*, bne]; done)), H', ⟨by have := HK1.out; first | omega | exact Nat.le_refl _⟩, ⟨by (with_reducible repeat (first | refine blk_drewN ?_ _ | refine blk_drew ?_ | refine blk_alloc ?_ _)); refine blk_far ?_ NB127_129.out _; (with_reducible repeat (first | refine blk_drewN ?_ _ | refine blk_drew ?_ | refine blk_alloc ?_ _)); refine blk_far ?_ NB127_129.out _; (with_reducible repeat (first | refine blk_drewN ?_ _ | refine blk_drew ?_ | refine blk_alloc ?_ _)); refine blk_far ?_ NB127_129.out _; (with_reducible repeat (first | refine blk_drewN ?_ _ | refine blk_drew ?_ | refine blk_alloc ?_ _)); refine blk_far ?_ NB127_129.out _; (with_reducible repeat (first | refine blk_drewN ?_ _ | refine blk_drew ?_ | refine blk_alloc ?_ _)); refine blk_far ?_ NB127_129.out _; (with_reducible repeat (first | refine blk_drewN ?_ _ | refine blk_drew ?_ | refine blk_alloc ?_ _)); refine blk_far ?_ NB127_129.out _; (with_reducible repeat (first | refine blk_drewN ?_ _ | refine blk_drew ?_ | refine blk_alloc ?_ _)); refine blk_far ?_ NB127_129.out _; (with_reducible repeat (first | refine blk_drewN ?_ _ | refine blk_drew ?_ | refine blk_alloc ?_ _)); refine blk_far ?_ NB127_129.out _; (with_reducible repeat (first | refine blk_drewN ?_ _ | refine blk_drew ?_ | refine blk_alloc ?_ _)); refine blk_far ?_ NB127_129.out _; (with_reducible repeat (first | refine blk_drewN ?_ _ | refine blk_drew ?_ | refine blk_alloc ?_ _)); refine blk_far ?_ NB127_129.out _; (with_reducible repeat (first | refine blk_drewN ?_ _ | refine blk_drew ?_ | refine blk_alloc ?_ _)); refine blk_far ?_ NB127_129.out _; (with_reducible repeat (first | refine blk_drewN ?_ _ | refine blk_drew ?_ | refine blk_alloc ?_ _)); exact BK127.out⟩, ⟨by (with_reducible repeat (first | refine blk_drewN ?_ _ | refine blk_drew ?_ | refine blk_alloc ?_ _)); apply put11; (with_reducible repeat (first | refine blk_drewN ?_ _ | refine blk_drew ?_ | refine blk_alloc ?_ _)); exact BK129.out⟩, ⟨by repeat (first | (with_reducible first | exact HB.out | apply below_alloc | apply pw_below_drewN | apply below_drew1 | refine below_set ?_ GE127.out | refine below_set ?_ GE129.out) | exact HB.out)⟩⟩
                      · rw [if_neg c18] at H
                        have c18b0 : (((rd_T81 l0 x16_1).f4) == ((rd_T81 l1 x16_1).f4)) = false := by simpa using c18
                        (try (have c18b1 : decide (((rd_T81 l0 x16_1).f4) = ((rd_T81 l1 x16_1).f4)) = false := by simpa using c18))
                        (try (have c18b2 : (((rd_T81 l0 x16_1).f4) == ((rd_T81 l1 x16_1).f4)) = false := by simpa using c18))
                        (try (have c18b3 : ¬ (((rd_T81 l0 x16_1).f4) = ((rd_T81 l1 x16_1).f4)) := by simpa using c18))
                        clear c18
                        have H' := Aside0.mk H
                        clear H
                        have hnb26 := NB127_129.out
                        have hnc26 := NB129_127.out
                        obtain ⟨hcz27_0, hcz27_1, hcz27_2, hcz27_3, hcz27_4, hcz27_5, hcz27_6, hcz27_7, hcz27_8, hcz27_9, hcz27_10, hfz27_0, hfz27_1, hfz27_2, hfz27_3, hfz27_4, hfz27_5, hfz27_6, hfz27_7, hfz27_8, hfz27_9, hfz27_10⟩ := cells11 BK127.out
                        obtain ⟨hcz28_0, hcz28_1, hcz28_2, hcz28_3, hcz28_4, hcz28_5, hcz28_6, hcz28_7, hcz28_8, hcz28_9, hcz28_10, hfz28_0, hfz28_1, hfz28_2, hfz28_3, hfz28_4, hfz28_5, hfz28_6, hfz28_7, hfz28_8, hfz28_9, hfz28_10⟩ := cells11 BK129.out
                        go_wp2
                        go_meet
                        case rel => exact ⟨_, (false), (by first | rfl | (simp; done) | (simp [*]; done) | (simp [*, bne]; done)), H', ⟨by have := HK1.out; first | omega | exact Nat.le_refl _⟩, ⟨by (with_reducible repeat (first | refine blk_drewN ?_ _ | refine blk_drew ?_ | refine blk_alloc ?_ _)); refine blk_far ?_ NB127_129.out _; (with_reducible repeat (first | refine blk_drewN ?_ _ | refine blk_drew ?_ | refine blk_alloc ?_ _)); refine blk_far ?_ NB127_129.out _; (with_reducible repeat (first | refine blk_drewN ?_ _ | refine blk_drew ?_ | refine blk_alloc ?_ _)); refine blk_far ?_ NB127_129.out _; (with_reducible repeat (first | refine blk_drewN ?_ _ | refine blk_drew ?_ | refine blk_alloc ?_ _)); refine blk_far ?_ NB127_129.out _; (with_reducible repeat (first | refine blk_drewN ?_ _ | refine blk_drew ?_ | refine blk_alloc ?_ _)); refine blk_far ?_ NB127_129.out _; (with_reducible repeat (first | refine blk_drewN ?_ _ | refine blk_drew ?_ | refine blk_alloc ?_ _)); refine blk_far ?_ NB127_129.out _; (with_reducible repeat (first | refine blk_drewN ?_ _ | refine blk_drew ?_ | refine blk_alloc ?_ _)); refine blk_far ?_ NB127_129.out _; (with_reducible repeat (first | refine blk_drewN ?_ _ | refine blk_drew ?_ | refine blk_alloc ?_ _)); refine blk_far ?_ NB127_129.out _; (with_reducible repeat (first | refine blk_drewN ?_ _ | refine blk_drew ?_ | refine blk_alloc ?_ _)); refine blk_far ?_ NB127_129.out _; (with_reducible repeat (first | refine blk_drewN ?_ _ | refine blk_drew ?_ | refine blk_alloc ?_ _)); refine blk_far ?_ NB127_129.out _; (with_reducible repeat (first | refine blk_drewN ?_ _ | refine blk_drew ?_ | refine blk_alloc ?_ _)); refine blk_far ?_ NB127_129.out _; (with_reducible repeat (first | refine blk_drewN ?_ _ | refine blk_drew ?_ | refine blk_alloc ?_ _)); exact BK127.out⟩, ⟨by (with_reducible repeat (first | refine blk_drewN ?_ _ | refine blk_drew ?_ | refine blk_alloc ?_ _)); apply put11; (with_reducible repeat (first | refine blk_drewN ?_ _ | refine blk_drew ?_ | refine blk_alloc ?_ _)); exact BK129.out⟩, ⟨by repeat (first | (with_reducible first | exact HB.out | apply below_alloc | apply pw_below_drewN | apply below_drew1 | refine below_set ?_ GE127.out | refine below_set ?_ GE129.out) | exact HB.out)⟩⟩
                    · rw [if_neg c17] at H
                      have c17b0 : (((rd_T81 l0 x16_1).f3) == ((rd_T81 l1 x16_1).f3)) = false := by simpa using c17
                      (try (have c17b1 : decide (((rd_T81 l0 x16_1).f3) = ((rd_T81 l1 x16_1).f3)) = false := by simpa using c17))
                      (try (have c17b2 : (((rd_T81 l0 x16_1).f3) == ((rd_T81 l1 x16_1).f3)) = false := by simpa using c17))
                      (try (have c17b3 : ¬ (((rd_T81 l0 x16_1).f3) = ((rd_T81 l1 x16_1).f3)) := by simpa using c17))
                      clear c17
                      have H' := Aside0.mk H
                      clear H
                      have hnb29 := NB127_129.out
                      have hnc29 := NB129_127.out
                      obtain ⟨hcz30_0, hcz30_1, hcz30_2, hcz30_3, hcz30_4, hcz30_5, hcz30_6, hcz30_7, hcz30_8, hcz30_9, hcz30_10, hfz30_0, hfz30_1, hfz30_2, hfz30_3, hfz30_4, hfz30_5, hfz30_6, hfz30_7, hfz30_8, hfz30_9, hfz30_10⟩ := cells11 BK127.out
                      obtain ⟨hcz31_0, hcz31_1, hcz31_2, hcz31_3, hcz31_4, hcz31_5, hcz31_6, hcz31_7, hcz31_8, hcz31_9, hcz31_10, hfz31_0, hfz31_1, hfz31_2, hfz31_3, hfz31_4, hfz31_5, hfz31_6, hfz31_7, hfz31_8, hfz31_9, hfz31_10⟩ := cells11 BK129.out
                      go_wp2
                      go_meet
                      case rel => exact ⟨_, (false), (by first | rfl | (simp; done) | (simp [*]; done) | (simp [*, bne]; done)), H', ⟨by have := HK1.out; first | omega | exact Nat.le_refl _⟩, ⟨by (with_reducible repeat (first | refine blk_drewN ?_ _ | refine blk_drew ?_ | refine blk_alloc ?_ _)); refine blk_far ?_ NB127_129.out _; (with_reducible repeat (first | refine blk_drewN ?_ _ | refine blk_drew ?_ | refine blk_alloc ?_ _)); refine blk_far ?_ NB127_129.out _; (with_reducible repeat (first | refine blk_drewN ?_ _ | refine blk_drew ?_ | refine blk_alloc ?_ _)); refine blk_far ?_ NB127_129.out _; (with_reducible repeat (first | refine blk_drewN ?_ _ | refine blk_drew ?_ | refine blk_alloc ?_ _)); refine blk_far ?_ NB127_129.out _; (with_reducible repeat (first | refine blk_drewN ?_ _ | refine blk_drew ?_ | refine blk_alloc ?_ _)); refine blk_far ?_ NB127_129.out _; (with_reducible repeat (first | refine blk_drewN ?_ _ | refine blk_drew ?_ | refine blk_alloc ?_ _)); refine blk_far ?_ NB127_129.out _; (with_reducible repeat (first | refine blk_drewN ?_ _ | refine blk_drew ?_ | refine blk_alloc ?_ _)); refine blk_far ?_ NB127_129.out _; (with_reducible repeat (first | refine blk_drewN ?_ _ | refine blk_drew ?_ | refine blk_alloc ?_ _)); refine blk_far ?_ NB127_129.out _; (with_reducible repeat (first | refine blk_drewN ?_ _ | refine blk_drew ?_ | refine blk_alloc ?_ _)); refine blk_far ?_ NB127_129.out _; (with_reducible repeat (first | refine blk_drewN ?_ _ | refine blk_drew ?_ | refine blk_alloc ?_ _)); refine blk_far ?_ NB127_129.out _; (with_reducible repeat (first | refine blk_drewN ?_ _ | refine blk_drew ?_ | refine blk_alloc ?_ _)); refine blk_far ?_ NB127_129.out _; (with_reducible repeat (first | refine blk_drewN ?_ _ | refine blk_drew ?_ | refine blk_alloc ?_ _)); exact BK127.out⟩, ⟨by (with_reducible repeat (first | refine blk_drewN ?_ _ | refine blk_drew ?_ | refine blk_alloc ?_ _)); apply put11; (with_reducible repeat (first | refine blk_drewN ?_ _ | refine blk_drew ?_ | refine blk_alloc ?_ _)); exact BK129.out⟩, ⟨by repeat (first | (with_reducible first | exact HB.out | apply below_alloc | apply pw_below_drewN | apply below_drew1 | refine below_set ?_ GE127.out | refine below_set ?_ GE129.out) | exact HB.out)⟩⟩
                  · rw [if_neg c16] at H
                    have c16b0 : (((rd_T81 l0 x16_1).f2).toList == ((rd_T81 l1 x16_1).f2).toList) = false := beq_eq_false_iff_ne.mpr c16
                    have c16b1 : (((rd_T81 l0 x16_1).f2).toList != ((rd_T81 l1 x16_1).f2).toList) = true := bne_iff_ne.mpr c16
                    have H' := Aside0.mk H
                    clear H
                    have hnb32 := NB127_129.out
                    have hnc32 := NB129_127.out
                    obtain ⟨hcz33_0, hcz33_1, hcz33_2, hcz33_3, hcz33_4, hcz33_5, hcz33_6, hcz33_7, hcz33_8, hcz33_9, hcz33_10, hfz33_0, hfz33_1, hfz33_2, hfz33_3, hfz33_4, hfz33_5, hfz33_6, hfz33_7, hfz33_8, hfz33_9, hfz33_10⟩ := cells11 BK127.out
                    obtain ⟨hcz34_0, hcz34_1, hcz34_2, hcz34_3, hcz34_4, hcz34_5, hcz34_6, hcz34_7, hcz34_8, hcz34_9, hcz34_10, hfz34_0, hfz34_1, hfz34_2, hfz34_3, hfz34_4, hfz34_5, hfz34_6, hfz34_7, hfz34_8, hfz34_9, hfz34_10⟩ := cells11 BK129.out
                    go_wp2
                    go_meet
                    case rel => exact ⟨_, (false), (by first | rfl | (simp; done) | (simp [*]; done) | (simp [*, bne]; done)), H', ⟨by have := HK1.out; first | omega | exact Nat.le_refl _⟩, ⟨by (with_reducible repeat (first | refine blk_drewN ?_ _ | refine blk_drew ?_ | refine blk_alloc ?_ _)); refine blk_far ?_ NB127_129.out _; (with_reducible repeat (first | refine blk_drewN ?_ _ | refine blk_drew ?_ | refine blk_alloc ?_ _)); refine blk_far ?_ NB127_129.out _; (with_reducible repeat (first | refine blk_drewN ?_ _ | refine blk_drew ?_ | refine blk_alloc ?_ _)); refine blk_far ?_ NB127_129.out _; (with_reducible repeat (first | refine blk_drewN ?_ _ | refine blk_drew ?_ | refine blk_alloc ?_ _)); refine blk_far ?_ NB127_129.out _; (with_reducible repeat (first | refine blk_drewN ?_ _ | refine blk_drew ?_ | refine blk_alloc ?_ _)); refine blk_far ?_ NB127_129.out _; (with_reducible repeat (first | refine blk_drewN ?_ _ | refine blk_drew ?_ | refine blk_alloc ?_ _)); refine blk_far ?_ NB127_129.out _; (with_reducible repeat (first | refine blk_drewN ?_ _ | refine blk_drew ?_ | refine blk_alloc ?_ _)); refine blk_far ?_ NB127_129.out _; (with_reducible repeat (first | refine blk_drewN ?_ _ | refine blk_drew ?_ | refine blk_alloc ?_ _)); refine blk_far ?_ NB127_129.out _; (with_reducible repeat (first | refine blk_drewN ?_ _ | refine blk_drew ?_ | refine blk_alloc ?_ _)); refine blk_far ?_ NB127_129.out _; (with_reducible repeat (first | refine blk_drewN ?_ _ | refine blk_drew ?_ | refine blk_alloc ?_ _)); refine blk_far ?_ NB127_129.out _; (with_reducible repeat (first | refine blk_drewN ?_ _ | refine blk_drew ?_ | refine blk_alloc ?_ _)); refine blk_far ?_ NB127_129.out _; (with_reducible repeat (first | refine blk_drewN ?_ _ | refine blk_drew ?_ | refine blk_alloc ?_ _)); exact BK127.out⟩, ⟨by (with_reducible repeat (first | refine blk_drewN ?_ _ | refine blk_drew ?_ | refine blk_alloc ?_ _)); apply put11; (with_reducible repeat (first | refine blk_drewN ?_ _ | refine blk_drew ?_ | refine blk_alloc ?_ _)); exact BK129.out⟩, ⟨by repeat (first | (with_reducible first | exact HB.out | apply below_alloc | apply pw_below_drewN | apply below_drew1 | refine below_set ?_ GE127.out | refine below_set ?_ GE129.out) | exact HB.out)⟩⟩
                · rw [if_neg c15] at H
                  have c15b0 : (((rd_T81 l0 x16_1).f1).toList == ((rd_T81 l1 x16_1).f1).toList) = false := beq_eq_false_iff_ne.mpr c15
                  have c15b1 : (((rd_T81 l0 x16_1).f1).toList != ((rd_T81 l1 x16_1).f1).toList) = true := bne_iff_ne.mpr c15
                  have H' := Aside0.mk H
                  clear H
                  have hnb35 := NB127_129.out
                  have hnc35 := NB129_127.out
                  obtain ⟨hcz36_0, hcz36_1, hcz36_2, hcz36_3, hcz36_4, hcz36_5, hcz36_6, hcz36_7, hcz36_8, hcz36_9, hcz36_10, hfz36_0, hfz36_1, hfz36_2, hfz36_3, hfz36_4, hfz36_5, hfz36_6, hfz36_7, hfz36_8, hfz36_9, hfz36_10⟩ := cells11 BK127.out
                  obtain ⟨hcz37_0, hcz37_1, hcz37_2, hcz37_3, hcz37_4, hcz37_5, hcz37_6, hcz37_7, hcz37_8, hcz37_9, hcz37_10, hfz37_0, hfz37_1, hfz37_2, hfz37_3, hfz37_4, hfz37_5, hfz37_6, hfz37_7, hfz37_8, hfz37_9, hfz37_10⟩ := cells11 BK129.out
                  go_wp2
                  go_meet
                  case rel => exact ⟨_, (false), (by first | rfl | (simp; done) | (simp [*]; done) | (simp [*, bne]; done)), H', ⟨by have := HK1.out; first | omega | exact Nat.le_refl _⟩, ⟨by (with_reducible repeat (first | refine blk_drewN ?_ _ | refine blk_drew ?_ | refine blk_alloc ?_ _)); refine blk_far ?_ NB127_129.out _; (with_reducible repeat (first | refine blk_drewN ?_ _ | refine blk_drew ?_ | refine blk_alloc ?_ _)); refine blk_far ?_ NB127_129.out _; (with_reducible repeat (first | refine blk_drewN ?_ _ | refine blk_drew ?_ | refine blk_alloc ?_ _)); refine blk_far ?_ NB127_129.out _; (with_reducible repeat (first | refine blk_drewN ?_ _ | refine blk_drew ?_ | refine blk_alloc ?_ _)); refine blk_far ?_ NB127_129.out _; (with_reducible repeat (first | refine blk_drewN ?_ _ | refine blk_drew ?_ | refine blk_alloc ?_ _)); refine blk_far ?_ NB127_129.out _; (with_reducible repeat (first | refine blk_drewN ?_ _ | refine blk_drew ?_ | refine blk_alloc ?_ _)); refine blk_far ?_ NB127_129.out _; (with_reducible repeat (first | refine blk_drewN ?_ _ | refine blk_drew ?_ | refine blk_alloc ?_ _)); refine blk_far ?_ NB127_129.out _; (with_reducible repeat (first | refine blk_drewN ?_ _ | refine blk_drew ?_ | refine blk_alloc ?_ _)); refine blk_far ?_ NB127_129.out _; (with_reducible repeat (first | refine blk_drewN ?_ _ | refine blk_drew ?_ | refine blk_alloc ?_ _)); refine blk_far ?_ NB127_129.out _; (with_reducible repeat (first | refine blk_drewN ?_ _ | refine blk_drew ?_ | refine blk_alloc ?_ _)); refine blk_far ?_ NB127_129.out _; (with_reducible repeat (first | refine blk_drewN ?_ _ | refine blk_drew ?_ | refine blk_alloc ?_ _)); refine blk_far ?_ NB127_129.out _; (with_reducible repeat (first | refine blk_drewN ?_ _ | refine blk_drew ?_ | refine blk_alloc ?_ _)); exact BK127.out⟩, ⟨by (with_reducible repeat (first | refine blk_drewN ?_ _ | refine blk_drew ?_ | refine blk_alloc ?_ _)); apply put11; (with_reducible repeat (first | refine blk_drewN ?_ _ | refine blk_drew ?_ | refine blk_alloc ?_ _)); exact BK129.out⟩, ⟨by repeat (first | (with_reducible first | exact HB.out | apply below_alloc | apply pw_below_drewN | apply below_drew1 | refine below_set ?_ GE127.out | refine below_set ?_ GE129.out) | exact HB.out)⟩⟩
              · rw [if_neg c14] at H
                have c14b0 : (((rd_T81 l0 x16_1).f0) == ((rd_T81 l1 x16_1).f0)) = false := beq_eq_false_iff_ne.mpr c14
                have c14b1 : (((rd_T81 l0 x16_1).f0) != ((rd_T81 l1 x16_1).f0)) = true := bne_iff_ne.mpr c14
                (first | rw [c14b0] | (simp only [i64_w, i32_w]; rw [c14b0]) | skip)
                have H' := Aside0.mk H
                clear H
                have hnb38 := NB127_129.out
                have hnc38 := NB129_127.out
                obtain ⟨hcz39_0, hcz39_1, hcz39_2, hcz39_3, hcz39_4, hcz39_5, hcz39_6, hcz39_7, hcz39_8, hcz39_9, hcz39_10, hfz39_0, hfz39_1, hfz39_2, hfz39_3, hfz39_4, hfz39_5, hfz39_6, hfz39_7, hfz39_8, hfz39_9, hfz39_10⟩ := cells11 BK127.out
                obtain ⟨hcz40_0, hcz40_1, hcz40_2, hcz40_3, hcz40_4, hcz40_5, hcz40_6, hcz40_7, hcz40_8, hcz40_9, hcz40_10, hfz40_0, hfz40_1, hfz40_2, hfz40_3, hfz40_4, hfz40_5, hfz40_6, hfz40_7, hfz40_8, hfz40_9, hfz40_10⟩ := cells11 BK129.out
                go_wp2
                go_meet
                case rel => exact ⟨_, (false), (by first | rfl | (simp; done) | (simp [*]; done) | (simp [*, bne]; done)), H', ⟨by have := HK1.out; first | omega | exact Nat.le_refl _⟩, ⟨by (with_reducible repeat (first | refine blk_drewN ?_ _ | refine blk_drew ?_ | refine blk_alloc ?_ _)); refine blk_far ?_ NB127_129.out _; (with_reducible repeat (first | refine blk_drewN ?_ _ | refine blk_drew ?_ | refine blk_alloc ?_ _)); refine blk_far ?_ NB127_129.out _; (with_reducible repeat (first | refine blk_drewN ?_ _ | refine blk_drew ?_ | refine blk_alloc ?_ _)); refine blk_far ?_ NB127_129.out _; (with_reducible repeat (first | refine blk_drewN ?_ _ | refine blk_drew ?_ | refine blk_alloc ?_ _)); refine blk_far ?_ NB127_129.out _; (with_reducible repeat (first | refine blk_drewN ?_ _ | refine blk_drew ?_ | refine blk_alloc ?_ _)); refine blk_far ?_ NB127_129.out _; (with_reducible repeat (first | refine blk_drewN ?_ _ | refine blk_drew ?_ | refine blk_alloc ?_ _)); refine blk_far ?_ NB127_129.out _; (with_reducible repeat (first | refine blk_drewN ?_ _ | refine blk_drew ?_ | refine blk_alloc ?_ _)); refine blk_far ?_ NB127_129.out _; (with_reducible repeat (first | refine blk_drewN ?_ _ | refine blk_drew ?_ | refine blk_alloc ?_ _)); refine blk_far ?_ NB127_129.out _; (with_reducible repeat (first | refine blk_drewN ?_ _ | refine blk_drew ?_ | refine blk_alloc ?_ _)); refine blk_far ?_ NB127_129.out _; (with_reducible repeat (first | refine blk_drewN ?_ _ | refine blk_drew ?_ | refine blk_alloc ?_ _)); refine blk_far ?_ NB127_129.out _; (with_reducible repeat (first | refine blk_drewN ?_ _ | refine blk_drew ?_ | refine blk_alloc ?_ _)); refine blk_far ?_ NB127_129.out _; (with_reducible repeat (first | refine blk_drewN ?_ _ | refine blk_drew ?_ | refine blk_alloc ?_ _)); exact BK127.out⟩, ⟨by (with_reducible repeat (first | refine blk_drewN ?_ _ | refine blk_drew ?_ | refine blk_alloc ?_ _)); apply put11; (with_reducible repeat (first | refine blk_drewN ?_ _ | refine blk_drew ?_ | refine blk_alloc ?_ _)); exact BK129.out⟩, ⟨by repeat (first | (with_reducible first | exact HB.out | apply below_alloc | apply pw_below_drewN | apply below_drew1 | refine below_set ?_ GE127.out | refine below_set ?_ GE129.out) | exact HB.out)⟩⟩
             case rest =>
              clear HC8
              try clear c1
              try clear p1
              try clear q1
              try clear hx1
              try clear c2
              try clear p2
              try clear c3
              try clear c3b0
              try clear c3b1
              try clear c3b2
              try clear c4
              try clear c4b0
              try clear c5
              try clear c5b0
              try clear c6
              try clear c6b0
              try clear c7
              try clear c7b0
              try clear c12
              try clear p12
              try clear q12
              try clear hx12
              try clear c14
              try clear c14b0
              try clear c14b1
              try clear c15
              try clear c15b0
              try clear c15b1
              try clear c16
              try clear c16b0
              try clear c16b1
              try clear c17
              try clear c17b0
              try clear c17b1
              try clear c17b2
              try clear c18
              try clear c18b0
              try clear c18b1
              try clear c18b2
              try clear c19
              try clear c19b0
              try clear c19b1
              try clear c19b2
              try clear c20
              try clear c23
              try clear c26
              try clear c29
              try clear c32
              try clear c35
              try clear c38
              try clear hcz10_0 hcz10_1 hcz10_10 hcz10_2 hcz10_3 hcz10_4 hcz10_5 hcz10_6 hcz10_7 hcz10_8 hcz10_9
              try clear hcz13_0 hcz13_1 hcz13_10 hcz13_2 hcz13_3 hcz13_4 hcz13_5 hcz13_6 hcz13_7 hcz13_8 hcz13_9
              try clear hcz21_0 hcz21_1 hcz21_10 hcz21_2 hcz21_3 hcz21_4 hcz21_5 hcz21_6 hcz21_7 hcz21_8 hcz21_9
              try clear hcz22_0 hcz22_1 hcz22_10 hcz22_2 hcz22_3 hcz22_4 hcz22_5 hcz22_6 hcz22_7 hcz22_8 hcz22_9
              try clear hcz24_0 hcz24_1 hcz24_10 hcz24_2 hcz24_3 hcz24_4 hcz24_5 hcz24_6 hcz24_7 hcz24_8 hcz24_9
              try clear hcz25_0 hcz25_1 hcz25_10 hcz25_2 hcz25_3 hcz25_4 hcz25_5 hcz25_6 hcz25_7 hcz25_8 hcz25_9
              try clear hcz27_0 hcz27_1 hcz27_10 hcz27_2 hcz27_3 hcz27_4 hcz27_5 hcz27_6 hcz27_7 hcz27_8 hcz27_9
              try clear hcz28_0 hcz28_1 hcz28_10 hcz28_2 hcz28_3 hcz28_4 hcz28_5 hcz28_6 hcz28_7 hcz28_8 hcz28_9
              try clear hcz30_0 hcz30_1 hcz30_10 hcz30_2 hcz30_3 hcz30_4 hcz30_5 hcz30_6 hcz30_7 hcz30_8 hcz30_9
              try clear hcz31_0 hcz31_1 hcz31_10 hcz31_2 hcz31_3 hcz31_4 hcz31_5 hcz31_6 hcz31_7 hcz31_8 hcz31_9
              try clear hcz33_0 hcz33_1 hcz33_10 hcz33_2 hcz33_3 hcz33_4 hcz33_5 hcz33_6 hcz33_7 hcz33_8 hcz33_9
              try clear hcz34_0 hcz34_1 hcz34_10 hcz34_2 hcz34_3 hcz34_4 hcz34_5 hcz34_6 hcz34_7 hcz34_8 hcz34_9
              try clear hcz36_0 hcz36_1 hcz36_10 hcz36_2 hcz36_3 hcz36_4 hcz36_5 hcz36_6 hcz36_7 hcz36_8 hcz36_9
              try clear hcz37_0 hcz37_1 hcz37_10 hcz37_2 hcz37_3 hcz37_4 hcz37_5 hcz37_6 hcz37_7 hcz37_8 hcz37_9
              try clear hcz39_0 hcz39_1 hcz39_10 hcz39_2 hcz39_3 hcz39_4 hcz39_5 hcz39_6 hcz39_7 hcz39_8 hcz39_9
              try clear hcz40_0 hcz40_1 hcz40_10 hcz40_2 hcz40_3 hcz40_4 hcz40_5 hcz40_6 hcz40_7 hcz40_8 hcz40_9
              try clear hfz10_0 hfz10_1 hfz10_10 hfz10_2 hfz10_3 hfz10_4 hfz10_5 hfz10_6 hfz10_7 hfz10_8 hfz10_9
              try clear hfz13_0 hfz13_1 hfz13_10 hfz13_2 hfz13_3 hfz13_4 hfz13_5 hfz13_6 hfz13_7 hfz13_8 hfz13_9
              try clear hfz21_0 hfz21_1 hfz21_10 hfz21_2 hfz21_3 hfz21_4 hfz21_5 hfz21_6 hfz21_7 hfz21_8 hfz21_9
              try clear hfz22_0 hfz22_1 hfz22_10 hfz22_2 hfz22_3 hfz22_4 hfz22_5 hfz22_6 hfz22_7 hfz22_8 hfz22_9
              try clear hfz24_0 hfz24_1 hfz24_10 hfz24_2 hfz24_3 hfz24_4 hfz24_5 hfz24_6 hfz24_7 hfz24_8 hfz24_9
              try clear hfz25_0 hfz25_1 hfz25_10 hfz25_2 hfz25_3 hfz25_4 hfz25_5 hfz25_6 hfz25_7 hfz25_8 hfz25_9
              try clear hfz27_0 hfz27_1 hfz27_10 hfz27_2 hfz27_3 hfz27_4 hfz27_5 hfz27_6 hfz27_7 hfz27_8 hfz27_9
              try clear hfz28_0 hfz28_1 hfz28_10 hfz28_2 hfz28_3 hfz28_4 hfz28_5 hfz28_6 hfz28_7 hfz28_8 hfz28_9
              try clear hfz30_0 hfz30_1 hfz30_10 hfz30_2 hfz30_3 hfz30_4 hfz30_5 hfz30_6 hfz30_7 hfz30_8 hfz30_9
              try clear hfz31_0 hfz31_1 hfz31_10 hfz31_2 hfz31_3 hfz31_4 hfz31_5 hfz31_6 hfz31_7 hfz31_8 hfz31_9
              try clear hfz33_0 hfz33_1 hfz33_10 hfz33_2 hfz33_3 hfz33_4 hfz33_5 hfz33_6 hfz33_7 hfz33_8 hfz33_9
              try clear hfz34_0 hfz34_1 hfz34_10 hfz34_2 hfz34_3 hfz34_4 hfz34_5 hfz34_6 hfz34_7 hfz34_8 hfz34_9
              try clear hfz36_0 hfz36_1 hfz36_10 hfz36_2 hfz36_3 hfz36_4 hfz36_5 hfz36_6 hfz36_7 hfz36_8 hfz36_9
              try clear hfz37_0 hfz37_1 hfz37_10 hfz37_2 hfz37_3 hfz37_4 hfz37_5 hfz37_6 hfz37_7 hfz37_8 hfz37_9
              try clear hfz39_0 hfz39_1 hfz39_10 hfz39_2 hfz39_3 hfz39_4 hfz39_5 hfz39_6 hfz39_7 hfz39_8 hfz39_9
              try clear hfz40_0 hfz40_1 hfz40_10 hfz40_2 hfz40_3 hfz40_4 hfz40_5 hfz40_6 hfz40_7 hfz40_8 hfz40_9
              try clear hx126_0
              try clear hx126_1
              try clear hx126_10
              try clear hx126_2
              try clear hx126_3
              try clear hx126_4
              try clear hx126_5
              try clear hx126_6
              try clear hx126_7
              try clear hx126_8
              try clear hx126_9
              try clear hx128_0
              try clear hx128_1
              try clear hx128_10
              try clear hx128_2
              try clear hx128_3
              try clear hx128_4
              try clear hx128_5
              try clear hx128_6
              try clear hx128_7
              try clear hx128_8
              try clear hx128_9
              try clear p126
              try clear p128
              try clear p2
              try clear q126
              try clear q128
              obtain ⟨kq, x8_7, rfl, HA, HJ7, BK127, BK129, HB⟩ := hcut
              cases kq with
              | zero => exact absurd HA.out (by simp [relaylaw06_same.j1])
              | succ kj7 =>
               have H := HA.out
               clear HA
               simp only [relaylaw06_same.j1] at H
               refine (Classical.em (x8_7 = true)).elim (fun c41 => ?p1_) (fun c41 => ?n1_)
               case' p1_ =>
                subst c41
                have H1 : ((relayplain_SameExprs.f kj7 ((rd_T81 l0 x16_1).f7) ((rd_T81 l1 x16_1).f7)).bind fun t130 => (if t130 = true then ((relayplain_SameExprs.f kj7 ((rd_T81 l0 x16_1).f9) ((rd_T81 l1 x16_1).f9)).bind fun t131 => (if t131 = true then ((slices_Equal_string_string.f kj7 ((rd_T81 l0 x16_1).f8) ((rd_T81 l1 x16_1).f8)).bind fun t132 => (if t132 = true then ((slices_Equal_string_string.f kj7 ((rd_T81 l0 x16_1).f10) ((rd_T81 l1 x16_1).f10)).bind fun t133 => (if t133 = true then (relaylaw06_same.l0 kj7 l1 l0 (l0.length : Int) (wrap64 (x16_1 + 1))) else (some false))) else (some false))) else (some false))) else (some false))) = some r := by rw [if_pos rfl] at H; exact H
                clear H
                have H := H1
                clear H1
                replace H := Option.bind_eq_some_iff.mp H
                obtain ⟨t130, A420, H⟩ := H
                replace H : (if t130 = true then ((relayplain_SameExprs.f kj7 ((rd_T81 l0 x16_1).f9) ((rd_T81 l1 x16_1).f9)).bind fun t131 => (if t131 = true then ((slices_Equal_string_string.f kj7 ((rd_T81 l0 x16_1).f8) ((rd_T81 l1 x16_1).f8)).bind fun t132 => (if t132 = true then ((slices_Equal_string_string.f kj7 ((rd_T81 l0 x16_1).f10) ((rd_T81 l1 x16_1).f10)).bind fun t133 => (if t133 = true then (relaylaw06_same.l0 kj7 l1 l0 (l0.length : Int) (wrap64 (x16_1 + 1))) else (some false))) else (some false))) else (some false))) else (some false)) = some r := H
                have A42 := Aside0.mk A420
                clear A420
                refine (Classical.em (t130 = true)).elim (fun c43 => ?p2_) (fun c43 => ?n2_)
                case' p2_ =>
                 subst c43
                 have H1 : ((relayplain_SameExprs.f kj7 ((rd_T81 l0 x16_1).f9) ((rd_T81 l1 x16_1).f9)).bind fun t131 => (if t131 = true then ((slices_Equal_string_string.f kj7 ((rd_T81 l0 x16_1).f8) ((rd_T81 l1 x16_1).f8)).bind fun t132 => (if t132 = true then ((slices_Equal_string_string.f kj7 ((rd_T81 l0 x16_1).f10) ((rd_T81 l1 x16_1).f10)).bind fun t133 => (if t133 = true then (relaylaw06_same.l0 kj7 l1 l0 (l0.length : Int) (wrap64 (x16_1 + 1))) else (some false))) else (some false))) else (some false))) = some r := by rw [if_pos rfl] at H; exact H
                 clear H
                 have H := H1
                 clear H1
                 replace H := Option.bind_eq_some_iff.mp H
                 obtain ⟨t131, A440, H⟩ := H
                 replace H : (if t131 = true then ((slices_Equal_string_string.f kj7 ((rd_T81 l0 x16_1).f8) ((rd_T81 l1 x16_1).f8)).bind fun t132 => (if t132 = true then ((slices_Equal_string_string.f kj7 ((rd_T81 l0 x16_1).f10) ((rd_T81 l1 x16_1).f10)).bind fun t133 => (if t133 = true then (relaylaw06_same.l0 kj7 l1 l0 (l0.length : Int) (wrap64 (x16_1 + 1))) else (some false))) else (some false))) else (some false)) = some r := H
                 have A44 := Aside0.mk A440
                 clear A440
                 refine (Classical.em (t131 = true)).elim (fun c45 => ?p3_) (fun c45 => ?n3_)
                 case' p3_ =>
                  subst c45
                  have H1 : ((slices_Equal_string_string.f kj7 ((rd_T81 l0 x16_1).f8) ((rd_T81 l1 x16_1).f8)).bind fun t132 => (if t132 = true then ((slices_Equal_string_string.f kj7 ((rd_T81 l0 x16_1).f10) ((rd_T81 l1 x16_1).f10)).bind fun t133 => (if t133 = true then (relaylaw06_same.l0 kj7 l1 l0 (l0.length : Int) (wrap64 (x16_1 + 1))) else (some false))) else (some false))) = some r := by rw [if_pos rfl] at H; exact H
                  clear H
                  have H := H1
                  clear H1
                  replace H := Option.bind_eq_some_iff.mp H
                  obtain ⟨t132, A460, H⟩ := H
                  replace H : (if t132 = true then ((slices_Equal_string_string.f kj7 ((rd_T81 l0 x16_1).f10) ((rd_T81 l1 x16_1).f10)).bind fun t133 => (if t133 = true then (relaylaw06_same.l0 kj7 l1 l0 (l0.length : Int) (wrap64 (x16_1 + 1))) else (some false))) else (some false)) = some r := H
                  have A46 := Aside0.mk A460
                  clear A460
                  refine (Classical.em (t132 = true)).elim (fun c47 => ?p4_) (fun c47 => ?n4_)
                  case' p4_ =>
                   subst c47
                   have H1 : ((slices_Equal_string_string.f kj7 ((rd_T81 l0 x16_1).f10) ((rd_T81 l1 x16_1).f10)).bind fun t133 => (if t133 = true then (relaylaw06_same.l0 kj7 l1 l0 (l0.length : Int) (wrap64 (x16_1 + 1))) else (some false))) = some r := by rw [if_pos rfl] at H; exact H
                   clear H
                   have H := H1
                   clear H1
                   replace H := Option.bind_eq_some_iff.mp H
                   obtain ⟨t133, A480, H⟩ := H
                   replace H : (if t133 = true then (relaylaw06_same.l0 kj7 l1 l0 (l0.length : Int) (wrap64 (x16_1 + 1))) else (some false)) = some r := H
                   have A48 := Aside0.mk A480
                   clear A480
                   refine (Classical.em (t133 = true)).elim (fun c49 => ?p5_) (fun c49 => ?n5_)
                   case' p5_ =>
                    subst c49
                    have H1 : (relaylaw06_same.l0 kj7 l1 l0 (l0.length : Int) (wrap64 (x16_1 + 1))) = some r := by rw [if_pos rfl] at H; exact H
                    clear H
                    have H := H1
                    clear H1
                    have H' := Aside0.mk H
                    clear H
                    have hnb50 := NB127_129.out
                    have hnc50 := NB129_127.out
                    obtain ⟨_, _, _, _, _, _, _, _, _, _, _, _, _, _, _, _, _, _, _, _, _, _⟩ := cells11 BK127.out
                    obtain ⟨_, _, _, _, _, _, _, _, _, _, _, _, _, _, _, _, _, _, _, _, _, _⟩ := cells11 BK129.out
                   case' n5_ =>
                    replace c49 := Bool.eq_false_iff.mpr c49
                    subst c49
                    have H1 : (some false) = some r := by rw [if_neg (show ¬ (false = true) by decide)] at H; exact H
                    clear H
                    have H := H1
                    clear H1
                    obtain rfl := Option.some.inj H
                    have hnb59 := NB127_129.out
                    have hnc59 := NB129_127.out
                    obtain ⟨_, _, _, _, _, _, _, _, _, _, _, _, _, _, _, _, _, _, _, _, _, _⟩ := cells11 BK127.out
                    obtain ⟨_, _, _, _, _, _, _, _, _, _, _, _, _, _, _, _, _, _, _, _, _, _⟩ := cells11 BK129.out
                  case' n4_ =>
                   replace c47 := Bool.eq_false_iff.mpr c47
                   subst c47
                   have H1 : (some false) = some r := by rw [if_neg (show ¬ (false = true) by decide)] at H; exact H
                   clear H
                   have H := H1
                   clear H1
                   obtain rfl := Option.some.inj H
                   have hnb68 := NB127_129.out
                   have hnc68 := NB129_127.out
                   obtain ⟨_, _, _, _, _, _, _, _, _, _, _, _, _, _, _, _, _, _, _, _, _, _⟩ := cells11 BK127.out
                   obtain ⟨_, _, _, _, _, _, _, _, _, _, _, _, _, _, _, _, _, _, _, _, _, _⟩ := cells11 BK129.out
                 case' n3_ =>
                  replace c45 := Bool.eq_false_iff.mpr c45
                  subst c45
                  have H1 : (some false) = some r := by rw [if_neg (show ¬ (false = true) by decide)] at H; exact H
                  clear H
                  have H := H1
                  clear H1
                  obtain rfl := Option.some.inj H
                  have hnb77 := NB127_129.out
                  have hnc77 := NB129_127.out
                  obtain ⟨_, _, _, _, _, _, _, _, _, _, _, _, _, _, _, _, _, _, _, _, _, _⟩ := cells11 BK127.out
                  obtain ⟨_, _, _, _, _, _, _, _, _, _, _, _, _, _, _, _, _, _, _, _, _, _⟩ := cells11 BK129.out
                case' n2_ =>
                 replace c43 := Bool.eq_false_iff.mpr c43
                 subst c43
                 have H1 : (some false) = some r := by rw [if_neg (show ¬ (false = true) by decide)] at H; exact H
                 clear H
                 have H := H1
                 clear H1
                 obtain rfl := Option.some.inj H
                 have hnb84 := NB127_129.out
                 have hnc84 := NB129_127.out
                 obtain ⟨_, _, _, _, _, _, _, _, _, _, _, _, _, _, _, _, _, _, _, _, _, _⟩ := cells11 BK127.out
                 obtain ⟨_, _, _, _, _, _, _, _, _, _, _, _, _, _, _, _, _, _, _, _, _, _⟩ := cells11 BK129.out
                 go_wp2_with (first | (go_at_call 49; (with_reducible refine (relayplain_SameExprs.calls kj7 _ _ ((rd_T81 l0 x16_1).f7) _ _ ((rd_T81 l1 x16_1).f7) false _ ?side1 ?side2 ?side3 ?side4 A42.out).mono ?_); (case side1 => repeat (first | exact (Kd.C_below HR126_7.out HB.out) | (with_reducible refine Kd.C_alloc ?_ _) | (with_reducible refine Kd.C_drewN ?_ _) | (with_reducible refine Kd.C_drew ?_))); (case side2 => exact HC126_7.out); (case side3 => repeat (first | exact (Kd.C_below HR128_7.out HB.out) | (with_reducible refine Kd.C_alloc ?_ _) | (with_reducible refine Kd.C_drewN ?_ _) | (with_reducible refine Kd.C_drew ?_))); (case side4 => exact HC128_7.out); rintro e w87 ⟨rfl, hb⟩; have n0_ := Aside0.mk (blk_below (g := gb127) (by (with_reducible repeat (first | refine blk_drewN ?_ _ | refine blk_drew ?_ | refine blk_alloc ?_ _)); exact BK127.out) hb); have n1_ := Aside0.mk (blk_below (g := gb129) (by (with_reducible repeat (first | refine blk_drewN ?_ _ | refine blk_drew ?_ | refine blk_alloc ?_ _)); exact BK129.out) hb); have n2_ := Aside0.mk (below_step (by repeat (first | (with_reducible first | exact HB.out | apply below_alloc | apply pw_below_drewN | apply below_drew1 | refine below_set ?_ GE127.out | refine below_set ?_ GE129.out) | exact HB.out)) hb); clear BK127; clear BK129; clear HB; have BK127 := n0_; have BK129 := n1_; have HB := n2_; clear n0_ n1_ n2_; (try clear hb); (try clear hb2); (try clear hk); (try clear hi)))
                 go_ret
                 exact ⟨by first | rfl | (simp [errW_none, errW_some] <;> rfl) | (simp [*, errW_none, errW_some] <;> rfl), by repeat (first | (with_reducible first | exact HB.out | apply below_alloc | apply pw_below_drewN | apply below_drew1 | refine below_set ?_ GE127.out | refine below_set ?_ GE129.out) | exact HB.out)⟩
               case' n1_ =>
                replace c41 := Bool.eq_false_iff.mpr c41
                subst c41
                have H1 : (some false) = some r := by rw [if_neg (show ¬ (false = true) by decide)] at H; exact H
                clear H
                have H := H1
                clear H1
                obtain rfl := Option.some.inj H
                go_wp2
                go_ret
                exact ⟨by first | rfl | (simp [errW_none, errW_some] <;> rfl) | (simp [*, errW_none, errW_some] <;> rfl), by repeat (first | (with_reducible first | exact HB.out | apply below_alloc | apply pw_below_drewN | apply below_drew1 | refine below_set ?_ GE127.out | refine below_set ?_ GE129.out) | exact HB.out)⟩
               all_goals go_wp2_with (first | (go_at_call 49; (with_reducible refine (relayplain_SameExprs.calls kj7 _ _ ((rd_T81 l0 x16_1).f7) _ _ ((rd_T81 l1 x16_1).f7) _ _ ?side1 ?side2 ?side3 ?side4 A42.out).mono ?_); (case side1 => repeat (first | exact (Kd.C_below HR126_7.out HB.out) | (with_reducible refine Kd.C_alloc ?_ _) | (with_reducible refine Kd.C_drewN ?_ _) | (with_reducible refine Kd.C_drew ?_))); (case side2 => exact HC126_7.out); (case side3 => repeat (first | exact (Kd.C_below HR128_7.out HB.out) | (with_reducible refine Kd.C_alloc ?_ _) | (with_reducible refine Kd.C_drewN ?_ _) | (with_reducible refine Kd.C_drew ?_))); (case side4 => exact HC128_7.out); rintro e w53 ⟨rfl, hb⟩; have n0_ := Aside0.mk (blk_below (g := gb127) (by (with_reducible repeat (first | refine blk_drewN ?_ _ | refine blk_drew ?_ | refine blk_alloc ?_ _)); exact BK127.out) hb); have n1_ := Aside0.mk (blk_below (g := gb129) (by (with_reducible repeat (first | refine blk_drewN ?_ _ | refine blk_drew ?_ | refine blk_alloc ?_ _)); exact BK129.out) hb); have n2_ := Aside0.mk (below_step (by repeat (first | (with_reducible first | exact HB.out | apply below_alloc | apply pw_below_drewN | apply below_drew1 | refine below_set ?_ GE127.out | refine below_set ?_ GE129.out) | exact HB.out)) hb); clear BK127; clear BK129; clear HB; have BK127 := n0_; have BK129 := n1_; have HB := n2_; clear n0_ n1_ n2_; (try clear hb); (try clear hb2); (try clear hk); (try clear hi); obtain ⟨_, _, _, _, _, _, _, _, _, _, _, _, _, _, _, _, _, _, _, _, _, _⟩ := cells11 BK127.out; obtain ⟨_, _, _, _, _, _, _, _, _, _, _, _, _, _, _, _, _, _, _, _, _, _⟩ := cells11 BK129.out) | (go_at_call 49; (with_reducible refine (relayplain_SameExprs.calls kj7 _ _ ((rd_T81 l0 x16_1).f9) _ _ ((rd_T81 l1 x16_1).f9) _ _ ?side1 ?side2 ?side3 ?side4 A44.out).mono ?_); (case side1 => repeat (first | exact (Kd.C_below HR126_9.out HB.out) | (with_reducible refine Kd.C_alloc ?_ _) | (with_reducible refine Kd.C_drewN ?_ _) | (with_reducible refine Kd.C_drew ?_))); (case side2 => exact HC126_9.out); (case side3 => repeat (first | exact (Kd.C_below HR128_9.out HB.out) | (with_reducible refine Kd.C_alloc ?_ _) | (with_reducible refine Kd.C_drewN ?_ _) | (with_reducible refine Kd.C_drew ?_))); (case side4 => exact HC128_9.out); rintro e w56 ⟨rfl, hb⟩; have n0_ := Aside0.mk (blk_below (g := gb127) (by (with_reducible repeat (first | refine blk_drewN ?_ _ | refine blk_drew ?_ | refine blk_alloc ?_ _)); exact BK127.out) hb); have n1_ := Aside0.mk (blk_below (g := gb129) (by (with_reducible repeat (first | refine blk_drewN ?_ _ | refine blk_drew ?_ | refine blk_alloc ?_ _)); exact BK129.out) hb); have n2_ := Aside0.mk (below_step (by repeat (first | (with_reducible first | exact HB.out | apply below_alloc | apply pw_below_drewN | apply below_drew1 | refine below_set ?_ GE127.out | refine below_set ?_ GE129.out) | exact HB.out)) hb); clear BK127; clear BK129; clear HB; have BK127 := n0_; have BK129 := n1_; have HB := n2_; clear n0_ n1_ n2_; (try clear hb); (try clear hb2); (try clear hk); (try clear hi); obtain ⟨_, _, _, _, _, _, _, _, _, _, _, _, _, _, _, _, _, _, _, _, _, _⟩ := cells11 BK127.out; obtain ⟨_, _, _, _, _, _, _, _, _, _, _, _, _, _, _, _, _, _, _, _, _, _⟩ := cells11 BK129.out) | (go_at_call 22; (with_reducible refine (slices_Equal_string_string.calls kj7 _ _ ((rd_T81 l0 x16_1).f8) _ _ ((rd_T81 l1 x16_1).f8) _ _ ?side1 ?side2 ?side3 ?side4 (by first | exact A46.out)).mono ?_); (case side1 => repeat (first | exact (Kd.C_below HR126_8.out HB.out) | (with_reducible refine Kd.C_alloc ?_ _) | (with_reducible refine Kd.C_drewN ?_ _) | (with_reducible refine Kd.C_drew ?_))); (case side2 => exact HC126_8.out); (case side3 => repeat (first | exact (Kd.C_below HR128_8.out HB.out) | (with_reducible refine Kd.C_alloc ?_ _) | (with_reducible refine Kd.C_drewN ?_ _) | (with_reducible refine Kd.C_drew ?_))); (case side4 => exact HC128_8.out); rintro e w' ⟨rfl, ⟨nd, rfl⟩⟩) | (go_at_call 22; (with_reducible refine (slices_Equal_string_string.calls kj7 _ _ ((rd_T81 l0 x16_1).f10) _ _ ((rd_T81 l1 x16_1).f10) _ _ ?side1 ?side2 ?side3 ?side4 (by first | exact A48.out)).mono ?_); (case side1 => repeat (first | exact (Kd.C_below HR126_10.out (by repeat (first | (with_reducible first | exact HB.out | apply below_alloc | apply pw_below_drewN | apply below_drew1 | refine below_set ?_ GE127.out | refine below_set ?_ GE129.out) | exact HB.out))) | (with_reducible refine Kd.C_alloc ?_ _) | (with_reducible refine Kd.C_drewN ?_ _) | (with_reducible refine Kd.C_drew ?_))); (case side2 => exact HC126_10.out); (case side3 => repeat (first | exact (Kd.C_below HR128_10.out (by repeat (first | (with_reducible first | exact HB.out | apply below_alloc | apply pw_below_drewN | apply below_drew1 | refine below_set ?_ GE127.out | refine below_set ?_ GE129.out) | exact HB.out))) | (with_reducible refine Kd.C_alloc ?_ _) | (with_reducible refine Kd.C_drewN ?_ _) | (with_reducible refine Kd.C_drew ?_))); (case side4 => exact HC128_10.out); rintro e w' ⟨rfl, ⟨nd, rfl⟩⟩) | (go_at_call 49; (with_reducible refine (relayplain_SameExprs.calls kj7 _ _ ((rd_T81 l0 x16_1).f9) _ _ ((rd_T81 l1 x16_1).f9) _ _ ?side1 ?side2 ?side3 ?side4 A44.out).mono ?_); (case side1 => repeat (first | exact (Kd.C_below HR126_9.out HB.out) | (with_reducible refine Kd.C_alloc ?_ _) | (with_reducible refine Kd.C_drewN ?_ _) | (with_reducible refine Kd.C_drew ?_))); (case side2 => exact HC126_9.out); (case side3 => repeat (first | exact (Kd.C_below HR128_9.out HB.out) | (with_reducible refine Kd.C_alloc ?_ _) | (with_reducible refine Kd.C_drewN ?_ _) | (with_reducible refine Kd.C_drew ?_))); (case side4 => exact HC128_9.out); rintro e w83 ⟨rfl, hb⟩; have n0_ := Aside0.mk (blk_below (g := gb127) (by (with_reducible repeat (first | refine blk_drewN ?_ _ | refine blk_drew ?_ | refine blk_alloc ?_ _)); exact BK127.out) hb); have n1_ := Aside0.mk (blk_below (g := gb129) (by (with_reducible repeat (first | refine blk_drewN ?_ _ | refine blk_drew ?_ | refine blk_alloc ?_ _)); exact BK129.out) hb); have n2_ := Aside0.mk (below_step (by repeat (first | (with_reducible first | exact HB.out | apply below_alloc | apply pw_below_drewN | apply below_drew1 | refine below_set ?_ GE127.out | refine below_set ?_ GE129.out) | exact HB.out)) hb); clear BK127; clear BK129; clear HB; have BK127 := n0_; have BK129 := n1_; have HB := n2_; clear n0_ n1_ n2_; (try clear hb); (try clear hb2); (try clear hk); (try clear hi)))
               all_goals first
                | (go_roundg kj7
                   case measure => have := HK1.out; have := HJ7.out; omega
                   case rel => exact ⟨(wrap64 (x16_1 + 1)), (by first | rfl | (simp; done) | (simp [*]; done) | (simp [*, bne]; done)), H', ⟨by have := HK1.out; have := HJ7.out; omega⟩, ⟨by repeat (first | (with_reducible first | exact HB.out | apply below_alloc | apply pw_below_drewN | apply below_drew1 | refine below_set ?_ GE127.out | refine below_set ?_ GE129.out) | exact HB.out)⟩⟩)
                | (go_ret
                   exact ⟨by first | rfl | (simp [errW_none, errW_some] <;> rfl) | (simp [*, errW_none, errW_some] <;> rfl), by repeat (first | (with_reducible first | exact HB.out | apply below_alloc | apply pw_below_drewN | apply below_drew1 | refine below_set ?_ GE127.out | refine below_set ?_ GE129.out) | exact HB.out)⟩)
           · rw [if_neg c7] at H
             exact absurd H (by simp)
         · rw [if_neg c6] at H
           exact absurd H (by simp)
       · rw [if_neg c5] at H
         exact absurd H (by simp)
     · rw [if_neg c4] at H
       have c4b0 : decide (x16_1 < (l0.length : Int)) = false := decide_eq_false c4
       clear c4
       obtain rfl := Option.some.inj H
       go_wp2
       go_ret
       exact ⟨by first | rfl | (simp [errW_none, errW_some] <;> rfl) | (simp [*, errW_none, errW_some] <;> rfl), by repeat (first | (with_reducible first | exact HB.out | apply below_alloc | apply pw_below_drewN | apply below_drew1) | exact HB.out)⟩
 · rw [if_neg c3] at H
   have c3b0 : ((l0.length : Int) == (l1.length : Int)) = false := beq_eq_false_iff_ne.mpr c3
   have c3b1 : ((l0.length : Int) != (l1.length : Int)) = true := bne_iff_ne.mpr c3
   have c3b2 : (l0.length == l1.length) = false := by first | simpa using c3 | (simp at c3 ⊢; omega)
   obtain rfl := Option.some.inj H
   go_enter Try.func19, Try.ntmps19
   go_wp2
   go_ret
   exact ⟨by first | rfl | (simp [errW_none, errW_some] <;> rfl) | (simp [*, errW_none, errW_some] <;> rfl), by repeat (first | (with_reducible first | exact HB.out | apply below_alloc | apply pw_below_drewN | apply below_drew1) | exact HB.out)⟩

end Go.Proofs.Ytmdkbhbconnmmaa.XIl
