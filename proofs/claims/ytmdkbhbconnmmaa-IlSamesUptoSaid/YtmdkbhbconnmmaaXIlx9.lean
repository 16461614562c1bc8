-- WRITTEN BY wip/tools/xprint.py out of the translation: the kit's print with this work's hooks.
import Derived.Test.YtmdkbhbconnmmaaXIlx0
import Derived.Test.YtmdkbhbconnmmaaXIlx5
import Derived.Test.YtmdkbhbconnmmaaXIlx8
namespace Go.Proofs.Ytmdkbhbconnmmaa.XIl
open Go.RowKit Go.Proofs.YtmdkbhbconnmmaaW.PrintWords Go.Proofs.YtmdkbhbconnmmaaW.PrintLast Go.Proofs.YtmdkbhbconnmmaaW.PrintMore
attribute [local go_sem] max2_int min2_int max_two min_two max_three min_three max_four min_four   -- for this text's walks alone
set_option linter.unusedVariables false
set_option linter.unusedSimpArgs false

/-! ### api_IlInstr: function 45 -/
def api_IlInstr.l0 : Nat → List (S81) → List (S81) → Int → Int → Option (Bool)
 | 0, _, _, _, _ => none
 | k + 1, x1, x15, x16, x17 => if x17 < x16 then (if 0 ≤ x17 then (if x17 < (x15.length : Int) then (if x17 < (x1.length : Int) then ((il_Same_1.f k ((rd_T81 x15 x17).f0) ((rd_T81 x15 x17).f1) ((rd_T81 x15 x17).f2) ((rd_T81 x15 x17).f3) ((rd_T81 x15 x17).f4) ((rd_T81 x15 x17).f5) ((rd_T81 x15 x17).f6) ((rd_T81 x15 x17).f7) ((rd_T81 x15 x17).f8) ((rd_T81 x15 x17).f9) ((rd_T81 x15 x17).f10) ((rd_T81 x1 x17).f0) ((rd_T81 x1 x17).f1) ((rd_T81 x1 x17).f2) ((rd_T81 x1 x17).f3) ((rd_T81 x1 x17).f4) ((rd_T81 x1 x17).f5) ((rd_T81 x1 x17).f6) ((rd_T81 x1 x17).f7) ((rd_T81 x1 x17).f8) ((rd_T81 x1 x17).f9) ((rd_T81 x1 x17).f10)).bind fun t125 => (if t125 = true then (api_IlInstr.l0 k x1 x15 x16 (wrap64 (x17 + 1))) else (some false))) else (none)) else (none)) else (none)) else (some true)
def api_IlInstr.f (k : Nat) (l0 : List (S81)) (l1 : List (S81)) (a2 : Bool) : Option (Bool) := if (l0.length : Int) = (l1.length : Int) then (api_IlInstr.l0 k l1 l0 (l0.length : Int) 0) else (some false)
theorem api_IlInstr.mono_l : ∀ k, (∀ y0 y1 y2 y3, LeO (api_IlInstr.l0 k y0 y1 y2 y3) (api_IlInstr.l0 (k + 1) y0 y1 y2 y3))
 | 0 => fun _ _ _ _ r h => by simp [api_IlInstr.l0] at h
 | k + 1 => by
  have ih0 := api_IlInstr.mono_l k
  · intro y0 y1 y2 y3
    unfold api_IlInstr.l0
    repeat' first
    | (with_reducible exact ih0 _ _ _ _)
    | (with_reducible exact il_Same_1.mono _ _ _ _ _ _ _ _ _ _ _ _ _ _ _ _ _ _ _ _ _ _ _)
    | (with_reducible exact LeO.refl _)
    | (with_reducible exact LeO.none _)
    | (with_reducible refine LeO.ite ?_ ?_)
    | (with_reducible refine LeO.bind ?_ (fun _ => ?_))
    | exact ih0 _ _ _ _
    | exact il_Same_1.mono _ _ _ _ _ _ _ _ _ _ _ _ _ _ _ _ _ _ _ _ _ _ _
    | exact LeO.none _
    | refine LeO.ite ?_ ?_
    | refine LeO.bind ?_ (fun _ => ?_)
theorem api_IlInstr.mono : ∀ a0 a1 a2 k, LeO (api_IlInstr.f k a0 a1 a2) (api_IlInstr.f (k + 1) a0 a1 a2) := by
 intro a0 a1 a2 k
 have ih0 := api_IlInstr.mono_l k
 unfold api_IlInstr.f
 repeat' first
  | (with_reducible exact ih0 _ _ _ _)
  | (with_reducible exact il_Same_1.mono _ _ _ _ _ _ _ _ _ _ _ _ _ _ _ _ _ _ _ _ _ _ _)
  | (with_reducible exact LeO.refl _)
  | (with_reducible exact LeO.none _)
  | (with_reducible refine LeO.ite ?_ ?_)
  | (with_reducible refine LeO.bind ?_ (fun _ => ?_))
  | exact ih0 _ _ _ _
  | exact il_Same_1.mono _ _ _ _ _ _ _ _ _ _ _ _ _ _ _ _ _ _ _ _ _ _ _
  | exact LeO.none _
  | refine LeO.ite ?_ ?_
  | refine LeO.bind ?_ (fun _ => ?_)
set_option maxHeartbeats 8000000 in
set_option maxRecDepth 100000 in
theorem api_IlInstr.calls (k : Nat) (A0 : Option Addr) (c0 : Nat) (l0 : List (S81)) (A1 : Option Addr) (c1 : Nat) (l1 : List (S81)) (a2 : Bool) (r : Bool) (w : World) (hr0 : Kd.C k81 w A0 l0.length l0) (hc0 : l0.length ≤ c0) (hr1 : Kd.C k81 w A1 l1.length l1) (hc1 : l1.length ≤ c1) (h : api_IlInstr.f k l0 l1 a2 = some r) :
 Calls Try.prog 45 #[.slice A0 l0.length c0, .slice A1 l1.length c1, .func (.func 46) #[] #[]] w fun e w' => e = .returned (.bool r) ∧ Below w.heap.size w w' := by
 have hu81 := Try.underlying81
 have HR0 := Aside0.mk hr0
 have HC0 := Aside0.mk hc0
 clear hr0 hc0
 have HR1 := Aside0.mk hr1
 have HC1 := Aside0.mk hc1
 clear hr1 hc1
 have HB := Aside0.mk (Below.refl w.heap.size w)
 have H : (if (l0.length : Int) = (l1.length : Int) then (api_IlInstr.l0 k l1 l0 (l0.length : Int) 0) else (some false)) = some r := h
 clear h
 by_cases c4 : (l0.length : Int) = (l1.length : Int)
 · rw [if_pos c4] at H
   have c4b0 : ((l0.length : Int) == (l1.length : Int)) = true := beq_iff_eq.mpr c4
   have c4b1 : ((l0.length : Int) != (l1.length : Int)) = false := bne_eq_false_iff_eq.mpr c4
   have c4b2 : (l0.length == l1.length) = true := by first | simpa using c4 | (simp at c4 ⊢; omega)
   clear c4
   have H' := Aside0.mk H
   clear H
   go_enter Try.func45, Try.ntmps45
   go_wp2
   go_loopg [17] k (fun kq v17 w' => ∃ (x17_1 : Int), v17 = .int .i64 x17_1 ∧ Aside0 (api_IlInstr.l0 kq l1 l0 (l0.length : Int) x17_1 = some r) ∧ Aside0 (kq ≤ k) ∧ Aside0 (Below w.heap.size w w'))
   case atStart => exact ⟨(0), (by first | rfl | (simp; done) | (simp [*]; done) | (simp [*, bne]; done)), H', ⟨Nat.le_refl _⟩, ⟨by repeat (first | (with_reducible first | exact HB.out | apply below_alloc | apply pw_below_drewN | apply below_drew1) | exact HB.out)⟩⟩
   case round =>
    clear H'
    try clear c1
    try clear p2
    try clear c4
    try clear c4b0
    try clear c4b1
    try clear c4b2
    obtain ⟨x17_1, rfl, HA, HK1, HB⟩ := hrel
    cases gk with
    | zero => exact absurd HA.out (by simp [api_IlInstr.l0])
    | succ k1 =>
     have H := HA.out
     clear HA
     simp only [api_IlInstr.l0] at H
     refine (Classical.em (x17_1 < (l0.length : Int))).elim (fun c5 => ?p1_) (fun c5 => ?n1_)
     case' p1_ =>
      rw [if_pos c5] at H
      have c5b0 : decide (x17_1 < (l0.length : Int)) = true := decide_eq_true c5
      clear c5
      refine (Classical.em (0 ≤ x17_1)).elim (fun c6 => ?p2_) (fun c6 => ?n2_)
      case' p2_ =>
       rw [if_pos c6] at H
       have c6b0 : decide (0 ≤ x17_1) = true := decide_eq_true c6
       clear c6
       refine (Classical.em (x17_1 < (l0.length : Int))).elim (fun c7 => ?p3_) (fun c7 => ?n3_)
       case' p3_ =>
        rw [if_pos c7] at H
        have c7b0 : decide (x17_1 < (l0.length : Int)) = true := decide_eq_true c7
        clear c7
        refine (Classical.em (x17_1 < (l1.length : Int))).elim (fun c8 => ?p4_) (fun c8 => ?n4_)
        case' p4_ =>
         rw [if_pos c8] at H
         have c8b0 : decide (x17_1 < (l1.length : Int)) = true := decide_eq_true c8
         clear c8
         replace H := Option.bind_eq_some_iff.mp H
         obtain ⟨t125, A90, H⟩ := H
         replace H : (if t125 = true then (api_IlInstr.l0 k1 l1 l0 (l0.length : Int) (wrap64 (x17_1 + 1))) else (some false)) = some r := H
         have A9 := Aside0.mk A90
         clear A90
         refine (Classical.em (t125 = true)).elim (fun c10 => ?p5_) (fun c10 => ?n5_)
         case' p5_ =>
          subst c10
          have H1 : (api_IlInstr.l0 k1 l1 l0 (l0.length : Int) (wrap64 (x17_1 + 1))) = some r := by rw [if_pos rfl] at H; exact H
          clear H
          have H := H1
          clear H1
          have H' := Aside0.mk H
          clear H
          have p121 : 0 ≤ (x17_1 : Int) := of_decide_eq_true (by first | (with_reducible assumption) | assumption)
          have q121 : x17_1 < (l0.length : Int) := of_decide_eq_true (by first | (with_reducible assumption) | assumption)
          obtain ⟨ad121, A121_7, c121_7, A121_8, c121_8, A121_9, c121_9, A121_10, c121_10, e121, hx121_0, hx121_1, hx121_2, hx121_3, hx121_4, hx121_5, hx121_6, hx121_7, hx121_8, hx121_9, hx121_10, hl121_7, hi121_7, hl121_8, hi121_8, hl121_9, hi121_9, hl121_10, hi121_10⟩ := at_T81 HR0.out x17_1 p121 q121
          cases e121
          replace hx121_0 := (HB.out.cell (World.block_lt_of_cell? w _ hx121_0)).trans hx121_0
          replace hx121_1 := (HB.out.cell (World.block_lt_of_cell? w _ hx121_1)).trans hx121_1
          replace hx121_2 := (HB.out.cell (World.block_lt_of_cell? w _ hx121_2)).trans hx121_2
          replace hx121_3 := (HB.out.cell (World.block_lt_of_cell? w _ hx121_3)).trans hx121_3
          replace hx121_4 := (HB.out.cell (World.block_lt_of_cell? w _ hx121_4)).trans hx121_4
          replace hx121_5 := (HB.out.cell (World.block_lt_of_cell? w _ hx121_5)).trans hx121_5
          replace hx121_6 := (HB.out.cell (World.block_lt_of_cell? w _ hx121_6)).trans hx121_6
          replace hx121_7 := (HB.out.cell (World.block_lt_of_cell? w _ hx121_7)).trans hx121_7
          replace hx121_8 := (HB.out.cell (World.block_lt_of_cell? w _ hx121_8)).trans hx121_8
          replace hx121_9 := (HB.out.cell (World.block_lt_of_cell? w _ hx121_9)).trans hx121_9
          replace hx121_10 := (HB.out.cell (World.block_lt_of_cell? w _ hx121_10)).trans hx121_10
          have HR121_7 := Aside0.mk hi121_7
          have HC121_7 := Aside0.mk hl121_7
          clear hi121_7 hl121_7
          have HR121_8 := Aside0.mk hi121_8
          have HC121_8 := Aside0.mk hl121_8
          clear hi121_8 hl121_8
          have HR121_9 := Aside0.mk hi121_9
          have HC121_9 := Aside0.mk hl121_9
          clear hi121_9 hl121_9
          have HR121_10 := Aside0.mk hi121_10
          have HC121_10 := Aside0.mk hl121_10
          clear hi121_10 hl121_10
          replace p121 := eq_true p121
          replace q121 := eq_true q121
         case' n5_ =>
          replace c10 := Bool.eq_false_iff.mpr c10
          subst c10
          have H1 : (some false) = some r := by rw [if_neg (show ¬ (false = true) by decide)] at H; exact H
          clear H
          have H := H1
          clear H1
          obtain rfl := Option.some.inj H
          have p121 : 0 ≤ (x17_1 : Int) := of_decide_eq_true (by first | (with_reducible assumption) | assumption)
          have q121 : x17_1 < (l0.length : Int) := of_decide_eq_true (by first | (with_reducible assumption) | assumption)
          obtain ⟨ad121, A121_7, c121_7, A121_8, c121_8, A121_9, c121_9, A121_10, c121_10, e121, hx121_0, hx121_1, hx121_2, hx121_3, hx121_4, hx121_5, hx121_6, hx121_7, hx121_8, hx121_9, hx121_10, hl121_7, hi121_7, hl121_8, hi121_8, hl121_9, hi121_9, hl121_10, hi121_10⟩ := at_T81 HR0.out x17_1 p121 q121
          cases e121
          replace hx121_0 := (HB.out.cell (World.block_lt_of_cell? w _ hx121_0)).trans hx121_0
          replace hx121_1 := (HB.out.cell (World.block_lt_of_cell? w _ hx121_1)).trans hx121_1
          replace hx121_2 := (HB.out.cell (World.block_lt_of_cell? w _ hx121_2)).trans hx121_2
          replace hx121_3 := (HB.out.cell (World.block_lt_of_cell? w _ hx121_3)).trans hx121_3
          replace hx121_4 := (HB.out.cell (World.block_lt_of_cell? w _ hx121_4)).trans hx121_4
          replace hx121_5 := (HB.out.cell (World.block_lt_of_cell? w _ hx121_5)).trans hx121_5
          replace hx121_6 := (HB.out.cell (World.block_lt_of_cell? w _ hx121_6)).trans hx121_6
          replace hx121_7 := (HB.out.cell (World.block_lt_of_cell? w _ hx121_7)).trans hx121_7
          replace hx121_8 := (HB.out.cell (World.block_lt_of_cell? w _ hx121_8)).trans hx121_8
          replace hx121_9 := (HB.out.cell (World.block_lt_of_cell? w _ hx121_9)).trans hx121_9
          replace hx121_10 := (HB.out.cell (World.block_lt_of_cell? w _ hx121_10)).trans hx121_10
          have HR121_7 := Aside0.mk hi121_7
          have HC121_7 := Aside0.mk hl121_7
          clear hi121_7 hl121_7
          have HR121_8 := Aside0.mk hi121_8
          have HC121_8 := Aside0.mk hl121_8
          clear hi121_8 hl121_8
          have HR121_9 := Aside0.mk hi121_9
          have HC121_9 := Aside0.mk hl121_9
          clear hi121_9 hl121_9
          have HR121_10 := Aside0.mk hi121_10
          have HC121_10 := Aside0.mk hl121_10
          clear hi121_10 hl121_10
          replace p121 := eq_true p121
          replace q121 := eq_true q121
        case' n4_ =>
         rw [if_neg c8] at H
         exact absurd H (by simp)
       case' n3_ =>
        rw [if_neg c7] at H
        exact absurd H (by simp)
      case' n2_ =>
       rw [if_neg c6] at H
       exact absurd H (by simp)
     case' n1_ =>
      rw [if_neg c5] at H
      have c5b0 : decide (x17_1 < (l0.length : Int)) = false := decide_eq_false c5
      clear c5
      obtain rfl := Option.some.inj H
      go_wp2
      go_ret
      exact ⟨by first | rfl | (simp [errW_none, errW_some] <;> rfl) | (simp [*, errW_none, errW_some] <;> rfl), by repeat (first | (with_reducible first | exact HB.out | apply below_alloc | apply pw_below_drewN | apply below_drew1) | exact HB.out)⟩
     all_goals go_wp2_with (first | ((with_reducible refine gate_dst (N := 8) rfl ?_); refine box_event ?hg (N := 8) ?hd (cs := #[.int .i64 0, .string (⟨#[]⟩ : ByteArray), .string (⟨#[]⟩ : ByteArray), .bool false, .bool false, .bool false, .string (⟨#[]⟩ : ByteArray), .slice none 0 0, .slice none 0 0, .slice none 0 0, .slice none 0 0]) (t := 81) ?hr ?_; (case hd => rfl); (case hg => rfl); (case hr => first | (go_simp; done) | (go_simp; rfl)); intro gb122 hg w11 hbox hb; have n0_ := Aside0.mk (below_step (by repeat (first | (with_reducible first | exact HB.out | apply below_alloc | apply pw_below_drewN | apply below_drew1) | exact HB.out)) hb); have n1_ := Aside0.mk (hbox); have n2_ := Aside0.mk ((by rw [hg]; exact (below_size (by repeat (first | (with_reducible first | exact HB.out | apply below_alloc | apply pw_below_drewN | apply below_drew1) | exact HB.out))) : w.heap.size ≤ gb122)); have n3_ := Aside0.mk ((by rw [hg]; exact (below_size (by repeat (first | (with_reducible first | exact HB.out | apply below_alloc | apply pw_below_drewN | apply below_drew1) | exact HB.out))) : w.heap.size ≤ gb122)); clear HB; have HB := n0_; have BK122 := n1_; have GW122 := n2_; have GE122 := n3_; clear n0_ n1_ n2_ n3_; clear hb hbox hg; obtain ⟨_, _, _, _, _, _, _, _, _, _, _, _, _, _, _, _, _, _, _, _, _, _⟩ := cells11 BK122.out; have p123 : 0 ≤ (x17_1 : Int) := of_decide_eq_true (by first | (with_reducible assumption) | assumption); have q123 : x17_1 < (l1.length : Int) := of_decide_eq_true (by first | (with_reducible assumption) | assumption); obtain ⟨ad123, A123_7, c123_7, A123_8, c123_8, A123_9, c123_9, A123_10, c123_10, e123, hx123_0, hx123_1, hx123_2, hx123_3, hx123_4, hx123_5, hx123_6, hx123_7, hx123_8, hx123_9, hx123_10, hl123_7, hi123_7, hl123_8, hi123_8, hl123_9, hi123_9, hl123_10, hi123_10⟩ := at_T81 HR1.out x17_1 p123 q123; cases e123; have hn123_0 : ad123.block ≠ gb122 := Nat.ne_of_lt (Nat.lt_of_lt_of_le (by have := World.block_lt_of_cell? _ _ hx123_0; first | rwa [add_block] at this | exact this) GW122.out); have hn123_1 := hn123_0; have hn123_2 := hn123_0; have hn123_3 := hn123_0; have hn123_4 := hn123_0; have hn123_5 := hn123_0; have hn123_6 := hn123_0; have hn123_7 := hn123_0; have hn123_8 := hn123_0; have hn123_9 := hn123_0; have hn123_10 := hn123_0; replace hx123_0 := (HB.out.cell (World.block_lt_of_cell? w _ hx123_0)).trans hx123_0; replace hx123_1 := (HB.out.cell (World.block_lt_of_cell? w _ hx123_1)).trans hx123_1; replace hx123_2 := (HB.out.cell (World.block_lt_of_cell? w _ hx123_2)).trans hx123_2; replace hx123_3 := (HB.out.cell (World.block_lt_of_cell? w _ hx123_3)).trans hx123_3; replace hx123_4 := (HB.out.cell (World.block_lt_of_cell? w _ hx123_4)).trans hx123_4; replace hx123_5 := (HB.out.cell (World.block_lt_of_cell? w _ hx123_5)).trans hx123_5; replace hx123_6 := (HB.out.cell (World.block_lt_of_cell? w _ hx123_6)).trans hx123_6; replace hx123_7 := (HB.out.cell (World.block_lt_of_cell? w _ hx123_7)).trans hx123_7; replace hx123_8 := (HB.out.cell (World.block_lt_of_cell? w _ hx123_8)).trans hx123_8; replace hx123_9 := (HB.out.cell (World.block_lt_of_cell? w _ hx123_9)).trans hx123_9; replace hx123_10 := (HB.out.cell (World.block_lt_of_cell? w _ hx123_10)).trans hx123_10; have HR123_7 := Aside0.mk hi123_7; have HC123_7 := Aside0.mk hl123_7; clear hi123_7 hl123_7; have HR123_8 := Aside0.mk hi123_8; have HC123_8 := Aside0.mk hl123_8; clear hi123_8 hl123_8; have HR123_9 := Aside0.mk hi123_9; have HC123_9 := Aside0.mk hl123_9; clear hi123_9 hl123_9; have HR123_10 := Aside0.mk hi123_10; have HC123_10 := Aside0.mk hl123_10; clear hi123_10 hl123_10; replace hx123_0 := far11 gb122 (.int .i64 ((rd_T81 l0 x17_1).f0)) (.string ((rd_T81 l0 x17_1).f1)) (.string ((rd_T81 l0 x17_1).f2)) (.bool ((rd_T81 l0 x17_1).f3)) (.bool ((rd_T81 l0 x17_1).f4)) (.bool ((rd_T81 l0 x17_1).f5)) (.string ((rd_T81 l0 x17_1).f6)) (.slice A121_7 ((rd_T81 l0 x17_1).f7).length c121_7) (.slice A121_8 ((rd_T81 l0 x17_1).f8).length c121_8) (.slice A121_9 ((rd_T81 l0 x17_1).f9).length c121_9) (.slice A121_10 ((rd_T81 l0 x17_1).f10).length c121_10) (by first | (rw [add_block]; exact hn123_0) | (show (Addr.add _ _).block ≠ _; rw [add_block]; exact hn123_0) | exact hn123_0) hx123_0; replace hx123_1 := far11 gb122 (.int .i64 ((rd_T81 l0 x17_1).f0)) (.string ((rd_T81 l0 x17_1).f1)) (.string ((rd_T81 l0 x17_1).f2)) (.bool ((rd_T81 l0 x17_1).f3)) (.bool ((rd_T81 l0 x17_1).f4)) (.bool ((rd_T81 l0 x17_1).f5)) (.string ((rd_T81 l0 x17_1).f6)) (.slice A121_7 ((rd_T81 l0 x17_1).f7).length c121_7) (.slice A121_8 ((rd_T81 l0 x17_1).f8).length c121_8) (.slice A121_9 ((rd_T81 l0 x17_1).f9).length c121_9) (.slice A121_10 ((rd_T81 l0 x17_1).f10).length c121_10) (by first | (rw [add_block]; exact hn123_0) | (show (Addr.add _ _).block ≠ _; rw [add_block]; exact hn123_0) | exact hn123_0) hx123_1; replace hx123_2 := far11 gb122 (.int .i64 ((rd_T81 l0 x17_1).f0)) (.string ((rd_T81 l0 x17_1).f1)) (.string ((rd_T81 l0 x17_1).f2)) (.bool ((rd_T81 l0 x17_1).f3)) (.bool ((rd_T81 l0 x17_1).f4)) (.bool ((rd_T81 l0 x17_1).f5)) (.string ((rd_T81 l0 x17_1).f6)) (.slice A121_7 ((rd_T81 l0 x17_1).f7).length c121_7) (.slice A121_8 ((rd_T81 l0 x17_1).f8).length c121_8) (.slice A121_9 ((rd_T81 l0 x17_1).f9).length c121_9) (.slice A121_10 ((rd_T81 l0 x17_1).f10).length c121_10) (by first | (rw [add_block]; exact hn123_0) | (show (Addr.add _ _).block ≠ _; rw [add_block]; exact hn123_0) | exact hn123_0) hx123_2; replace hx123_3 := far11 gb122 (.int .i64 ((rd_T81 l0 x17_1).f0)) (.string ((rd_T81 l0 x17_1).f1)) (.string ((rd_T81 l0 x17_1).f2)) (.bool ((rd_T81 l0 x17_1).f3)) (.bool ((rd_T81 l0 x17_1).f4)) (.bool ((rd_T81 l0 x17_1).f5)) (.string ((rd_T81 l0 x17_1).f6)) (.slice A121_7 ((rd_T81 l0 x17_1).f7).length c121_7) (.slice A121_8 ((rd_T81 l0 x17_1).f8).length c121_8) (.slice A121_9 ((rd_T81 l0 x17_1).f9).length c121_9) (.slice A121_10 ((rd_T81 l0 x17_1).f10).length c121_10) (by first | (rw [add_block]; exact hn123_0) | (show (Addr.add _ _).block ≠ _; rw [add_block]; exact hn123_0) | exact hn123_0) hx123_3; replace hx123_4 := far11 gb122 (.int .i64 ((rd_T81 l0 x17_1).f0)) (.string ((rd_T81 l0 x17_1).f1)) (.string ((rd_T81 l0 x17_1).f2)) (.bool ((rd_T81 l0 x17_1).f3)) (.bool ((rd_T81 l0 x17_1).f4)) (.bool ((rd_T81 l0 x17_1).f5)) (.string ((rd_T81 l0 x17_1).f6)) (.slice A121_7 ((rd_T81 l0 x17_1).f7).length c121_7) (.slice A121_8 ((rd_T81 l0 x17_1).f8).length c121_8) (.slice A121_9 ((rd_T81 l0 x17_1).f9).length c121_9) (.slice A121_10 ((rd_T81 l0 x17_1).f10).length c121_10) (by first | (rw [add_block]; exact hn123_0) | (show (Addr.add _ _).block ≠ _; rw [add_block]; exact hn123_0) | exact hn123_0) hx123_4; replace hx123_5 := far11 gb122 (.int .i64 ((rd_T81 l0 x17_1).f0)) (.string ((rd_T81 l0 x17_1).f1)) (.string ((rd_T81 l0 x17_1).f2)) (.bool ((rd_T81 l0 x17_1).f3)) (.bool ((rd_T81 l0 x17_1).f4)) (.bool ((rd_T81 l0 x17_1).f5)) (.string ((rd_T81 l0 x17_1).f6)) (.slice A121_7 ((rd_T81 l0 x17_1).f7).length c121_7) (.slice A121_8 ((rd_T81 l0 x17_1).f8).length c121_8) (.slice A121_9 ((rd_T81 l0 x17_1).f9).length c121_9) (.slice A121_10 ((rd_T81 l0 x17_1).f10).length c121_10) (by first | (rw [add_block]; exact hn123_0) | (show (Addr.add _ _).block ≠ _; rw [add_block]; exact hn123_0) | exact hn123_0) hx123_5; replace hx123_6 := far11 gb122 (.int .i64 ((rd_T81 l0 x17_1).f0)) (.string ((rd_T81 l0 x17_1).f1)) (.string ((rd_T81 l0 x17_1).f2)) (.bool ((rd_T81 l0 x17_1).f3)) (.bool ((rd_T81 l0 x17_1).f4)) (.bool ((rd_T81 l0 x17_1).f5)) (.string ((rd_T81 l0 x17_1).f6)) (.slice A121_7 ((rd_T81 l0 x17_1).f7).length c121_7) (.slice A121_8 ((rd_T81 l0 x17_1).f8).length c121_8) (.slice A121_9 ((rd_T81 l0 x17_1).f9).length c121_9) (.slice A121_10 ((rd_T81 l0 x17_1).f10).length c121_10) (by first | (rw [add_block]; exact hn123_0) | (show (Addr.add _ _).block ≠ _; rw [add_block]; exact hn123_0) | exact hn123_0) hx123_6; replace hx123_7 := far11 gb122 (.int .i64 ((rd_T81 l0 x17_1).f0)) (.string ((rd_T81 l0 x17_1).f1)) (.string ((rd_T81 l0 x17_1).f2)) (.bool ((rd_T81 l0 x17_1).f3)) (.bool ((rd_T81 l0 x17_1).f4)) (.bool ((rd_T81 l0 x17_1).f5)) (.string ((rd_T81 l0 x17_1).f6)) (.slice A121_7 ((rd_T81 l0 x17_1).f7).length c121_7) (.slice A121_8 ((rd_T81 l0 x17_1).f8).length c121_8) (.slice A121_9 ((rd_T81 l0 x17_1).f9).length c121_9) (.slice A121_10 ((rd_T81 l0 x17_1).f10).length c121_10) (by first | (rw [add_block]; exact hn123_0) | (show (Addr.add _ _).block ≠ _; rw [add_block]; exact hn123_0) | exact hn123_0) hx123_7; replace hx123_8 := far11 gb122 (.int .i64 ((rd_T81 l0 x17_1).f0)) (.string ((rd_T81 l0 x17_1).f1)) (.string ((rd_T81 l0 x17_1).f2)) (.bool ((rd_T81 l0 x17_1).f3)) (.bool ((rd_T81 l0 x17_1).f4)) (.bool ((rd_T81 l0 x17_1).f5)) (.string ((rd_T81 l0 x17_1).f6)) (.slice A121_7 ((rd_T81 l0 x17_1).f7).length c121_7) (.slice A121_8 ((rd_T81 l0 x17_1).f8).length c121_8) (.slice A121_9 ((rd_T81 l0 x17_1).f9).length c121_9) (.slice A121_10 ((rd_T81 l0 x17_1).f10).length c121_10) (by first | (rw [add_block]; exact hn123_0) | (show (Addr.add _ _).block ≠ _; rw [add_block]; exact hn123_0) | exact hn123_0) hx123_8; replace hx123_9 := far11 gb122 (.int .i64 ((rd_T81 l0 x17_1).f0)) (.string ((rd_T81 l0 x17_1).f1)) (.string ((rd_T81 l0 x17_1).f2)) (.bool ((rd_T81 l0 x17_1).f3)) (.bool ((rd_T81 l0 x17_1).f4)) (.bool ((rd_T81 l0 x17_1).f5)) (.string ((rd_T81 l0 x17_1).f6)) (.slice A121_7 ((rd_T81 l0 x17_1).f7).length c121_7) (.slice A121_8 ((rd_T81 l0 x17_1).f8).length c121_8) (.slice A121_9 ((rd_T81 l0 x17_1).f9).length c121_9) (.slice A121_10 ((rd_T81 l0 x17_1).f10).length c121_10) (by first | (rw [add_block]; exact hn123_0) | (show (Addr.add _ _).block ≠ _; rw [add_block]; exact hn123_0) | exact hn123_0) hx123_9; replace hx123_10 := far11 gb122 (.int .i64 ((rd_T81 l0 x17_1).f0)) (.string ((rd_T81 l0 x17_1).f1)) (.string ((rd_T81 l0 x17_1).f2)) (.bool ((rd_T81 l0 x17_1).f3)) (.bool ((rd_T81 l0 x17_1).f4)) (.bool ((rd_T81 l0 x17_1).f5)) (.string ((rd_T81 l0 x17_1).f6)) (.slice A121_7 ((rd_T81 l0 x17_1).f7).length c121_7) (.slice A121_8 ((rd_T81 l0 x17_1).f8).length c121_8) (.slice A121_9 ((rd_T81 l0 x17_1).f9).length c121_9) (.slice A121_10 ((rd_T81 l0 x17_1).f10).length c121_10) (by first | (rw [add_block]; exact hn123_0) | (show (Addr.add _ _).block ≠ _; rw [add_block]; exact hn123_0) | exact hn123_0) hx123_10; clear hn123_0; clear hn123_1; clear hn123_2; clear hn123_3; clear hn123_4; clear hn123_5; clear hn123_6; clear hn123_7; clear hn123_8; clear hn123_9; clear hn123_10; replace p123 := eq_true p123; replace q123 := eq_true q123) | ((with_reducible refine gate_dst (N := 9) rfl ?_); refine box_event ?hg (N := 9) ?hd (cs := #[.int .i64 0, .string (⟨#[]⟩ : ByteArray), .string (⟨#[]⟩ : ByteArray), .bool false, .bool false, .bool false, .string (⟨#[]⟩ : ByteArray), .slice none 0 0, .slice none 0 0, .slice none 0 0, .slice none 0 0]) (t := 81) ?hr ?_; (case hd => rfl); (case hg => rfl); (case hr => first | (go_simp; done) | (go_simp; rfl)); intro gb124 hg w13 hbox hb; have n0_ := Aside0.mk (blk_below (g := gb122) (o := .cells #[.int .i64 ((rd_T81 l0 x17_1).f0), .string ((rd_T81 l0 x17_1).f1), .string ((rd_T81 l0 x17_1).f2), .bool ((rd_T81 l0 x17_1).f3), .bool ((rd_T81 l0 x17_1).f4), .bool ((rd_T81 l0 x17_1).f5), .string ((rd_T81 l0 x17_1).f6), .slice A121_7 ((rd_T81 l0 x17_1).f7).length c121_7, .slice A121_8 ((rd_T81 l0 x17_1).f8).length c121_8, .slice A121_9 ((rd_T81 l0 x17_1).f9).length c121_9, .slice A121_10 ((rd_T81 l0 x17_1).f10).length c121_10] 81 (0, 0)) (by (with_reducible repeat (first | refine blk_drewN ?_ _ | refine blk_drew ?_ | refine blk_alloc ?_ _)); apply put11; (with_reducible repeat (first | refine blk_drewN ?_ _ | refine blk_drew ?_ | refine blk_alloc ?_ _)); exact BK122.out) hb); have n1_ := Aside0.mk (below_step (by repeat (first | (with_reducible first | exact HB.out | apply below_alloc | apply pw_below_drewN | apply below_drew1 | refine below_set ?_ GE122.out) | exact HB.out)) hb); have n2_ := Aside0.mk (hbox); have n3_ := Aside0.mk ((by rw [hg]; exact (below_size (by repeat (first | (with_reducible first | exact HB.out | apply below_alloc | apply pw_below_drewN | apply below_drew1 | refine below_set ?_ GE122.out) | exact HB.out))) : w.heap.size ≤ gb124)); have n4_ := Aside0.mk ((by rw [hg]; exact (below_size (by repeat (first | (with_reducible first | exact HB.out | apply below_alloc | apply pw_below_drewN | apply below_drew1 | refine below_set ?_ GE122.out) | exact HB.out))) : w.heap.size ≤ gb124)); have n5_ := Aside0.mk ((by rw [hg]; exact Nat.ne_of_lt (blk_lt (g := gb122) (o := .cells #[.int .i64 ((rd_T81 l0 x17_1).f0), .string ((rd_T81 l0 x17_1).f1), .string ((rd_T81 l0 x17_1).f2), .bool ((rd_T81 l0 x17_1).f3), .bool ((rd_T81 l0 x17_1).f4), .bool ((rd_T81 l0 x17_1).f5), .string ((rd_T81 l0 x17_1).f6), .slice A121_7 ((rd_T81 l0 x17_1).f7).length c121_7, .slice A121_8 ((rd_T81 l0 x17_1).f8).length c121_8, .slice A121_9 ((rd_T81 l0 x17_1).f9).length c121_9, .slice A121_10 ((rd_T81 l0 x17_1).f10).length c121_10] 81 (0, 0)) (by (with_reducible repeat (first | refine blk_drewN ?_ _ | refine blk_drew ?_ | refine blk_alloc ?_ _)); apply put11; (with_reducible repeat (first | refine blk_drewN ?_ _ | refine blk_drew ?_ | refine blk_alloc ?_ _)); exact BK122.out)) : gb122 ≠ gb124)); have n6_ := Aside0.mk ((by rw [hg]; exact Nat.ne_of_gt (blk_lt (g := gb122) (o := .cells #[.int .i64 ((rd_T81 l0 x17_1).f0), .string ((rd_T81 l0 x17_1).f1), .string ((rd_T81 l0 x17_1).f2), .bool ((rd_T81 l0 x17_1).f3), .bool ((rd_T81 l0 x17_1).f4), .bool ((rd_T81 l0 x17_1).f5), .string ((rd_T81 l0 x17_1).f6), .slice A121_7 ((rd_T81 l0 x17_1).f7).length c121_7, .slice A121_8 ((rd_T81 l0 x17_1).f8).length c121_8, .slice A121_9 ((rd_T81 l0 x17_1).f9).length c121_9, .slice A121_10 ((rd_T81 l0 x17_1).f10).length c121_10] 81 (0, 0)) (by (with_reducible repeat (first | refine blk_drewN ?_ _ | refine blk_drew ?_ | refine blk_alloc ?_ _)); apply put11; (with_reducible repeat (first | refine blk_drewN ?_ _ | refine blk_drew ?_ | refine blk_alloc ?_ _)); exact BK122.out)) : gb124 ≠ gb122)); clear BK122; clear HB; have BK122 := n0_; have HB := n1_; have BK124 := n2_; have GW124 := n3_; have GE124 := n4_; have NB122_124 := n5_; have NB124_122 := n6_; clear n0_ n1_ n2_ n3_ n4_ n5_ n6_; clear hb hbox hg; have hnb14 := NB124_122.out; have hnc14 := NB122_124.out; obtain ⟨_, _, _, _, _, _, _, _, _, _, _, _, _, _, _, _, _, _, _, _, _, _⟩ := cells11 BK124.out; obtain ⟨_, _, _, _, _, _, _, _, _, _, _, _, _, _, _, _, _, _, _, _, _, _⟩ := cells11 BK122.out) | ((with_reducible refine gate_valued (N := 26) rfl ?_); refine goesV_ (x := .tmp 26) (by first | rfl | (simp [Act.eval]; done)) (some 29) rfl rfl Try.func46 (by kernel_rfl) rfl #[.agg #[.int .i64 ((rd_T81 l0 x17_1).f0), .string ((rd_T81 l0 x17_1).f1), .string ((rd_T81 l0 x17_1).f2), .bool ((rd_T81 l0 x17_1).f3), .bool ((rd_T81 l0 x17_1).f4), .bool ((rd_T81 l0 x17_1).f5), .string ((rd_T81 l0 x17_1).f6), .slice A121_7 ((rd_T81 l0 x17_1).f7).length c121_7, .slice A121_8 ((rd_T81 l0 x17_1).f8).length c121_8, .slice A121_9 ((rd_T81 l0 x17_1).f9).length c121_9, .slice A121_10 ((rd_T81 l0 x17_1).f10).length c121_10], .agg #[.int .i64 ((rd_T81 l1 x17_1).f0), .string ((rd_T81 l1 x17_1).f1), .string ((rd_T81 l1 x17_1).f2), .bool ((rd_T81 l1 x17_1).f3), .bool ((rd_T81 l1 x17_1).f4), .bool ((rd_T81 l1 x17_1).f5), .string ((rd_T81 l1 x17_1).f6), .slice A123_7 ((rd_T81 l1 x17_1).f7).length c123_7, .slice A123_8 ((rd_T81 l1 x17_1).f8).length c123_8, .slice A123_9 ((rd_T81 l1 x17_1).f9).length c123_9, .slice A123_10 ((rd_T81 l1 x17_1).f10).length c123_10]] rfl (by (try simp only [List.map_toArray, List.map_cons, List.map_nil]); first | done | rfl | (simp only [List.length_drop, List.length_take]; rfl)) ?_; (with_reducible refine (il_Same_1.calls k1 ((rd_T81 l0 x17_1).f0) ((rd_T81 l0 x17_1).f1) ((rd_T81 l0 x17_1).f2) ((rd_T81 l0 x17_1).f3) ((rd_T81 l0 x17_1).f4) ((rd_T81 l0 x17_1).f5) ((rd_T81 l0 x17_1).f6) _ _ ((rd_T81 l0 x17_1).f7) _ _ ((rd_T81 l0 x17_1).f8) _ _ ((rd_T81 l0 x17_1).f9) _ _ ((rd_T81 l0 x17_1).f10) ((rd_T81 l1 x17_1).f0) ((rd_T81 l1 x17_1).f1) ((rd_T81 l1 x17_1).f2) ((rd_T81 l1 x17_1).f3) ((rd_T81 l1 x17_1).f4) ((rd_T81 l1 x17_1).f5) ((rd_T81 l1 x17_1).f6) _ _ ((rd_T81 l1 x17_1).f7) _ _ ((rd_T81 l1 x17_1).f8) _ _ ((rd_T81 l1 x17_1).f9) _ _ ((rd_T81 l1 x17_1).f10) _ _ ?side1 ?side2 ?side3 ?side4 ?side5 ?side6 ?side7 ?side8 ?side9 ?side10 ?side11 ?side12 ?side13 ?side14 ?side15 ?side16 (by first | exact A9.out)).mono ?_); (case side1 => exact Kd.C_below HR121_7.out (by repeat (first | (with_reducible first | exact HB.out | apply below_alloc | apply pw_below_drewN | apply below_drew1 | refine below_set ?_ GE122.out | refine below_set ?_ GE124.out) | exact HB.out))); (case side2 => exact HC121_7.out); (case side3 => exact Kd.C_below HR121_8.out (by repeat (first | (with_reducible first | exact HB.out | apply below_alloc | apply pw_below_drewN | apply below_drew1 | refine below_set ?_ GE122.out | refine below_set ?_ GE124.out) | exact HB.out))); (case side4 => exact HC121_8.out); (case side5 => exact Kd.C_below HR121_9.out (by repeat (first | (with_reducible first | exact HB.out | apply below_alloc | apply pw_below_drewN | apply below_drew1 | refine below_set ?_ GE122.out | refine below_set ?_ GE124.out) | exact HB.out))); (case side6 => exact HC121_9.out); (case side7 => exact Kd.C_below HR121_10.out (by repeat (first | (with_reducible first | exact HB.out | apply below_alloc | apply pw_below_drewN | apply below_drew1 | refine below_set ?_ GE122.out | refine below_set ?_ GE124.out) | exact HB.out))); (case side8 => exact HC121_10.out); (case side9 => exact Kd.C_below HR123_7.out (by repeat (first | (with_reducible first | exact HB.out | apply below_alloc | apply pw_below_drewN | apply below_drew1 | refine below_set ?_ GE122.out | refine below_set ?_ GE124.out) | exact HB.out))); (case side10 => exact HC123_7.out); (case side11 => exact Kd.C_below HR123_8.out (by repeat (first | (with_reducible first | exact HB.out | apply below_alloc | apply pw_below_drewN | apply below_drew1 | refine below_set ?_ GE122.out | refine below_set ?_ GE124.out) | exact HB.out))); (case side12 => exact HC123_8.out); (case side13 => exact Kd.C_below HR123_9.out (by repeat (first | (with_reducible first | exact HB.out | apply below_alloc | apply pw_below_drewN | apply below_drew1 | refine below_set ?_ GE122.out | refine below_set ?_ GE124.out) | exact HB.out))); (case side14 => exact HC123_9.out); (case side15 => exact Kd.C_below HR123_10.out (by repeat (first | (with_reducible first | exact HB.out | apply below_alloc | apply pw_below_drewN | apply below_drew1 | refine below_set ?_ GE122.out | refine below_set ?_ GE124.out) | exact HB.out))); (case side16 => exact HC123_10.out); rintro e w17 ⟨rfl, hb⟩; refine ⟨_, rfl, ?_⟩; have n0_ := Aside0.mk (blk_below (g := gb122) (o := .cells #[.int .i64 ((rd_T81 l0 x17_1).f0), .string ((rd_T81 l0 x17_1).f1), .string ((rd_T81 l0 x17_1).f2), .bool ((rd_T81 l0 x17_1).f3), .bool ((rd_T81 l0 x17_1).f4), .bool ((rd_T81 l0 x17_1).f5), .string ((rd_T81 l0 x17_1).f6), .slice A121_7 ((rd_T81 l0 x17_1).f7).length c121_7, .slice A121_8 ((rd_T81 l0 x17_1).f8).length c121_8, .slice A121_9 ((rd_T81 l0 x17_1).f9).length c121_9, .slice A121_10 ((rd_T81 l0 x17_1).f10).length c121_10] 81 (0, 0)) (by (with_reducible repeat (first | refine blk_drewN ?_ _ | refine blk_drew ?_ | refine blk_alloc ?_ _)); refine blk_far ?_ NB122_124.out _; (with_reducible repeat (first | refine blk_drewN ?_ _ | refine blk_drew ?_ | refine blk_alloc ?_ _)); refine blk_far ?_ NB122_124.out _; (with_reducible repeat (first | refine blk_drewN ?_ _ | refine blk_drew ?_ | refine blk_alloc ?_ _)); refine blk_far ?_ NB122_124.out _; (with_reducible repeat (first | refine blk_drewN ?_ _ | refine blk_drew ?_ | refine blk_alloc ?_ _)); refine blk_far ?_ NB122_124.out _; (with_reducible repeat (first | refine blk_drewN ?_ _ | refine blk_drew ?_ | refine blk_alloc ?_ _)); refine blk_far ?_ NB122_124.out _; (with_reducible repeat (first | refine blk_drewN ?_ _ | refine blk_drew ?_ | refine blk_alloc ?_ _)); refine blk_far ?_ NB122_124.out _; (with_reducible repeat (first | refine blk_drewN ?_ _ | refine blk_drew ?_ | refine blk_alloc ?_ _)); refine blk_far ?_ NB122_124.out _; (with_reducible repeat (first | refine blk_drewN ?_ _ | refine blk_drew ?_ | refine blk_alloc ?_ _)); refine blk_far ?_ NB122_124.out _; (with_reducible repeat (first | refine blk_drewN ?_ _ | refine blk_drew ?_ | refine blk_alloc ?_ _)); refine blk_far ?_ NB122_124.out _; (with_reducible repeat (first | refine blk_drewN ?_ _ | refine blk_drew ?_ | refine blk_alloc ?_ _)); refine blk_far ?_ NB122_124.out _; (with_reducible repeat (first | refine blk_drewN ?_ _ | refine blk_drew ?_ | refine blk_alloc ?_ _)); refine blk_far ?_ NB122_124.out _; (with_reducible repeat (first | refine blk_drewN ?_ _ | refine blk_drew ?_ | refine blk_alloc ?_ _)); exact BK122.out) hb); have n1_ := Aside0.mk (blk_below (g := gb124) (o := .cells #[.int .i64 ((rd_T81 l1 x17_1).f0), .string ((rd_T81 l1 x17_1).f1), .string ((rd_T81 l1 x17_1).f2), .bool ((rd_T81 l1 x17_1).f3), .bool ((rd_T81 l1 x17_1).f4), .bool ((rd_T81 l1 x17_1).f5), .string ((rd_T81 l1 x17_1).f6), .slice A123_7 ((rd_T81 l1 x17_1).f7).length c123_7, .slice A123_8 ((rd_T81 l1 x17_1).f8).length c123_8, .slice A123_9 ((rd_T81 l1 x17_1).f9).length c123_9, .slice A123_10 ((rd_T81 l1 x17_1).f10).length c123_10] 81 (0, 0)) (by (with_reducible repeat (first | refine blk_drewN ?_ _ | refine blk_drew ?_ | refine blk_alloc ?_ _)); apply put11; (with_reducible repeat (first | refine blk_drewN ?_ _ | refine blk_drew ?_ | refine blk_alloc ?_ _)); exact BK124.out) hb); have n2_ := Aside0.mk (below_step (by repeat (first | (with_reducible first | exact HB.out | apply below_alloc | apply pw_below_drewN | apply below_drew1 | refine below_set ?_ GE122.out | refine below_set ?_ GE124.out) | exact HB.out)) hb); clear BK122; clear BK124; clear HB; have BK122 := n0_; have BK124 := n1_; have HB := n2_; clear n0_ n1_ n2_; (try clear hb); (try clear hb2); (try clear hk); (try clear hi)) | ((with_reducible refine gate_dst (N := 9) rfl ?_); refine box_event ?hg (N := 9) ?hd (cs := #[.int .i64 0, .string (⟨#[]⟩ : ByteArray), .string (⟨#[]⟩ : ByteArray), .bool false, .bool false, .bool false, .string (⟨#[]⟩ : ByteArray), .slice none 0 0, .slice none 0 0, .slice none 0 0, .slice none 0 0]) (t := 81) ?hr ?_; (case hd => rfl); (case hg => rfl); (case hr => first | (go_simp; done) | (go_simp; rfl)); intro gb124 hg w20 hbox hb; have n0_ := Aside0.mk (blk_below (g := gb122) (o := .cells #[.int .i64 ((rd_T81 l0 x17_1).f0), .string ((rd_T81 l0 x17_1).f1), .string ((rd_T81 l0 x17_1).f2), .bool ((rd_T81 l0 x17_1).f3), .bool ((rd_T81 l0 x17_1).f4), .bool ((rd_T81 l0 x17_1).f5), .string ((rd_T81 l0 x17_1).f6), .slice A121_7 ((rd_T81 l0 x17_1).f7).length c121_7, .slice A121_8 ((rd_T81 l0 x17_1).f8).length c121_8, .slice A121_9 ((rd_T81 l0 x17_1).f9).length c121_9, .slice A121_10 ((rd_T81 l0 x17_1).f10).length c121_10] 81 (0, 0)) (by (with_reducible repeat (first | refine blk_drewN ?_ _ | refine blk_drew ?_ | refine blk_alloc ?_ _)); apply put11; (with_reducible repeat (first | refine blk_drewN ?_ _ | refine blk_drew ?_ | refine blk_alloc ?_ _)); exact BK122.out) hb); have n1_ := Aside0.mk (below_step (by repeat (first | (with_reducible first | exact HB.out | apply below_alloc | apply pw_below_drewN | apply below_drew1 | refine below_set ?_ GE122.out) | exact HB.out)) hb); have n2_ := Aside0.mk (hbox); have n3_ := Aside0.mk ((by rw [hg]; exact (below_size (by repeat (first | (with_reducible first | exact HB.out | apply below_alloc | apply pw_below_drewN | apply below_drew1 | refine below_set ?_ GE122.out) | exact HB.out))) : w.heap.size ≤ gb124)); have n4_ := Aside0.mk ((by rw [hg]; exact (below_size (by repeat (first | (with_reducible first | exact HB.out | apply below_alloc | apply pw_below_drewN | apply below_drew1 | refine below_set ?_ GE122.out) | exact HB.out))) : w.heap.size ≤ gb124)); have n5_ := Aside0.mk ((by rw [hg]; exact Nat.ne_of_lt (blk_lt (g := gb122) (o := .cells #[.int .i64 ((rd_T81 l0 x17_1).f0), .string ((rd_T81 l0 x17_1).f1), .string ((rd_T81 l0 x17_1).f2), .bool ((rd_T81 l0 x17_1).f3), .bool ((rd_T81 l0 x17_1).f4), .bool ((rd_T81 l0 x17_1).f5), .string ((rd_T81 l0 x17_1).f6), .slice A121_7 ((rd_T81 l0 x17_1).f7).length c121_7, .slice A121_8 ((rd_T81 l0 x17_1).f8).length c121_8, .slice A121_9 ((rd_T81 l0 x17_1).f9).length c121_9, .slice A121_10 ((rd_T81 l0 x17_1).f10).length c121_10] 81 (0, 0)) (by (with_reducible repeat (first | refine blk_drewN ?_ _ | refine blk_drew ?_ | refine blk_alloc ?_ _)); apply put11; (with_reducible repeat (first | refine blk_drewN ?_ _ | refine blk_drew ?_ | refine blk_alloc ?_ _)); exact BK122.out)) : gb122 ≠ gb124)); have n6_ := Aside0.mk ((by rw [hg]; exact Nat.ne_of_gt (blk_lt (g := gb122) (o := .cells #[.int .i64 ((rd_T81 l0 x17_1).f0), .string ((rd_T81 l0 x17_1).f1), .string ((rd_T81 l0 x17_1).f2), .bool ((rd_T81 l0 x17_1).f3), .bool ((rd_T81 l0 x17_1).f4), .bool ((rd_T81 l0 x17_1).f5), .string ((rd_T81 l0 x17_1).f6), .slice A121_7 ((rd_T81 l0 x17_1).f7).length c121_7, .slice A121_8 ((rd_T81 l0 x17_1).f8).length c121_8, .slice A121_9 ((rd_T81 l0 x17_1).f9).length c121_9, .slice A121_10 ((rd_T81 l0 x17_1).f10).length c121_10] 81 (0, 0)) (by (with_reducible repeat (first | refine blk_drewN ?_ _ | refine blk_drew ?_ | refine blk_alloc ?_ _)); apply put11; (with_reducible repeat (first | refine blk_drewN ?_ _ | refine blk_drew ?_ | refine blk_alloc ?_ _)); exact BK122.out)) : gb124 ≠ gb122)); clear BK122; clear HB; have BK122 := n0_; have HB := n1_; have BK124 := n2_; have GW124 := n3_; have GE124 := n4_; have NB122_124 := n5_; have NB124_122 := n6_; clear n0_ n1_ n2_ n3_ n4_ n5_ n6_; clear hb hbox hg; have hnb21 := NB124_122.out; have hnc21 := NB122_124.out; obtain ⟨_, _, _, _, _, _, _, _, _, _, _, _, _, _, _, _, _, _, _, _, _, _⟩ := cells11 BK124.out; obtain ⟨_, _, _, _, _, _, _, _, _, _, _, _, _, _, _, _, _, _, _, _, _, _⟩ := cells11 BK122.out))
     all_goals first
      | (go_roundg k1
         case measure => have := HK1.out; omega
         case rel => exact ⟨(wrap64 (x17_1 + 1)), (by first | rfl | (simp; done) | (simp [*]; done) | (simp [*, bne]; done)), H', ⟨by have := HK1.out; omega⟩, ⟨by repeat (first | (with_reducible first | exact HB.out | apply below_alloc | apply pw_below_drewN | apply below_drew1 | refine below_set ?_ GE122.out | refine below_set ?_ GE124.out) | exact HB.out)⟩⟩)
      | (go_ret
         exact ⟨by first | rfl | (simp [errW_none, errW_some] <;> rfl) | (simp [*, errW_none, errW_some] <;> rfl), by repeat (first | (with_reducible first | exact HB.out | apply below_alloc | apply pw_below_drewN | apply below_drew1 | refine below_set ?_ GE122.out | refine below_set ?_ GE124.out) | exact HB.out)⟩)
 · rw [if_neg c4] at H
   have c4b0 : ((l0.length : Int) == (l1.length : Int)) = false := beq_eq_false_iff_ne.mpr c4
   have c4b1 : ((l0.length : Int) != (l1.length : Int)) = true := bne_iff_ne.mpr c4
   have c4b2 : (l0.length == l1.length) = false := by first | simpa using c4 | (simp at c4 ⊢; omega)
   obtain rfl := Option.some.inj H
   go_enter Try.func45, Try.ntmps45
   go_wp2
   go_ret
   exact ⟨by first | rfl | (simp [errW_none, errW_some] <;> rfl) | (simp [*, errW_none, errW_some] <;> rfl), by repeat (first | (with_reducible first | exact HB.out | apply below_alloc | apply pw_below_drewN | apply below_drew1) | exact HB.out)⟩


/-! ### il_Same: function 17 -/
def il_Same.f (k : Nat) (l0 : List (S81)) (l1 : List (S81)) : Option (Bool) := (api_IlInstr.f k l0 l1 true).bind fun t126 => (some t126)
theorem il_Same.mono : ∀ a0 a1 k, LeO (il_Same.f k a0 a1) (il_Same.f (k + 1) a0 a1) := by
 intro a0 a1 k
 unfold il_Same.f
 repeat' first
  | (with_reducible exact api_IlInstr.mono _ _ _ _)
  | (with_reducible exact LeO.refl _)
  | (with_reducible exact LeO.none _)
  | (with_reducible refine LeO.ite ?_ ?_)
  | (with_reducible refine LeO.bind ?_ (fun _ => ?_))
  | exact api_IlInstr.mono _ _ _ _
  | exact LeO.none _
  | refine LeO.ite ?_ ?_
  | refine LeO.bind ?_ (fun _ => ?_)
set_option maxHeartbeats 8000000 in
set_option maxRecDepth 100000 in
theorem il_Same.calls (k : Nat) (A0 : Option Addr) (c0 : Nat) (l0 : List (S81)) (A1 : Option Addr) (c1 : Nat) (l1 : List (S81)) (r : Bool) (w : World) (hr0 : Kd.C k81 w A0 l0.length l0) (hc0 : l0.length ≤ c0) (hr1 : Kd.C k81 w A1 l1.length l1) (hc1 : l1.length ≤ c1) (h : il_Same.f k l0 l1 = some r) :
 Calls Try.prog 17 #[.slice A0 l0.length c0, .slice A1 l1.length c1] w fun e w' => e = .returned (.bool r) ∧ Below w.heap.size w w' := by
 have HR0 := Aside0.mk hr0
 have HC0 := Aside0.mk hc0
 clear hr0 hc0
 have HR1 := Aside0.mk hr1
 have HC1 := Aside0.mk hc1
 clear hr1 hc1
 have HB := Aside0.mk (Below.refl w.heap.size w)
 have H : ((api_IlInstr.f k l0 l1 true).bind fun t126 => (some t126)) = some r := h
 clear h
 replace H := Option.bind_eq_some_iff.mp H
 obtain ⟨t126, A30, H⟩ := H
 replace H : (some t126) = some r := H
 have A3 := Aside0.mk A30
 clear A30
 obtain rfl := Option.some.inj H
 go_enter Try.func17, Try.ntmps17
 go_wp2_with (first | ((with_reducible refine gate_callee (f := 45) rfl ?_); refine goesL_ (some 7) rfl rfl Try.func45 (by kernel_rfl) rfl #[.slice A0 l0.length c0, .slice A1 l1.length c1, .func (.func 46) #[] #[]] rfl (by (try simp only [List.map_toArray, List.map_cons, List.map_nil]); first | done | rfl | (simp only [List.length_drop, List.length_take]; rfl)) ?_; (with_reducible refine (api_IlInstr.calls k _ _ l0 _ _ l1 true t126 _ ?side1 ?side2 ?side3 ?side4 A3.out).mono ?_); (case side1 => repeat (first | exact HR0.out | (with_reducible refine Kd.C_alloc ?_ _) | (with_reducible refine Kd.C_drewN ?_ _) | (with_reducible refine Kd.C_drew ?_))); (case side2 => exact HC0.out); (case side3 => repeat (first | exact HR1.out | (with_reducible refine Kd.C_alloc ?_ _) | (with_reducible refine Kd.C_drewN ?_ _) | (with_reducible refine Kd.C_drew ?_))); (case side4 => exact HC1.out); rintro e w4 ⟨rfl, hb⟩; refine ⟨_, rfl, ?_⟩; have n0_ := Aside0.mk (below_step (by repeat (first | (with_reducible first | exact HB.out | apply below_alloc | apply pw_below_drewN | apply below_drew1) | exact HB.out)) hb); clear HB; have HB := n0_; clear n0_; (try clear hb); (try clear hb2); (try clear hk); (try clear hi)))
 go_ret
 exact ⟨by first | rfl | (simp [errW_none, errW_some] <;> rfl) | (simp [*, errW_none, errW_some] <;> rfl), by repeat (first | (with_reducible first | exact HB.out | apply below_alloc | apply pw_below_drewN | apply below_drew1) | exact HB.out)⟩

/-! ### relayref06_names: function 56 -/
/-- names: as many as there are arguments. -/
def relayref06_names.f (l7 : List S65) (l8 : List ByteArray) : Option (List ByteArray) := if l7.length * 16 ≤ 140737488355328 ∧ l8.length * 16 ≤ 140737488355328 then some (l8 ++ List.replicate (l7.length - l8.length) ⟨#[]⟩) else none
set_option maxHeartbeats 2000000 in
set_option maxRecDepth 100000 in
theorem relayref06_names.calls (a0 : Int) (a1 a2 : ByteArray) (a3 a4 a5 : Bool) (a6 : ByteArray) (A7 : Option Addr) (c7 : Nat) (l7 : List (S65)) (A8 : Option Addr) (c8 : Nat) (l8 : List ByteArray) (A9 : Option Addr) (c9 : Nat) (l9 : List (S65)) (A10 : Option Addr) (c10 : Nat) (l10 : List ByteArray) (r : List ByteArray) (w : World) (hr8 : Kd.C Kd.string w A8 l8.length l8) (hc8 : l8.length ≤ c8) (h : relayref06_names.f l7 l8 = some r) :
 Calls Try.prog 56 #[.agg #[.int .i64 a0, .string a1, .string a2, .bool a3, .bool a4, .bool a5, .string a6, .slice A7 l7.length c7, .slice A8 l8.length c8, .slice A9 l9.length c9, .slice A10 l10.length c10]] w fun e w' => ∃ v0_ : Value, e = .returned v0_ ∧ Kd.R Kd.string 9 w' w.heap.size (fun _ => True) v0_ r ∧ Below w.heap.size w w' := by
 have hu81 := Try.underlying81
 have infoE : (Try.prog.info? 9).map (fun i => (i.zero, i.size, i.bytes)) = some (some (.string ⟨#[]⟩), Kd.sz Kd.string, 16) := by kernel_rfl
 have hb : (l7.length * 16 ≤ 140737488355328 ∧ l8.length * 16 ≤ 140737488355328) ∧ r = l8 ++ List.replicate (l7.length - l8.length) ⟨#[]⟩ := by
  unfold relayref06_names.f at h
  split at h
  · exact ⟨‹_›, (Option.some.inj h).symm⟩
  · cases h
 obtain ⟨hb, rfl⟩ := hb
 clear h
 have HL := Aside0.mk hb
 clear hb
 have HR8 := Aside0.mk hr8
 have HC8 := Aside0.mk hc8
 clear hr8 hc8
 have HB := Aside0.mk (Below.refl w.heap.size w)
 go_enter Try.func56, Try.ntmps56
 go_wp2_with (first | ((with_reducible refine gate_dst (N := 1) rfl ?_); refine box_event ?hg (N := 1) ?hd (cs := #[.int .i64 a0, .string a1, .string a2, .bool a3, .bool a4, .bool a5, .string a6, .slice A7 l7.length c7, .slice A8 l8.length c8, .slice A9 l9.length c9, .slice A10 l10.length c10]) (t := 81) ?hr ?_; (case hd => rfl); (case hg => rfl); (case hr => first | (go_simp; done) | (go_simp; rfl)); intro gb hg w4 hbox hb; have n0_ := Aside0.mk (below_step (by repeat (first | (with_reducible first | exact HB.out | apply below_alloc | apply pw_below_drewN | apply below_drew1) | exact HB.out)) hb); have GE := Aside0.mk ((by rw [hg]; exact below_size (by repeat (first | (with_reducible first | exact HB.out | apply below_alloc | apply pw_below_drewN | apply below_drew1) | exact HB.out))) : w.heap.size ≤ gb); have BK := Aside0.mk hbox; clear HB; have HB := n0_; clear n0_ hb hbox hg; obtain ⟨_, _, _, _, _, _, _, _, _, _, _, _, _, _, _, _, _, _, _, _, _, _⟩ := cells11 BK.out) | ((with_reducible refine gate_builtin (b := .append) (xs := #[.const (.slice none 0 0), .tmp 5]) rfl ?_); at_builtin; refine Kd.R_append_rows Kd.string (w0 := w) w.heap.size rfl (.const (.slice none 0 0)) (.tmp 5) 43 9 (.string ⟨#[]⟩) 16 rfl Try.underlying43 infoE rfl (by decide) (by omega) (.slice none 0 0) [] l8 _ _ _ (fun k => k ≠ gb) (fun _ => False) rfl rfl (Kd.R_nil _ _ _ _ _) (Kd.C_below HR8.out HB.out) (fun _ _ h => h) (fun _ h => h.elim) (fun k hk => Kd.freshB BK.out k hk) HB.out (below_size HB.out) (by have := HL.out; simp only [List.length_nil]; omega) ?_; intro v6 w6 hr hb2 hg hat; have n0_ := Aside0.mk (blk_grown BK.out hg (by simp [Value.ownBlock])); have n1_ := Aside0.mk hb2; have HO := Aside0.mk hr; clear BK HB; have BK := n0_; have HB := n1_; clear n0_ n1_ hr hb2 hg hat))
 go_loopg [3] (l7.length + 1) (fun kq v3 w' => ∃ (xs : List ByteArray) (j : Nat), Aside0 (xs = l8 ++ List.replicate j ⟨#[]⟩ ∧ (j = 0 ∨ l8.length + j ≤ l7.length) ∧ j + kq = l7.length + 1) ∧ Aside0 (Kd.R Kd.string 9 w' w.heap.size (fun k => k ≠ gb) v3 xs) ∧ Aside0 (w'.heap[gb]? = some (.cells #[.int .i64 a0, .string a1, .string a2, .bool a3, .bool a4, .bool a5, .string a6, .slice A7 l7.length c7, .slice A8 l8.length c8, .slice A9 l9.length c9, .slice A10 l10.length c10] 81 (0, 0))) ∧ Aside0 (Below w.heap.size w w'))
 case atStart => exact ⟨l8, 0, ⟨by simp, .inl rfl, by omega⟩, ⟨by simpa using HO.out⟩, ⟨BK.out⟩, ⟨HB.out⟩⟩
 case round =>
  clear BK HB HO
  obtain ⟨xs, j, hi, HO, BK, HB⟩ := hrel
  obtain ⟨A3, c3, e3⟩ := Kd.R_slice HO.out
  subst e3
  obtain ⟨_, _, _, _, _, _, _, _, _, _, _, _, _, _, _, _, _, _, _, _, _, _⟩ := cells11 BK.out
  by_cases c2 : (xs.length : Int) < (l7.length : Int)
  · have c2b0 : decide ((xs.length : Int) < (l7.length : Int)) = true := decide_eq_true c2
    have LT := Aside0.mk (show xs.length < l7.length by omega)
    have c2b1 : (xs.length < l7.length) = True := eq_true LT.out
    clear c2
    go_wp2_with (first | ((with_reducible refine gate_builtin (b := .append) (xs := #[.tmp 13, .tmp 14]) rfl ?_); at_builtin; refine Kd.R_append Kd.string (w0 := w) w.heap.size rfl (.tmp 13) (.tmp 14) 43 9 (.string ⟨#[]⟩) 16 rfl Try.underlying43 infoE rfl (by decide) (by omega) (.slice A3 xs.length c3) xs ⟨#[]⟩ [.string ⟨#[]⟩] (fun k => k ≠ gb) (fun _ => False) rfl rfl rfl (fun _ h => h.elim) (fun k hk => Kd.freshB BK.out k hk) HO.out HB.out (below_size HB.out) (by have := HL.out; have := LT.out; omega) ?_; intro v15 w15 hr hb2 hg hat; have n0_ := Aside0.mk (blk_grown BK.out hg (Kd.R_away HO.out (fun _ h => h))); have n1_ := Aside0.mk hb2; have n2_ := Aside0.mk hr; clear BK HB HO; have BK := n0_; have HB := n1_; have HO := n2_; clear n0_ n1_ n2_ hr hb2 hg hat))
    have hx := hi.out
    have lt := LT.out
    have hlen : xs.length = l8.length + j := by rw [hx.1]; simp
    go_roundg (gk - 1)
    case measure => omega
    case rel =>
     refine ⟨xs ++ [⟨#[]⟩], j + 1, ⟨?_, by omega, by omega⟩, ⟨HO.out⟩, ⟨BK.out⟩, ⟨HB.out⟩⟩
     rw [hx.1, List.append_assoc, List.replicate_succ']
  · have c2b0 : decide ((xs.length : Int) < (l7.length : Int)) = false := decide_eq_false c2
    have c2b1 : (xs.length < l7.length) = False := eq_false (by omega)
    go_wp2
    go_ret
    have hx := hi.out
    have hlen : xs.length = l8.length + j := by rw [hx.1]; simp
    obtain rfl : j = l7.length - l8.length := by omega
    exact ⟨_, rfl, by rw [← hx.1]; exact Kd.R_mono HO.out (fun _ _ => trivial), HB.out⟩

/-! ### relayref06_statement: function 48 -/
/-- A struct's value: its cells read as a statement. -/
def V46 (w : World) (v : Value) (x : S46) : Prop := ∃ cs : List Value, v = .agg cs.toArray ∧ k46.K w x cs
def callOf (a6 : ByteArray) (l7 : List S65) (n : List ByteArray) (l9 : List S65) (l10 : List ByteArray) : S46 := ⟨10, 0, a6, 0, l7, n, l9, l10, [], [], [], 0, 0, 0⟩
def relayref06_statement.f (a6 : ByteArray) (l7 : List S65) (l8 : List ByteArray) (l9 : List S65) (l10 : List ByteArray) : Option S46 := (relayref06_names.f l7 l8).bind fun n => some (callOf a6 l7 n l9 l10)
def relayref06_statement.T1 : Bool × List (List Nat × List Nat) := (true, [([], []), ([0], [0]), ([], []), ([2], [2]), ([], []), ([4], [4]), ([], []), ([6], [6]), ([], []), ([8], [8]), ([1, 3, 5, 7, 9], [1, 3, 5, 7, 9]), ([10, 5, 0, 1, 2, 3, 4, 5, 6, 7, 8, 9, 10], [10])])
def relayref06_statement.B1 : List Nat := [0, 1, 0, 4, 0, 16, 0, 64, 0, 256, 1023, 2047]
theorem relayref06_statement.tab1 : rtab .any (opsOf Try.f48 1) = relayref06_statement.T1 := by kernel_rfl
theorem relayref06_statement.bits1 : waitsOk relayref06_statement.T1.2 relayref06_statement.B1 = true := by kernel_rfl
set_option maxHeartbeats 4000000 in
set_option maxRecDepth 100000 in
theorem relayref06_statement.calls (a0 : Int) (a1 a2 : ByteArray) (a3 a4 a5 : Bool) (a6 : ByteArray) (A7 : Option Addr) (c7 : Nat) (l7 : List (S65)) (A8 : Option Addr) (c8 : Nat) (l8 : List ByteArray) (A9 : Option Addr) (c9 : Nat) (l9 : List (S65)) (A10 : Option Addr) (c10 : Nat) (l10 : List ByteArray) (r : S46) (w : World) (hr7 : Kd.C k65 w A7 l7.length l7) (hc7 : l7.length ≤ c7) (hr8 : Kd.C Kd.string w A8 l8.length l8) (hc8 : l8.length ≤ c8) (hr9 : Kd.C k65 w A9 l9.length l9) (hc9 : l9.length ≤ c9) (hr10 : Kd.C Kd.string w A10 l10.length l10) (hc10 : l10.length ≤ c10) (h : relayref06_statement.f a6 l7 l8 l9 l10 = some r) :
 Calls Try.prog 48 #[.agg #[.int .i64 a0, .string a1, .string a2, .bool a3, .bool a4, .bool a5, .string a6, .slice A7 l7.length c7, .slice A8 l8.length c8, .slice A9 l9.length c9, .slice A10 l10.length c10]] w fun e w' => ∃ v0_ : Value, e = .returned v0_ ∧ V46 w' v0_ r ∧ Below w.heap.size w w' := by
 have hu81 := Try.underlying81
 have hu46 := Try.underlying46
 obtain ⟨t, A20, H⟩ := Option.bind_eq_some_iff.mp h
 obtain rfl := Option.some.inj H
 have A2 := Aside0.mk A20
 clear h H A20
 have R7 := Aside0.mk hr7
 have R8 := Aside0.mk hr8
 have R9 := Aside0.mk hr9
 have R10 := Aside0.mk hr10
 have C7 := Aside0.mk hc7
 have C8 := Aside0.mk hc8
 have C9 := Aside0.mk hc9
 have C10 := Aside0.mk hc10
 clear hr7 hr8 hr9 hr10 hc7 hc8 hc9 hc10
 have HB := Aside0.mk (Below.refl w.heap.size w)
 go_enter Try.func48, Try.ntmps48
 go_wp2_with (first | ((with_reducible refine gate_dst (N := 1) rfl ?_); refine box_event ?hg (N := 1) ?hd (cs := #[.int .i64 a0, .string a1, .string a2, .bool a3, .bool a4, .bool a5, .string a6, .slice A7 l7.length c7, .slice A8 l8.length c8, .slice A9 l9.length c9, .slice A10 l10.length c10]) (t := 81) ?hr ?_; (case hd => rfl); (case hg => rfl); (case hr => first | (go_simp; done) | (go_simp; rfl)); intro g1 hg w4 hbox hb; have n0_ := Aside0.mk (below_step (by repeat (first | (with_reducible first | exact HB.out | apply below_alloc | apply pw_below_drewN | apply below_drew1) | exact HB.out)) hb); have G1 := Aside0.mk ((by rw [hg]; exact below_size (by repeat (first | (with_reducible first | exact HB.out | apply below_alloc | apply pw_below_drewN | apply below_drew1) | exact HB.out))) : w.heap.size ≤ g1); have B1 := Aside0.mk hbox; clear HB; have HB := n0_; clear n0_ hb hbox hg) | ((with_reducible refine gate_dst (N := 2) rfl ?_); refine box_event ?hg (N := 2) ?hd (cs := #[.int .i64 0, .int .i64 0, .string (⟨#[]⟩ : ByteArray), .int .i64 0, .slice none 0 0, .slice none 0 0, .slice none 0 0, .slice none 0 0, .slice none 0 0, .slice none 0 0, .slice none 0 0, .int .u8 0, .int .i64 0, .int .i64 0]) (t := 46) ?hr ?_; (case hd => rfl); (case hg => rfl); (case hr => first | (go_simp; done) | (go_simp; rfl)); intro g2 hg w5 hbox hb; have n0_ := Aside0.mk (below_step (by repeat (first | (with_reducible first | exact HB.out | apply below_alloc | apply pw_below_drewN | apply below_drew1) | exact HB.out)) hb); have n1_ := Aside0.mk (blk_below B1.out hb); have G2 := Aside0.mk ((by rw [hg]; exact below_size (by repeat (first | (with_reducible first | exact HB.out | apply below_alloc | apply pw_below_drewN | apply below_drew1) | exact HB.out))) : w.heap.size ≤ g2); have B2 := Aside0.mk hbox; clear HB B1; have HB := n0_; have B1 := n1_; clear n0_ n1_ hb hbox hg))
 have NE := Aside0.mk (blk_ne B1.out B2.out (by decide))
 have n0_ := Aside0.mk (blk_drew B1.out)
 have n1_ := Aside0.mk (blk_drew B2.out)
 have n2_ := Aside0.mk (below_drew1 HB.out)
 clear B1 B2 HB
 have B1 := n0_
 have B2 := n1_
 have HB := n2_
 clear n0_ n1_ n2_
 refine start_ (n := 12) (S := fun w' => w'.heap[g1]? = some (.cells #[.int .i64 a0, .string a1, .string a2, .bool a3, .bool a4, .bool a5, .string a6, .slice A7 l7.length c7, .slice A8 l8.length c8, .slice A9 l9.length c9, .slice A10 l10.length c10] 81 (0, 0))) (ds := []) #[false, false, false, false, false, false, false, false, false, false, false, false] (by kernel_rfl) rfl rfl B1.out (fun hHeld => ?_)
 refine with_tabW relayref06_statement.tab1 relayref06_statement.bits1 (fun HT_ HW_ => ?_)
 clear hHeld
 generalize w5.drew = w6 at B1 B2 HB ⊢
 refine pure_ (i := 0) (N := some 3) (v := ?_) (a' := ?_) #[true, false, false, false, false, false, false, false, false, false, false, false] rfl rfl (any_of HT_.out (by kernel_rfl)) (fun _ _ _ h => h) (Or.inl ⟨by rfl, ?_⟩) ?_ ?_
 rotate_left
 · intro w'
   go_simp
   with_reducible rfl
 rotate_left
 · simp only [Act.put, List.setIfInBounds_toArray, List.set_cons_zero, List.set_cons_succ, i64_w, i32_w]
   rfl
 refine pure_ (i := 2) (N := some 5) (v := ?_) (a' := ?_) #[true, false, true, false, false, false, false, false, false, false, false, false] rfl rfl (any_of HT_.out (by kernel_rfl)) (fun _ _ _ h => h) (Or.inl ⟨by rfl, ?_⟩) ?_ ?_
 rotate_left
 · intro w'
   go_simp
   with_reducible rfl
 rotate_left
 · simp only [Act.put, List.setIfInBounds_toArray, List.set_cons_zero, List.set_cons_succ, i64_w, i32_w]
   rfl
 refine pure_ (i := 6) (N := some 9) (v := ?_) (a' := ?_) #[true, false, true, false, false, false, true, false, false, false, false, false] rfl rfl (any_of HT_.out (by kernel_rfl)) (fun _ _ _ h => h) (Or.inl ⟨by rfl, ?_⟩) ?_ ?_
 rotate_left
 · intro w'
   go_simp
   with_reducible rfl
 rotate_left
 · simp only [Act.put, List.setIfInBounds_toArray, List.set_cons_zero, List.set_cons_succ, i64_w, i32_w]
   rfl
 refine pure_ (i := 8) (N := some 11) (v := ?_) (a' := ?_) #[true, false, true, false, false, false, true, false, true, false, false, false] rfl rfl (any_of HT_.out (by kernel_rfl)) (fun _ _ _ h => h) (Or.inl ⟨by rfl, ?_⟩) ?_ ?_
 rotate_left
 · intro w'
   go_simp
   with_reducible rfl
 rotate_left
 · simp only [Act.put, List.setIfInBounds_toArray, List.set_cons_zero, List.set_cons_succ, i64_w, i32_w]
   rfl
 refine take_ (i := 1) (N := some 4) (v := ?_) (a' := ?_) #[true, true, true, false, false, false, true, false, true, false, false, false] rfl rfl (take_ofW HT_.out HW_.out (by kernel_rfl)) (fun _ _ _ h => h) (Or.inl ⟨by rfl, ?_⟩) B1.out ?_ ?_
 rotate_left
 · intro w' hS
   obtain ⟨_, _, _, _, _, _, _, _, _, _, _, _, _, _, _, _, _, _, _, _, _, _⟩ := cells11 hS
   go_simp
   with_reducible rfl
 rotate_left
 · simp only [Act.put, List.setIfInBounds_toArray, List.set_cons_zero, List.set_cons_succ, i64_w, i32_w]
   rfl
 refine take_ (i := 3) (N := some 6) (v := ?_) (a' := ?_) #[true, true, true, true, false, false, true, false, true, false, false, false] rfl rfl (take_ofW HT_.out HW_.out (by kernel_rfl)) (fun _ _ _ h => h) (Or.inl ⟨by rfl, ?_⟩) B1.out ?_ ?_
 rotate_left
 · intro w' hS
   obtain ⟨_, _, _, _, _, _, _, _, _, _, _, _, _, _, _, _, _, _, _, _, _, _⟩ := cells11 hS
   go_simp
   with_reducible rfl
 rotate_left
 · simp only [Act.put, List.setIfInBounds_toArray, List.set_cons_zero, List.set_cons_succ, i64_w, i32_w]
   rfl
 refine take_ (i := 4) (N := some 7) (v := ?_) (a' := ?_) #[true, true, true, true, true, false, true, false, true, false, false, false] rfl rfl (take_ofW HT_.out HW_.out (by kernel_rfl)) (fun _ _ _ h => h) (Or.inl ⟨by rfl, ?_⟩) B1.out ?_ ?_
 rotate_left
 · intro w' hS
   obtain ⟨_, _, _, _, _, _, _, _, _, _, _, _, _, _, _, _, _, _, _, _, _, _⟩ := cells11 hS
   go_simp
   with_reducible rfl
 rotate_left
 · simp only [Act.put, List.setIfInBounds_toArray, List.set_cons_zero, List.set_cons_succ, i64_w, i32_w]
   rfl
 refine take_ (i := 7) (N := some 10) (v := ?_) (a' := ?_) #[true, true, true, true, true, false, true, true, true, false, false, false] rfl rfl (take_ofW HT_.out HW_.out (by kernel_rfl)) (fun _ _ _ h => h) (Or.inl ⟨by rfl, ?_⟩) B1.out ?_ ?_
 rotate_left
 · intro w' hS
   obtain ⟨_, _, _, _, _, _, _, _, _, _, _, _, _, _, _, _, _, _, _, _, _, _⟩ := cells11 hS
   go_simp
   with_reducible rfl
 rotate_left
 · simp only [Act.put, List.setIfInBounds_toArray, List.set_cons_zero, List.set_cons_succ, i64_w, i32_w]
   rfl
 refine take_ (i := 9) (N := some 12) (v := ?_) (a' := ?_) #[true, true, true, true, true, false, true, true, true, true, false, false] rfl rfl (take_ofW HT_.out HW_.out (by kernel_rfl)) (fun _ _ _ h => h) (Or.inl ⟨by rfl, ?_⟩) B1.out ?_ ?_
 rotate_left
 · intro w' hS
   obtain ⟨_, _, _, _, _, _, _, _, _, _, _, _, _, _, _, _, _, _, _, _, _, _⟩ := cells11 hS
   go_simp
   with_reducible rfl
 rotate_left
 · simp only [Act.put, List.setIfInBounds_toArray, List.set_cons_zero, List.set_cons_succ, i64_w, i32_w]
   rfl
 refine one_ (i := 5) (N := some 8) #[true, true, true, true, true, true, true, true, true, true, false, false] rfl rfl (one_of HT_.out (by kernel_rfl)) (by decide) (fun K hK => ?_)
 refine goes_ Try.func56 (by kernel_rfl) rfl #[.agg #[.int .i64 a0, .string a1, .string a2, .bool a3, .bool a4, .bool a5, .string a6, .slice A7 l7.length c7, .slice A8 l8.length c8, .slice A9 l9.length c9, .slice A10 l10.length c10]] (by rfl) rfl rfl (by (try simp only [List.map_toArray, List.map_cons, List.map_nil]); first | done | rfl) ?_
 refine (relayref06_names.calls a0 a1 a2 a3 a4 a5 a6 _ _ l7 _ _ l8 _ _ l9 _ _ l10 t _ (Kd.C_below R8.out HB.out) C8.out A2.out).mono ?_
 rintro e w7 ⟨v125, rfl, ho0, hb⟩
 refine ⟨_, rfl, ?_⟩
 have HO := Aside0.mk (Kd.R_newB ho0 B2.out)
 clear ho0
 obtain ⟨Ao8, co8, e8⟩ := Kd.R_slice HO.out
 subst e8
 have n0_ := Aside0.mk (blk_below B1.out hb)
 have n1_ := Aside0.mk (blk_below B2.out hb)
 have n2_ := Aside0.mk (below_step HB.out hb)
 clear B1 B2 HB hb
 have B1 := n0_
 have B2 := n1_
 have HB := n2_
 clear n0_ n1_ n2_
 refine hK.out _ _ B1.out (fun hHeld => ?_)
 clear hK K hHeld
 refine norm_ (a' := ?_) ?_ ?_
 rotate_left
 · show Act.put _ (some 8) _ = _
   simp only [Act.put, List.setIfInBounds_toArray, List.set_cons_zero, List.set_cons_succ, i64_w, i32_w]
   rfl
 refine pure_ (i := 10) (N := some 13) (v := ?_) (a' := ?_) #[true, true, true, true, true, true, true, true, true, true, true, false] rfl rfl (any_of HT_.out (by kernel_rfl)) (fun _ _ _ h => h) (Or.inl ⟨by rfl, ?_⟩) ?_ ?_
 rotate_left
 · intro w'
   go_simp
   with_reducible rfl
 rotate_left
 · simp only [Act.put, List.setIfInBounds_toArray, List.set_cons_zero, List.set_cons_succ, i64_w, i32_w]
   rfl
 refine one_ (i := 11) (N := none) #[true, true, true, true, true, true, true, true, true, true, true, true] rfl rfl (one_of HT_.out (by kernel_rfl)) (by decide) (fun K hK => ?_)
 obtain ⟨_, _, _, _, _, _, _, _, _, _, _, _, _, _, _, _, _, _, _, _, _, _, _, _, _, _, _, _⟩ := cells14 B2.out
 refine skip_ (w1 := ?_) (by rfl) rfl ?_ ?_
 rotate_left
 · go_simp
   rfl
 have n1_ := Aside0.mk (put14 (v0 := .int .i64 10) (v1 := .int .i64 0) (v2 := .string a6) (v3 := .int .i64 0) (v4 := .slice A7 l7.length c7) (v5 := .slice Ao8 t.length co8) (v6 := .slice A9 l9.length c9) (v7 := .slice A10 l10.length c10) (v8 := .slice none 0 0) (v9 := .slice none 0 0) (v10 := .slice none 0 0) (v11 := .int .u8 0) (v12 := .int .i64 0) (v13 := .int .i64 0) B2.out)
 have n2_ := Aside0.mk (below_set14 (v0 := .int .i64 10) (v1 := .int .i64 0) (v2 := .string a6) (v3 := .int .i64 0) (v4 := .slice A7 l7.length c7) (v5 := .slice Ao8 t.length co8) (v6 := .slice A9 l9.length c9) (v7 := .slice A10 l10.length c10) (v8 := .slice none 0 0) (v9 := .slice none 0 0) (v10 := .slice none 0 0) (v11 := .int .u8 0) (v12 := .int .i64 0) (v13 := .int .i64 0) HB.out G2.out)
 refine hK.out _ _ (blk_far14 B1.out NE.out) (fun hHeld => ?_)
 clear hK K hHeld
 refine done_ (done_of HT_.out (by kernel_rfl)) ?_
 try go_wp2
 refine bodyPost_ret (results_cell_row rfl _ _ g2 46 #[.int .i64 10, .int .i64 0, .string a6, .int .i64 0, .slice A7 l7.length c7, .slice Ao8 t.length co8, .slice A9 l9.length c9, .slice A10 l10.length c10, .slice none 0 0, .slice none 0 0, .slice none 0 0, .int .u8 0, .int .i64 0, .int .i64 0] (0, 0) _ rfl n1_.out Try.underlying46 rfl (by kernel_rfl)) rfl ?_
 have hn := Kd.R_reads' (R_far14 (v0 := .int .i64 10) (v1 := .int .i64 0) (v2 := .string a6) (v3 := .int .i64 0) (v4 := .slice A7 l7.length c7) (v5 := .slice Ao8 t.length co8) (v6 := .slice A9 l9.length c9) (v7 := .slice A10 l10.length c10) (v8 := .slice none 0 0) (v9 := .slice none 0 0) (v10 := .slice none 0 0) (v11 := .int .u8 0) (v12 := .int .i64 0) (v13 := .int .i64 0) HO.out (fun _ h => h.2))
 have hk := k46_mk _ (callOf a6 l7 t l9 l10) C7.out (Kd.C_below R7.out n2_.out) hn.2.1 hn.2.2 C9.out (Kd.C_below R9.out n2_.out) C10.out (Kd.C_below R10.out n2_.out) (Nat.le_refl _) (Kd.C_nil _ _) (Nat.le_refl _) (Kd.C_nil _ _) (Nat.le_refl _) (Kd.C_nil _ _)
 exact ⟨_, rfl, ⟨_, rfl, hk⟩, n2_.out⟩

end Go.Proofs.Ytmdkbhbconnmmaa.XIl
