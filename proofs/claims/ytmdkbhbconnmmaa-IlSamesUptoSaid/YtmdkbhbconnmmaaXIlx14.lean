-- WRITTEN BY wip/tools/xprint.py out of the translation: the kit's print with this work's hooks.
import Derived.Test.YtmdkbhbconnmmaaXIlx0
import Derived.Test.YtmdkbhbconnmmaaXIlx4
import Derived.Test.YtmdkbhbconnmmaaXIlx9
import Derived.Test.YtmdkbhbconnmmaaXIlx13
namespace Go.Proofs.Ytmdkbhbconnmmaa.XIl
open Go.RowKit Go.Proofs.YtmdkbhbconnmmaaW.PrintWords Go.Proofs.YtmdkbhbconnmmaaW.PrintLast Go.Proofs.YtmdkbhbconnmmaaW.PrintMore
attribute [local go_sem] max2_int min2_int max_two min_two max_three min_three max_four min_four   -- for this text's walks alone
set_option linter.unusedVariables false
set_option linter.unusedSimpArgs false

/-! ### relayref06_Same: function 18 -/
theorem blk_far11 {w : World} {g g' : Nat} {t : TypeId} {cs : Array Value} {v0 v1 v2 v3 v4 v5 v6 v7 v8 v9 v10 : Value} (h : w.heap[g']? = some (.cells cs t (0, 0))) (hn : g' ≠ g) : (((((((((((w.setCell ⟨g, 0, none⟩ v0).setCell ⟨g, 1, none⟩ v1).setCell ⟨g, 2, none⟩ v2).setCell ⟨g, 3, none⟩ v3).setCell ⟨g, 4, none⟩ v4).setCell ⟨g, 5, none⟩ v5).setCell ⟨g, 6, none⟩ v6).setCell ⟨g, 7, none⟩ v7).setCell ⟨g, 8, none⟩ v8).setCell ⟨g, 9, none⟩ v9).setCell ⟨g, 10, none⟩ v10).heap[g']? = some (.cells cs t (0, 0)) := (blk_far (p := ⟨g, 10, none⟩) (blk_far (p := ⟨g, 9, none⟩) (blk_far (p := ⟨g, 8, none⟩) (blk_far (p := ⟨g, 7, none⟩) (blk_far (p := ⟨g, 6, none⟩) (blk_far (p := ⟨g, 5, none⟩) (blk_far (p := ⟨g, 4, none⟩) (blk_far (p := ⟨g, 3, none⟩) (blk_far (p := ⟨g, 2, none⟩) (blk_far (p := ⟨g, 1, none⟩) (blk_far (p := ⟨g, 0, none⟩) h hn v0) hn v1) hn v2) hn v3) hn v4) hn v5) hn v6) hn v7) hn v8) hn v9) hn v10)
theorem below_set11 {w0 w : World} {g : Nat} {v0 v1 v2 v3 v4 v5 v6 v7 v8 v9 v10 : Value} (h : Below w0.heap.size w0 w) (hg : w0.heap.size ≤ g) : Below w0.heap.size w0 (((((((((((w.setCell ⟨g, 0, none⟩ v0).setCell ⟨g, 1, none⟩ v1).setCell ⟨g, 2, none⟩ v2).setCell ⟨g, 3, none⟩ v3).setCell ⟨g, 4, none⟩ v4).setCell ⟨g, 5, none⟩ v5).setCell ⟨g, 6, none⟩ v6).setCell ⟨g, 7, none⟩ v7).setCell ⟨g, 8, none⟩ v8).setCell ⟨g, 9, none⟩ v9).setCell ⟨g, 10, none⟩ v10) := (below_set (below_set (below_set (below_set (below_set (below_set (below_set (below_set (below_set (below_set (below_set h hg) hg) hg) hg) hg) hg) hg) hg) hg) hg) hg)
/-- A struct of 11 cells has been stored into a block: the world is any that has it. -/
theorem world11 {F : World → Prop} {w0 w : World} {g : Nat} {t : TypeId} {z0 z1 z2 z3 z4 z5 z6 z7 z8 z9 z10 v0 v1 v2 v3 v4 v5 v6 v7 v8 v9 v10 : Value} (B : w.heap[g]? = some (.cells #[z0, z1, z2, z3, z4, z5, z6, z7, z8, z9, z10] t (0, 0))) (hB : Below w0.heap.size w0 w) (hg : w0.heap.size ≤ g) (h : ∀ W, W.heap[g]? = some (.cells #[v0, v1, v2, v3, v4, v5, v6, v7, v8, v9, v10] t (0, 0)) → Below w0.heap.size w0 W → (∀ g' t' cs, w.heap[g']? = some (.cells cs t' (0, 0)) → g' ≠ g → W.heap[g']? = some (.cells cs t' (0, 0))) → F W) : F (((((((((((w.setCell ⟨g, 0, none⟩ v0).setCell ⟨g, 1, none⟩ v1).setCell ⟨g, 2, none⟩ v2).setCell ⟨g, 3, none⟩ v3).setCell ⟨g, 4, none⟩ v4).setCell ⟨g, 5, none⟩ v5).setCell ⟨g, 6, none⟩ v6).setCell ⟨g, 7, none⟩ v7).setCell ⟨g, 8, none⟩ v8).setCell ⟨g, 9, none⟩ v9).setCell ⟨g, 10, none⟩ v10) := h _ (put11 B) (below_set11 hB hg) (fun _ _ _ hb hn => blk_far11 hb hn)
/-- Two instructions that differ, their expressions aside. -/
def insDf (x y : S81) : Bool := (x.f1.toList != y.f1.toList) || (x.f2.toList != y.f2.toList) || (x.f3 != y.f3) || (x.f4 != y.f4) || (x.f5 != y.f5) || (x.f6.toList != y.f6.toList) || (x.f8.length != y.f8.length)
theorem drop81 {l : List S81} {i : Int} (h0 : 0 ≤ i) (h1 : i < l.length) : l.drop i.toNat = rd_T81 l i :: l.drop (i + 1).toNat := by
 have hlt : i.toNat < l.length := by omega
 have e : (i + 1).toNat = i.toNat + 1 := by omega
 rw [List.drop_eq_getElem_cons hlt, e]
 simp [rd_T81, hlt]
def relayref06_Same.go (k : Nat) : List S81 → List S81 → Option Bool
 | x :: xs, y :: ys => if insDf x y = true then some false else (relayref06_statement.f x.f6 x.f7 x.f8 x.f9 x.f10).bind fun s => (relayref06_statement.f y.f6 y.f7 y.f8 y.f9 y.f10).bind fun t => (relayref05_Same.f k [s] [t]).bind fun u => if u = true then relayref06_Same.go k xs ys else some false
 | _, _ => some true
def relayref06_Same.f (k : Nat) (l0 : List S81) (l1 : List S81) : Option Bool := if l0.length = l1.length then relayref06_Same.go k l0 l1 else some false
theorem relayref06_Same.mono_l : ∀ (a0 a1 : List S81) (k : Nat), LeO (relayref06_Same.go k a0 a1) (relayref06_Same.go (k + 1) a0 a1)
 | x :: xs, y :: ys, k => by
  simp only [relayref06_Same.go]
  refine LeO.ite (LeO.refl _) (LeO.bind (LeO.refl _) (fun _ => LeO.bind (LeO.refl _) (fun _ => LeO.bind (relayref05_Same.mono _ _ _) (fun _ => LeO.ite (relayref06_Same.mono_l xs ys k) (LeO.refl _)))))
 | [], _, k => by simp only [relayref06_Same.go]; exact LeO.refl _
 | _ :: _, [], k => by simp only [relayref06_Same.go]; exact LeO.refl _
theorem relayref06_Same.mono : ∀ a0 a1 k, LeO (relayref06_Same.f k a0 a1) (relayref06_Same.f (k + 1) a0 a1) := by
 intro a0 a1 k
 unfold relayref06_Same.f
 exact LeO.ite (relayref06_Same.mono_l _ _ _) (LeO.refl _)
theorem slice_step {P : Program} {ops : Array Oper} {o : Oper} {a : Act} {Q : Exit → Act → World → Prop} {Kc : Act → World → Prop} {W : World} (hw : Region.wanted o (yielded ops a.tmps) = true) {N : Tmp} (_hd : o.dst = some N) {cs : Array Value} {t : TypeId} {n : Nat}
 (hrun : ∀ W' : World, (execOp a.eval o).run P W' = .ok (.value (.slice (some ⟨W'.heap.size, 0, none⟩) n n)) (W'.alloc (.cells cs t (0, 0))))
 (h : ∀ g, g = W.heap.size → ∀ w1, w1.heap[g]? = some (.cells cs t (0, 0)) → Below W.heap.size W w1 → Kc (a.put o.dst (.slice (some ⟨g, 0, none⟩) n n)) w1) : if Region.wanted o (yielded ops a.tmps) = true then Oper.wp P o a W Kc Q else Kc (a.put o.dst undef) W :=
 event_step hw (hrun W) (h _ rfl _ (blk_new W _) (below_alloc (Below.refl _ _) _))
def relayref06_Same.T10 : Bool × List (List Nat × List Nat) := (true, [([], []), ([0], [0]), ([1], [1]), ([], []), ([3, 1], [3]), ([4], [4]), ([2, 5, 4], [2, 5]), ([6], [6])])
def relayref06_Same.B10 : List Nat := [0, 1, 3, 0, 11, 27, 63, 127]
theorem relayref06_Same.tab10 : rtab .any (opsOf Try.f18 10) = relayref06_Same.T10 := by kernel_rfl
theorem relayref06_Same.bits10 : waitsOk relayref06_Same.T10.2 relayref06_Same.B10 = true := by kernel_rfl
set_option maxHeartbeats 4000000 in
set_option maxRecDepth 100000 in
theorem relayref06_Same.calls (k : Nat) (A0 : Option Addr) (c0 : Nat) (l0 : List (S81)) (A1 : Option Addr) (c1 : Nat) (l1 : List (S81)) (r : Bool) (w : World) (hr0 : Kd.C k81 w A0 l0.length l0) (hc0 : l0.length ≤ c0) (hr1 : Kd.C k81 w A1 l1.length l1) (hc1 : l1.length ≤ c1) (h : relayref06_Same.f k l0 l1 = some r) :
 Calls Try.prog 18 #[.slice A0 l0.length c0, .slice A1 l1.length c1] w fun e w' => e = .returned (.bool r) ∧ Below w.heap.size w w' := by
 have hu81 := Try.underlying81
 have hu46 := Try.underlying46
 have HR0 := Aside0.mk hr0
 have HR1 := Aside0.mk hr1
 have HM := Aside0.mk (Kd.C_max hr0)
 clear hr0 hr1 hc0 hc1
 have HB := Aside0.mk (Below.refl w.heap.size w)
 unfold relayref06_Same.f at h
 by_cases hl : l0.length = l1.length
 · rw [if_pos hl] at h
   have HH := Aside0.mk h
   have HL := Aside0.mk hl
   have b0 : ((l0.length : Int) == (l1.length : Int)) = true := by rw [hl]; exact beq_self_eq_true _
   have b1 : ((l0.length : Int) != (l1.length : Int)) = false := by rw [hl]; exact bne_self_eq_false _
   clear h hl
   go_enter Try.func18, Try.ntmps18
   go_wp2
   clear b0 b1
   go_loopg [5] (l0.length + 1) (fun kq v5 w' => ∃ i : Int, v5 = .int .i64 i ∧ Aside0 (0 ≤ i ∧ i ≤ l0.length ∧ (kq : Int) = l0.length + 1 - i) ∧ Aside0 (relayref06_Same.go k (l0.drop i.toNat) (l1.drop i.toNat) = some r) ∧ Aside0 (Below w.heap.size w w'))
   case atStart => exact ⟨0, rfl, ⟨by omega⟩, ⟨by simpa using HH.out⟩, ⟨by repeat (first | (with_reducible first | exact HB.out | apply below_alloc | apply pw_below_drewN | apply below_drew1) | exact HB.out)⟩⟩
   case round =>
    clear HH HB
    obtain ⟨i, rfl, hi, HH, HB⟩ := hrel
    by_cases c2 : i < (l0.length : Int)
    · have c2b0 : decide (i < (l0.length : Int)) = true := decide_eq_true c2
      have h0 := hi.out.1
      have c3 : i < (l1.length : Int) := by have := HL.out; omega
      obtain ⟨adA, A7, cA7, A8, cA8, A9, cA9, A10, cA10, eA, hxA0, hxA1, hxA2, hxA3, hxA4, hxA5, hxA6, hxA7, hxA8, hxA9, hxA10, hlA7, hiA7, hlA8, hiA8, hlA9, hiA9, hlA10, hiA10⟩ := at_T81 HR0.out i h0 c2
      cases eA
      replace hxA0 := (HB.out.cell (World.block_lt_of_cell? w _ hxA0)).trans hxA0
      replace hxA1 := (HB.out.cell (World.block_lt_of_cell? w _ hxA1)).trans hxA1
      replace hxA2 := (HB.out.cell (World.block_lt_of_cell? w _ hxA2)).trans hxA2
      replace hxA3 := (HB.out.cell (World.block_lt_of_cell? w _ hxA3)).trans hxA3
      replace hxA4 := (HB.out.cell (World.block_lt_of_cell? w _ hxA4)).trans hxA4
      replace hxA5 := (HB.out.cell (World.block_lt_of_cell? w _ hxA5)).trans hxA5
      replace hxA6 := (HB.out.cell (World.block_lt_of_cell? w _ hxA6)).trans hxA6
      replace hxA7 := (HB.out.cell (World.block_lt_of_cell? w _ hxA7)).trans hxA7
      replace hxA8 := (HB.out.cell (World.block_lt_of_cell? w _ hxA8)).trans hxA8
      replace hxA9 := (HB.out.cell (World.block_lt_of_cell? w _ hxA9)).trans hxA9
      replace hxA10 := (HB.out.cell (World.block_lt_of_cell? w _ hxA10)).trans hxA10
      have p0 := eq_true h0
      have p1 := eq_true c2
      have C2 := Aside0.mk c2
      have C3 := Aside0.mk c3
      clear h0 c2 c3
      go_upto_region 7 with (first | ((with_reducible refine gate_dst (N := 6) rfl ?_); refine box_event ?hg (N := 6) ?hd (cs := #[.int .i64 0, .string (⟨#[]⟩ : ByteArray), .string (⟨#[]⟩ : ByteArray), .bool false, .bool false, .bool false, .string (⟨#[]⟩ : ByteArray), .slice none 0 0, .slice none 0 0, .slice none 0 0, .slice none 0 0]) (t := 81) ?hr ?_; (case hd => rfl); (case hg => rfl); (case hr => first | (go_simp; done) | (go_simp; rfl)); intro g6 hg w6 hbox hb; have n0_ := Aside0.mk (below_step (by repeat (first | (with_reducible first | exact HB.out | apply below_alloc | apply pw_below_drewN | apply below_drew1) | exact HB.out)) hb); have G6 := Aside0.mk ((by rw [hg]; exact below_size (by repeat (first | (with_reducible first | exact HB.out | apply below_alloc | apply pw_below_drewN | apply below_drew1) | exact HB.out))) : w.heap.size ≤ g6); have B6 := Aside0.mk hbox; clear HB; have HB := n0_; clear n0_ hb hbox hg; obtain ⟨_, _, _, _, _, _, _, _, _, _, _, _, _, _, _, _, _, _, _, _, _, _⟩ := cells11 B6.out))
      refine world11 (F := fun W => Code.wp _ _ _ _ W) B6.out HB.out G6.out ?_
      intro W6 b6 hb6 _
      clear B6 HB
      have B6 := Aside0.mk b6
      have HB := Aside0.mk hb6
      clear b6 hb6
      have h0 := hi.out.1
      have c3 := C3.out
      obtain ⟨adD, D7, cD7, D8, cD8, D9, cD9, D10, cD10, eD, hxD0, hxD1, hxD2, hxD3, hxD4, hxD5, hxD6, hxD7, hxD8, hxD9, hxD10, hlD7, hiD7, hlD8, hiD8, hlD9, hiD9, hlD10, hiD10⟩ := at_T81 HR1.out i h0 c3
      cases eD
      replace hxD0 := (HB.out.cell (World.block_lt_of_cell? w _ hxD0)).trans hxD0
      replace hxD1 := (HB.out.cell (World.block_lt_of_cell? w _ hxD1)).trans hxD1
      replace hxD2 := (HB.out.cell (World.block_lt_of_cell? w _ hxD2)).trans hxD2
      replace hxD3 := (HB.out.cell (World.block_lt_of_cell? w _ hxD3)).trans hxD3
      replace hxD4 := (HB.out.cell (World.block_lt_of_cell? w _ hxD4)).trans hxD4
      replace hxD5 := (HB.out.cell (World.block_lt_of_cell? w _ hxD5)).trans hxD5
      replace hxD6 := (HB.out.cell (World.block_lt_of_cell? w _ hxD6)).trans hxD6
      replace hxD7 := (HB.out.cell (World.block_lt_of_cell? w _ hxD7)).trans hxD7
      replace hxD8 := (HB.out.cell (World.block_lt_of_cell? w _ hxD8)).trans hxD8
      replace hxD9 := (HB.out.cell (World.block_lt_of_cell? w _ hxD9)).trans hxD9
      replace hxD10 := (HB.out.cell (World.block_lt_of_cell? w _ hxD10)).trans hxD10
      have q1 := eq_true c3
      clear h0 c3
      go_upto_region 8 with (first | ((with_reducible refine gate_dst (N := 7) rfl ?_); refine box_event ?hg (N := 7) ?hd (cs := #[.int .i64 0, .string (⟨#[]⟩ : ByteArray), .string (⟨#[]⟩ : ByteArray), .bool false, .bool false, .bool false, .string (⟨#[]⟩ : ByteArray), .slice none 0 0, .slice none 0 0, .slice none 0 0, .slice none 0 0]) (t := 81) ?hr ?_; (case hd => rfl); (case hg => rfl); (case hr => first | (go_simp; done) | (go_simp; rfl)); intro g7 hg w7 hbox hb; have n0_ := Aside0.mk (below_step (by repeat (first | (with_reducible first | exact HB.out | apply below_alloc | apply pw_below_drewN | apply below_drew1) | exact HB.out)) hb); have n1_ := Aside0.mk (blk_below B6.out hb); have NE := Aside0.mk ((by rw [hg]; exact Nat.ne_of_lt (blk_lt B6.out)) : g6 ≠ g7); clear B6; have B6 := n1_; clear n1_; have G7 := Aside0.mk ((by rw [hg]; exact below_size (by repeat (first | (with_reducible first | exact HB.out | apply below_alloc | apply pw_below_drewN | apply below_drew1) | exact HB.out))) : w.heap.size ≤ g7); have B7 := Aside0.mk hbox; clear HB; have HB := n0_; clear n0_ hb hbox hg; obtain ⟨_, _, _, _, _, _, _, _, _, _, _, _, _, _, _, _, _, _, _, _, _, _⟩ := cells11 B7.out))
      refine world11 (F := fun W => Code.wp _ _ _ _ W) B7.out HB.out G7.out ?_
      intro W7 b7 hb7 hk7
      have b6 := hk7 _ _ _ B6.out NE.out
      clear B6 B7 HB hk7
      have B6 := Aside0.mk b6
      have B7 := Aside0.mk b7
      have HB := Aside0.mk hb7
      clear b6 b7 hb7
      obtain ⟨_, _, _, _, _, _, _, _, _, _, _, _, _, _, _, _, _, _, _, _, _, _⟩ := cells11 B6.out
      obtain ⟨_, _, _, _, _, _, _, _, _, _, _, _, _, _, _, _, _, _, _, _, _, _⟩ := cells11 B7.out
      have e0 : l0.drop i.toNat = rd_T81 l0 i :: l0.drop (i + 1).toNat := drop81 hi.out.1 C2.out
      have e1 : l1.drop i.toNat = rd_T81 l1 i :: l1.drop (i + 1).toNat := drop81 hi.out.1 C3.out
      have hr := HH.out
      rw [e0, e1, relayref06_Same.go] at hr
      clear e0 e1 HH
      have HH := Aside0.mk hr
      clear hr
      by_cases c1 : (rd_T81 l0 i).f1.toList = (rd_T81 l1 i).f1.toList
      case neg =>
       have d1_0 : ((rd_T81 l0 i).f1.toList == (rd_T81 l1 i).f1.toList) = false := beq_eq_false_iff_ne.mpr c1
       have d1_1 : ((rd_T81 l0 i).f1.toList != (rd_T81 l1 i).f1.toList) = true := bne_iff_ne.mpr c1
       have hd : insDf (rd_T81 l0 i) (rd_T81 l1 i) = true := by simp [insDf, c1]
       have hr := HH.out
       rw [if_pos hd] at hr
       obtain rfl := Option.some.inj hr
       clear hd c1 hr
       go_wp2
       go_ret
       exact ⟨rfl, HB.out⟩
      have d1_0 : ((rd_T81 l0 i).f1.toList == (rd_T81 l1 i).f1.toList) = true := beq_iff_eq.mpr c1
      have d1_1 : ((rd_T81 l0 i).f1.toList != (rd_T81 l1 i).f1.toList) = false := bne_eq_false_iff_eq.mpr c1
      have k1 := Aside0.mk c1
      clear c1
      by_cases c2 : (rd_T81 l0 i).f2.toList = (rd_T81 l1 i).f2.toList
      case neg =>
       have d2_0 : ((rd_T81 l0 i).f2.toList == (rd_T81 l1 i).f2.toList) = false := beq_eq_false_iff_ne.mpr c2
       have d2_1 : ((rd_T81 l0 i).f2.toList != (rd_T81 l1 i).f2.toList) = true := bne_iff_ne.mpr c2
       have hd : insDf (rd_T81 l0 i) (rd_T81 l1 i) = true := by simp [insDf, c2]
       have hr := HH.out
       rw [if_pos hd] at hr
       obtain rfl := Option.some.inj hr
       clear hd c2 hr
       go_wp2
       go_ret
       exact ⟨rfl, HB.out⟩
      have d2_0 : ((rd_T81 l0 i).f2.toList == (rd_T81 l1 i).f2.toList) = true := beq_iff_eq.mpr c2
      have d2_1 : ((rd_T81 l0 i).f2.toList != (rd_T81 l1 i).f2.toList) = false := bne_eq_false_iff_eq.mpr c2
      have k2 := Aside0.mk c2
      clear c2
      by_cases c3 : (rd_T81 l0 i).f3 = (rd_T81 l1 i).f3
      case neg =>
       have d3_0 : ((rd_T81 l0 i).f3 == (rd_T81 l1 i).f3) = false := beq_eq_false_iff_ne.mpr c3
       have d3_1 : ((rd_T81 l0 i).f3 != (rd_T81 l1 i).f3) = true := bne_iff_ne.mpr c3
       have hd : insDf (rd_T81 l0 i) (rd_T81 l1 i) = true := by simp [insDf, c3]
       have hr := HH.out
       rw [if_pos hd] at hr
       obtain rfl := Option.some.inj hr
       clear hd c3 hr
       go_wp2
       go_ret
       exact ⟨rfl, HB.out⟩
      have d3_0 : ((rd_T81 l0 i).f3 == (rd_T81 l1 i).f3) = true := beq_iff_eq.mpr c3
      have d3_1 : ((rd_T81 l0 i).f3 != (rd_T81 l1 i).f3) = false := bne_eq_false_iff_eq.mpr c3
      have k3 := Aside0.mk c3
      clear c3
      by_cases c4 : (rd_T81 l0 i).f4 = (rd_T81 l1 i).f4
      case neg =>
       have d4_0 : ((rd_T81 l0 i).f4 == (rd_T81 l1 i).f4) = false := beq_eq_false_iff_ne.mpr c4
       have d4_1 : ((rd_T81 l0 i).f4 != (rd_T81 l1 i).f4) = true := bne_iff_ne.mpr c4
       have hd : insDf (rd_T81 l0 i) (rd_T81 l1 i) = true := by simp [insDf, c4]
       have hr := HH.out
       rw [if_pos hd] at hr
       obtain rfl := Option.some.inj hr
       clear hd c4 hr
       go_wp2
       go_ret
       exact ⟨rfl, HB.out⟩
      have d4_0 : ((rd_T81 l0 i).f4 == (rd_T81 l1 i).f4) = true := beq_iff_eq.mpr c4
      have d4_1 : ((rd_T81 l0 i).f4 != (rd_T81 l1 i).f4) = false := bne_eq_false_iff_eq.mpr c4
      have k4 := Aside0.mk c4
      clear c4
      by_cases c5 : (rd_T81 l0 i).f5 = (rd_T81 l1 i).f5
      case neg =>
       have d5_0 : ((rd_T81 l0 i).f5 == (rd_T81 l1 i).f5) = false := beq_eq_false_iff_ne.mpr c5
       have d5_1 : ((rd_T81 l0 i).f5 != (rd_T81 l1 i).f5) = true := bne_iff_ne.mpr c5
       have hd : insDf (rd_T81 l0 i) (rd_T81 l1 i) = true := by simp [insDf, c5]
       have hr := HH.out
       rw [if_pos hd] at hr
       obtain rfl := Option.some.inj hr
       clear hd c5 hr
       go_wp2
       go_ret
       exact ⟨rfl, HB.out⟩
      have d5_0 : ((rd_T81 l0 i).f5 == (rd_T81 l1 i).f5) = true := beq_iff_eq.mpr c5
      have d5_1 : ((rd_T81 l0 i).f5 != (rd_T81 l1 i).f5) = false := bne_eq_false_iff_eq.mpr c5
      have k5 := Aside0.mk c5
      clear c5
      by_cases c6 : (rd_T81 l0 i).f6.toList = (rd_T81 l1 i).f6.toList
      case neg =>
       have d6_0 : ((rd_T81 l0 i).f6.toList == (rd_T81 l1 i).f6.toList) = false := beq_eq_false_iff_ne.mpr c6
       have d6_1 : ((rd_T81 l0 i).f6.toList != (rd_T81 l1 i).f6.toList) = true := bne_iff_ne.mpr c6
       have hd : insDf (rd_T81 l0 i) (rd_T81 l1 i) = true := by simp [insDf, c6]
       have hr := HH.out
       rw [if_pos hd] at hr
       obtain rfl := Option.some.inj hr
       clear hd c6 hr
       go_wp2
       go_ret
       exact ⟨rfl, HB.out⟩
      have d6_0 : ((rd_T81 l0 i).f6.toList == (rd_T81 l1 i).f6.toList) = true := beq_iff_eq.mpr c6
      have d6_1 : ((rd_T81 l0 i).f6.toList != (rd_T81 l1 i).f6.toList) = false := bne_eq_false_iff_eq.mpr c6
      have k6 := Aside0.mk c6
      clear c6
      by_cases c7 : (rd_T81 l0 i).f8.length = (rd_T81 l1 i).f8.length
      case neg =>
       have d7_0 : ((rd_T81 l0 i).f8.length == (rd_T81 l1 i).f8.length) = false := beq_eq_false_iff_ne.mpr c7
       have d7_1 : ((rd_T81 l0 i).f8.length != (rd_T81 l1 i).f8.length) = true := bne_iff_ne.mpr c7
       have d7_2 : (((rd_T81 l0 i).f8.length : Int) == ((rd_T81 l1 i).f8.length : Int)) = false := beq_eq_false_iff_ne.mpr (fun e => c7 (by omega))
       have d7_3 : (((rd_T81 l0 i).f8.length : Int) != ((rd_T81 l1 i).f8.length : Int)) = true := bne_iff_ne.mpr (fun e => c7 (by omega))
       have hd : insDf (rd_T81 l0 i) (rd_T81 l1 i) = true := by simp [insDf, c7]
       have hr := HH.out
       rw [if_pos hd] at hr
       obtain rfl := Option.some.inj hr
       clear hd c7 hr
       go_wp2
       go_ret
       exact ⟨rfl, HB.out⟩
      have d7_0 : ((rd_T81 l0 i).f8.length == (rd_T81 l1 i).f8.length) = true := beq_iff_eq.mpr c7
      have d7_1 : ((rd_T81 l0 i).f8.length != (rd_T81 l1 i).f8.length) = false := bne_eq_false_iff_eq.mpr c7
      have d7_2 : (((rd_T81 l0 i).f8.length : Int) == ((rd_T81 l1 i).f8.length : Int)) = true := beq_iff_eq.mpr (by omega)
      have d7_3 : (((rd_T81 l0 i).f8.length : Int) != ((rd_T81 l1 i).f8.length : Int)) = false := bne_eq_false_iff_eq.mpr (by omega)
      have k7 := Aside0.mk c7
      clear c7
      have hd : insDf (rd_T81 l0 i) (rd_T81 l1 i) = false := by simp [insDf, k1.out, k2.out, k3.out, k4.out, k5.out, k6.out, k7.out]
      have hr := HH.out
      rw [hd, if_neg Bool.false_ne_true] at hr
      obtain ⟨s, hs, hr⟩ := Option.bind_eq_some_iff.mp hr
      obtain ⟨t, ht, hr⟩ := Option.bind_eq_some_iff.mp hr
      obtain ⟨u, hu, hr⟩ := Option.bind_eq_some_iff.mp hr
      have AS := Aside0.mk hs
      have AT := Aside0.mk ht
      have AU := Aside0.mk hu
      clear HH hd hs ht hu
      have HH := Aside0.mk hr
      clear hr 
      go_wp2
      have n0_ := Aside0.mk (And.intro (blk_drew B6.out) (blk_drew B7.out))
      have n1_ := Aside0.mk (below_drew1 HB.out)
      clear B6 B7 HB
      have HS := n0_
      have HB := n1_
      clear n0_ n1_
      refine start_ (n := 8) (S := fun w' => w'.heap[g6]? = some (.cells #[.int .i64 (rd_T81 l0 i).f0, .string (rd_T81 l0 i).f1, .string (rd_T81 l0 i).f2, .bool (rd_T81 l0 i).f3, .bool (rd_T81 l0 i).f4, .bool (rd_T81 l0 i).f5, .string (rd_T81 l0 i).f6, .slice A7 (rd_T81 l0 i).f7.length cA7, .slice A8 (rd_T81 l0 i).f8.length cA8, .slice A9 (rd_T81 l0 i).f9.length cA9, .slice A10 (rd_T81 l0 i).f10.length cA10] 81 (0, 0)) ∧ w'.heap[g7]? = some (.cells #[.int .i64 (rd_T81 l1 i).f0, .string (rd_T81 l1 i).f1, .string (rd_T81 l1 i).f2, .bool (rd_T81 l1 i).f3, .bool (rd_T81 l1 i).f4, .bool (rd_T81 l1 i).f5, .string (rd_T81 l1 i).f6, .slice D7 (rd_T81 l1 i).f7.length cD7, .slice D8 (rd_T81 l1 i).f8.length cD8, .slice D9 (rd_T81 l1 i).f9.length cD9, .slice D10 (rd_T81 l1 i).f10.length cD10] 81 (0, 0))) (ds := []) #[false, false, false, false, false, false, false, false] (by kernel_rfl) rfl rfl HS.out (fun _ => ?_)
      refine with_tabW relayref06_Same.tab10 relayref06_Same.bits10 (fun HT_ HW_ => ?_)
      generalize W7.drew = W8 at HS HB ⊢
      refine take_ (i := 0) (N := some 76) (v := ?_) (a' := ?_) #[true, false, false, false, false, false, false, false] rfl rfl (take_ofW HT_.out HW_.out (by kernel_rfl)) (fun _ _ _ h => h) (Or.inl ⟨by rfl, ?_⟩) HS.out ?_ ?_
      rotate_left
      · intro w' hS
        obtain ⟨_, _, _, _, _, _, _, _, _, _, _, _, _, _, _, _, _, _, _, _, _, _⟩ := cells11 hS.1
        obtain ⟨_, _, _, _, _, _, _, _, _, _, _, _, _, _, _, _, _, _, _, _, _, _⟩ := cells11 hS.2
        go_simp
        with_reducible rfl
      rotate_left
      · simp only [Act.put, List.setIfInBounds_toArray, List.set_cons_zero, List.set_cons_succ, i64_w, i32_w]
        rfl
      refine take_ (i := 3) (N := some 79) (v := ?_) (a' := ?_) #[true, false, false, true, false, false, false, false] rfl rfl (take_ofW HT_.out HW_.out (by kernel_rfl)) (fun _ _ _ h => h) (Or.inl ⟨by rfl, ?_⟩) HS.out ?_ ?_
      rotate_left
      · intro w' hS
        obtain ⟨_, _, _, _, _, _, _, _, _, _, _, _, _, _, _, _, _, _, _, _, _, _⟩ := cells11 hS.1
        obtain ⟨_, _, _, _, _, _, _, _, _, _, _, _, _, _, _, _, _, _, _, _, _, _⟩ := cells11 hS.2
        go_simp
        with_reducible rfl
      rotate_left
      · simp only [Act.put, List.setIfInBounds_toArray, List.set_cons_zero, List.set_cons_succ, i64_w, i32_w]
        rfl
      refine one_ (i := 1) (N := some 77) #[true, true, false, true, false, false, false, false] rfl rfl (one_of HT_.out (by kernel_rfl)) (by decide) (fun K hK => ?_)
      refine goes_ Try.func48 (by kernel_rfl) rfl #[.agg #[.int .i64 (rd_T81 l0 i).f0, .string (rd_T81 l0 i).f1, .string (rd_T81 l0 i).f2, .bool (rd_T81 l0 i).f3, .bool (rd_T81 l0 i).f4, .bool (rd_T81 l0 i).f5, .string (rd_T81 l0 i).f6, .slice A7 (rd_T81 l0 i).f7.length cA7, .slice A8 (rd_T81 l0 i).f8.length cA8, .slice A9 (rd_T81 l0 i).f9.length cA9, .slice A10 (rd_T81 l0 i).f10.length cA10]] (by rfl) rfl rfl (by (try simp only [List.map_toArray, List.map_cons, List.map_nil]); first | done | rfl) ?_
      refine (relayref06_statement.calls _ _ _ _ _ _ _ _ _ _ _ _ _ _ _ _ _ _ _ s _ (Kd.C_below hiA7 HB.out) hlA7 (Kd.C_below hiA8 HB.out) hlA8 (Kd.C_below hiA9 HB.out) hlA9 (Kd.C_below hiA10 HB.out) hlA10 AS.out).mono ?_
      rintro e W' ⟨v, rfl, hv, hb⟩
      refine ⟨_, rfl, ?_⟩
      have n0_ := Aside0.mk (And.intro (blk_below HS.out.1 hb) (blk_below HS.out.2 hb))
      have n1_ := Aside0.mk (below_step HB.out hb)
      clear HS HB 
      have HS := n0_
      have HB := n1_
      clear n0_ n1_ hb
      obtain ⟨cs, rfl, hk⟩ := hv
      have Vs := Aside0.mk hk
      obtain ⟨Ps4, ps4, Ps5, ps5, Ps6, ps6, Ps7, ps7, Ps8, ps8, Ps9, ps9, Ps10, ps10, rfl, -⟩ := k46_open hk
      clear hk
      refine hK.out _ _ HS.out (fun _ => ?_)
      clear hK K
      refine norm_ (a' := ?_) ?_ ?_
      rotate_left
      · show Act.put _ (some 77) _ = _
        simp only [Act.put, List.setIfInBounds_toArray, List.set_cons_zero, List.set_cons_succ, i64_w, i32_w]
        rfl
      refine join_ (σ := Value × Value × Value) 2 #[true, true, true, true, true, true, false, false] (fun s_ => [(78, s_.1), (80, s_.2.1), (81, s_.2.2)]) (fun s_ W => (fun w' => w'.heap[g6]? = some (.cells #[.int .i64 (rd_T81 l0 i).f0, .string (rd_T81 l0 i).f1, .string (rd_T81 l0 i).f2, .bool (rd_T81 l0 i).f3, .bool (rd_T81 l0 i).f4, .bool (rd_T81 l0 i).f5, .string (rd_T81 l0 i).f6, .slice A7 (rd_T81 l0 i).f7.length cA7, .slice A8 (rd_T81 l0 i).f8.length cA8, .slice A9 (rd_T81 l0 i).f9.length cA9, .slice A10 (rd_T81 l0 i).f10.length cA10] 81 (0, 0)) ∧ w'.heap[g7]? = some (.cells #[.int .i64 (rd_T81 l1 i).f0, .string (rd_T81 l1 i).f1, .string (rd_T81 l1 i).f2, .bool (rd_T81 l1 i).f3, .bool (rd_T81 l1 i).f4, .bool (rd_T81 l1 i).f5, .string (rd_T81 l1 i).f6, .slice D7 (rd_T81 l1 i).f7.length cD7, .slice D8 (rd_T81 l1 i).f8.length cD8, .slice D9 (rd_T81 l1 i).f9.length cD9, .slice D10 (rd_T81 l1 i).f10.length cD10] 81 (0, 0))) W ∧ RC W s_.1 [s] ∧ RC W s_.2.2 [t] ∧ Below w.heap.size w W) ?_ ?_
      rotate_left
      · intro hCont
        refine two_ (i := 2) (j := 4) (Ni := some 78) (Nj := some 80) #[true, true, true, true, false, false, false, false] #[true, true, false, true, true, false, false, false] rfl rfl rfl rfl (two_of HT_.out (by kernel_rfl)) (by decide) (by decide) (fun K hK => ?_) (fun K hK => ?_)
        · skip
          refine slice_step (by rfl) (N := 78) rfl (cs := List.toArray [.int .i64 s.f0, .int .i64 s.f1, .string s.f2, .int .i64 s.f3, .slice Ps4 s.f4.length ps4, .slice Ps5 s.f5.length ps5, .slice Ps6 s.f6.length ps6, .slice Ps7 s.f7.length ps7, .slice Ps8 s.f8.length ps8, .slice Ps9 s.f9.length ps9, .slice Ps10 s.f10.length ps10, .int .u8 s.f11, .int .i64 s.f12, .int .i64 s.f13]) (t := 46) (n := 1) ?hr ?_
          case hr => intro W'; first | (go_simp; done) | (go_simp; rfl)
          intro g78 hg W' hbox hb
          clear hg
          have hk := k46.K_below hb Vs.out
          have n0_ := Aside0.mk (And.intro (blk_below HS.out.1 hb) (blk_below HS.out.2 hb))
          have n1_ := Aside0.mk (below_step HB.out hb)
          clear HS HB 
          have HS := n0_
          have HB := n1_
          clear n0_ n1_ hb
          have Rs := Aside0.mk (show RC W' (.slice (some ⟨g78, 0, none⟩) 1 1) [s] from ⟨_, 1, rfl, Nat.le_refl _, C_one hbox hk⟩)
          clear hbox hk Vs
          refine hK.out _ _ HS.out (fun _ => ?_)
          clear hK K
          refine norm_ (a' := ?_) ?_ ?_
          rotate_left
          · show Act.put _ (some 78) _ = _
            simp only [Act.put, List.setIfInBounds_toArray, List.set_cons_zero, List.set_cons_succ, i64_w, i32_w]
            rfl
          refine one_ (i := 4) (N := some 80) #[true, true, true, true, true, false, false, false] rfl rfl (one_of HT_.out (by kernel_rfl)) (by decide) (fun K hK => ?_)
          refine goes_ Try.func48 (by kernel_rfl) rfl #[.agg #[.int .i64 (rd_T81 l1 i).f0, .string (rd_T81 l1 i).f1, .string (rd_T81 l1 i).f2, .bool (rd_T81 l1 i).f3, .bool (rd_T81 l1 i).f4, .bool (rd_T81 l1 i).f5, .string (rd_T81 l1 i).f6, .slice D7 (rd_T81 l1 i).f7.length cD7, .slice D8 (rd_T81 l1 i).f8.length cD8, .slice D9 (rd_T81 l1 i).f9.length cD9, .slice D10 (rd_T81 l1 i).f10.length cD10]] (by rfl) rfl rfl (by (try simp only [List.map_toArray, List.map_cons, List.map_nil]); first | done | rfl) ?_
          refine (relayref06_statement.calls _ _ _ _ _ _ _ _ _ _ _ _ _ _ _ _ _ _ _ t _ (Kd.C_below hiD7 HB.out) hlD7 (Kd.C_below hiD8 HB.out) hlD8 (Kd.C_below hiD9 HB.out) hlD9 (Kd.C_below hiD10 HB.out) hlD10 AT.out).mono ?_
          rintro e W' ⟨v, rfl, hv, hb⟩
          refine ⟨_, rfl, ?_⟩
          have n0_ := Aside0.mk (And.intro (blk_below HS.out.1 hb) (blk_below HS.out.2 hb))
          have n1_ := Aside0.mk (below_step HB.out hb)
          have n2_ := Aside0.mk (Rc.R_below Rs.out hb)
          clear HS HB Rs
          have HS := n0_
          have HB := n1_
          have Rs := n2_
          clear n0_ n1_ n2_ hb
          obtain ⟨cs, rfl, hk⟩ := hv
          have Vt := Aside0.mk hk
          obtain ⟨Pt4, pt4, Pt5, pt5, Pt6, pt6, Pt7, pt7, Pt8, pt8, Pt9, pt9, Pt10, pt10, rfl, -⟩ := k46_open hk
          clear hk
          refine hK.out _ _ HS.out (fun _ => ?_)
          clear hK K
          refine norm_ (a' := ?_) ?_ ?_
          rotate_left
          · show Act.put _ (some 80) _ = _
            simp only [Act.put, List.setIfInBounds_toArray, List.set_cons_zero, List.set_cons_succ, i64_w, i32_w]
            rfl
          refine one_ (i := 5) (N := some 81) #[true, true, true, true, true, true, false, false] rfl rfl (one_of HT_.out (by kernel_rfl)) (by decide) (fun K hK => ?_)
          refine slice_step (by rfl) (N := 81) rfl (cs := List.toArray [.int .i64 t.f0, .int .i64 t.f1, .string t.f2, .int .i64 t.f3, .slice Pt4 t.f4.length pt4, .slice Pt5 t.f5.length pt5, .slice Pt6 t.f6.length pt6, .slice Pt7 t.f7.length pt7, .slice Pt8 t.f8.length pt8, .slice Pt9 t.f9.length pt9, .slice Pt10 t.f10.length pt10, .int .u8 t.f11, .int .i64 t.f12, .int .i64 t.f13]) (t := 46) (n := 1) ?hr ?_
          case hr => intro W'; first | (go_simp; done) | (go_simp; rfl)
          intro g81 hg W' hbox hb
          clear hg
          have hk := k46.K_below hb Vt.out
          have n0_ := Aside0.mk (And.intro (blk_below HS.out.1 hb) (blk_below HS.out.2 hb))
          have n1_ := Aside0.mk (below_step HB.out hb)
          have n2_ := Aside0.mk (Rc.R_below Rs.out hb)
          clear HS HB Rs
          have HS := n0_
          have HB := n1_
          have Rs := n2_
          clear n0_ n1_ n2_ hb
          have Rt := Aside0.mk (show RC W' (.slice (some ⟨g81, 0, none⟩) 1 1) [t] from ⟨_, 1, rfl, Nat.le_refl _, C_one hbox hk⟩)
          clear hbox hk Vt
          refine hK.out _ _ HS.out (fun _ => ?_)
          clear hK K
          refine norm_ (a' := ?_) ?_ ?_
          rotate_left
          · show Act.put _ (some 81) _ = _
            simp only [Act.put, List.setIfInBounds_toArray, List.set_cons_zero, List.set_cons_succ, i64_w, i32_w]
            rfl
          exact norm_ (by simp only [putAll, Act.put, List.setIfInBounds_toArray, List.set_cons_zero, List.set_cons_succ]) (hCont (.slice (some ⟨g78, 0, none⟩) 1 1, .agg #[.int .i64 t.f0, .int .i64 t.f1, .string t.f2, .int .i64 t.f3, .slice Pt4 t.f4.length pt4, .slice Pt5 t.f5.length pt5, .slice Pt6 t.f6.length pt6, .slice Pt7 t.f7.length pt7, .slice Pt8 t.f8.length pt8, .slice Pt9 t.f9.length pt9, .slice Pt10 t.f10.length pt10, .int .u8 t.f11, .int .i64 t.f12, .int .i64 t.f13], .slice (some ⟨g81, 0, none⟩) 1 1) _ ⟨HS.out, Rs.out, Rt.out, HB.out⟩)
        · skip
          refine goes_ Try.func48 (by kernel_rfl) rfl #[.agg #[.int .i64 (rd_T81 l1 i).f0, .string (rd_T81 l1 i).f1, .string (rd_T81 l1 i).f2, .bool (rd_T81 l1 i).f3, .bool (rd_T81 l1 i).f4, .bool (rd_T81 l1 i).f5, .string (rd_T81 l1 i).f6, .slice D7 (rd_T81 l1 i).f7.length cD7, .slice D8 (rd_T81 l1 i).f8.length cD8, .slice D9 (rd_T81 l1 i).f9.length cD9, .slice D10 (rd_T81 l1 i).f10.length cD10]] (by rfl) rfl rfl (by (try simp only [List.map_toArray, List.map_cons, List.map_nil]); first | done | rfl) ?_
          refine (relayref06_statement.calls _ _ _ _ _ _ _ _ _ _ _ _ _ _ _ _ _ _ _ t _ (Kd.C_below hiD7 HB.out) hlD7 (Kd.C_below hiD8 HB.out) hlD8 (Kd.C_below hiD9 HB.out) hlD9 (Kd.C_below hiD10 HB.out) hlD10 AT.out).mono ?_
          rintro e W' ⟨v, rfl, hv, hb⟩
          refine ⟨_, rfl, ?_⟩
          have n0_ := Aside0.mk (And.intro (blk_below HS.out.1 hb) (blk_below HS.out.2 hb))
          have n1_ := Aside0.mk (below_step HB.out hb)
          have n2_ := Aside0.mk (k46.K_below hb Vs.out)
          clear HS HB Vs
          have HS := n0_
          have HB := n1_
          have Vs := n2_
          clear n0_ n1_ n2_ hb
          obtain ⟨cs, rfl, hk⟩ := hv
          have Vt := Aside0.mk hk
          obtain ⟨Pt4, pt4, Pt5, pt5, Pt6, pt6, Pt7, pt7, Pt8, pt8, Pt9, pt9, Pt10, pt10, rfl, -⟩ := k46_open hk
          clear hk
          refine hK.out _ _ HS.out (fun _ => ?_)
          clear hK K
          refine norm_ (a' := ?_) ?_ ?_
          rotate_left
          · show Act.put _ (some 80) _ = _
            simp only [Act.put, List.setIfInBounds_toArray, List.set_cons_zero, List.set_cons_succ, i64_w, i32_w]
            rfl
          refine two_ (i := 2) (j := 5) (Ni := some 78) (Nj := some 81) #[true, true, true, true, true, false, false, false] #[true, true, false, true, true, true, false, false] rfl rfl rfl rfl (two_of HT_.out (by kernel_rfl)) (by decide) (by decide) (fun K hK => ?_) (fun K hK => ?_)
          · skip
            refine slice_step (by rfl) (N := 78) rfl (cs := List.toArray [.int .i64 s.f0, .int .i64 s.f1, .string s.f2, .int .i64 s.f3, .slice Ps4 s.f4.length ps4, .slice Ps5 s.f5.length ps5, .slice Ps6 s.f6.length ps6, .slice Ps7 s.f7.length ps7, .slice Ps8 s.f8.length ps8, .slice Ps9 s.f9.length ps9, .slice Ps10 s.f10.length ps10, .int .u8 s.f11, .int .i64 s.f12, .int .i64 s.f13]) (t := 46) (n := 1) ?hr ?_
            case hr => intro W'; first | (go_simp; done) | (go_simp; rfl)
            intro g78 hg W' hbox hb
            clear hg
            have hk := k46.K_below hb Vs.out
            have n0_ := Aside0.mk (And.intro (blk_below HS.out.1 hb) (blk_below HS.out.2 hb))
            have n1_ := Aside0.mk (below_step HB.out hb)
            have n2_ := Aside0.mk (k46.K_below hb Vt.out)
            clear HS HB Vt
            have HS := n0_
            have HB := n1_
            have Vt := n2_
            clear n0_ n1_ n2_ hb
            have Rs := Aside0.mk (show RC W' (.slice (some ⟨g78, 0, none⟩) 1 1) [s] from ⟨_, 1, rfl, Nat.le_refl _, C_one hbox hk⟩)
            clear hbox hk Vs
            refine hK.out _ _ HS.out (fun _ => ?_)
            clear hK K
            refine norm_ (a' := ?_) ?_ ?_
            rotate_left
            · show Act.put _ (some 78) _ = _
              simp only [Act.put, List.setIfInBounds_toArray, List.set_cons_zero, List.set_cons_succ, i64_w, i32_w]
              rfl
            refine one_ (i := 5) (N := some 81) #[true, true, true, true, true, true, false, false] rfl rfl (one_of HT_.out (by kernel_rfl)) (by decide) (fun K hK => ?_)
            refine slice_step (by rfl) (N := 81) rfl (cs := List.toArray [.int .i64 t.f0, .int .i64 t.f1, .string t.f2, .int .i64 t.f3, .slice Pt4 t.f4.length pt4, .slice Pt5 t.f5.length pt5, .slice Pt6 t.f6.length pt6, .slice Pt7 t.f7.length pt7, .slice Pt8 t.f8.length pt8, .slice Pt9 t.f9.length pt9, .slice Pt10 t.f10.length pt10, .int .u8 t.f11, .int .i64 t.f12, .int .i64 t.f13]) (t := 46) (n := 1) ?hr ?_
            case hr => intro W'; first | (go_simp; done) | (go_simp; rfl)
            intro g81 hg W' hbox hb
            clear hg
            have hk := k46.K_below hb Vt.out
            have n0_ := Aside0.mk (And.intro (blk_below HS.out.1 hb) (blk_below HS.out.2 hb))
            have n1_ := Aside0.mk (below_step HB.out hb)
            have n2_ := Aside0.mk (Rc.R_below Rs.out hb)
            clear HS HB Rs
            have HS := n0_
            have HB := n1_
            have Rs := n2_
            clear n0_ n1_ n2_ hb
            have Rt := Aside0.mk (show RC W' (.slice (some ⟨g81, 0, none⟩) 1 1) [t] from ⟨_, 1, rfl, Nat.le_refl _, C_one hbox hk⟩)
            clear hbox hk Vt
            refine hK.out _ _ HS.out (fun _ => ?_)
            clear hK K
            refine norm_ (a' := ?_) ?_ ?_
            rotate_left
            · show Act.put _ (some 81) _ = _
              simp only [Act.put, List.setIfInBounds_toArray, List.set_cons_zero, List.set_cons_succ, i64_w, i32_w]
              rfl
            exact norm_ (by simp only [putAll, Act.put, List.setIfInBounds_toArray, List.set_cons_zero, List.set_cons_succ]) (hCont (.slice (some ⟨g78, 0, none⟩) 1 1, .agg #[.int .i64 t.f0, .int .i64 t.f1, .string t.f2, .int .i64 t.f3, .slice Pt4 t.f4.length pt4, .slice Pt5 t.f5.length pt5, .slice Pt6 t.f6.length pt6, .slice Pt7 t.f7.length pt7, .slice Pt8 t.f8.length pt8, .slice Pt9 t.f9.length pt9, .slice Pt10 t.f10.length pt10, .int .u8 t.f11, .int .i64 t.f12, .int .i64 t.f13], .slice (some ⟨g81, 0, none⟩) 1 1) _ ⟨HS.out, Rs.out, Rt.out, HB.out⟩)
          · skip
            refine slice_step (by rfl) (N := 81) rfl (cs := List.toArray [.int .i64 t.f0, .int .i64 t.f1, .string t.f2, .int .i64 t.f3, .slice Pt4 t.f4.length pt4, .slice Pt5 t.f5.length pt5, .slice Pt6 t.f6.length pt6, .slice Pt7 t.f7.length pt7, .slice Pt8 t.f8.length pt8, .slice Pt9 t.f9.length pt9, .slice Pt10 t.f10.length pt10, .int .u8 t.f11, .int .i64 t.f12, .int .i64 t.f13]) (t := 46) (n := 1) ?hr ?_
            case hr => intro W'; first | (go_simp; done) | (go_simp; rfl)
            intro g81 hg W' hbox hb
            clear hg
            have hk := k46.K_below hb Vt.out
            have n0_ := Aside0.mk (And.intro (blk_below HS.out.1 hb) (blk_below HS.out.2 hb))
            have n1_ := Aside0.mk (below_step HB.out hb)
            have n2_ := Aside0.mk (k46.K_below hb Vs.out)
            clear HS HB Vs
            have HS := n0_
            have HB := n1_
            have Vs := n2_
            clear n0_ n1_ n2_ hb
            have Rt := Aside0.mk (show RC W' (.slice (some ⟨g81, 0, none⟩) 1 1) [t] from ⟨_, 1, rfl, Nat.le_refl _, C_one hbox hk⟩)
            clear hbox hk Vt
            refine hK.out _ _ HS.out (fun _ => ?_)
            clear hK K
            refine norm_ (a' := ?_) ?_ ?_
            rotate_left
            · show Act.put _ (some 81) _ = _
              simp only [Act.put, List.setIfInBounds_toArray, List.set_cons_zero, List.set_cons_succ, i64_w, i32_w]
              rfl
            refine one_ (i := 2) (N := some 78) #[true, true, true, true, true, true, false, false] rfl rfl (one_of HT_.out (by kernel_rfl)) (by decide) (fun K hK => ?_)
            refine slice_step (by rfl) (N := 78) rfl (cs := List.toArray [.int .i64 s.f0, .int .i64 s.f1, .string s.f2, .int .i64 s.f3, .slice Ps4 s.f4.length ps4, .slice Ps5 s.f5.length ps5, .slice Ps6 s.f6.length ps6, .slice Ps7 s.f7.length ps7, .slice Ps8 s.f8.length ps8, .slice Ps9 s.f9.length ps9, .slice Ps10 s.f10.length ps10, .int .u8 s.f11, .int .i64 s.f12, .int .i64 s.f13]) (t := 46) (n := 1) ?hr ?_
            case hr => intro W'; first | (go_simp; done) | (go_simp; rfl)
            intro g78 hg W' hbox hb
            clear hg
            have hk := k46.K_below hb Vs.out
            have n0_ := Aside0.mk (And.intro (blk_below HS.out.1 hb) (blk_below HS.out.2 hb))
            have n1_ := Aside0.mk (below_step HB.out hb)
            have n2_ := Aside0.mk (Rc.R_below Rt.out hb)
            clear HS HB Rt
            have HS := n0_
            have HB := n1_
            have Rt := n2_
            clear n0_ n1_ n2_ hb
            have Rs := Aside0.mk (show RC W' (.slice (some ⟨g78, 0, none⟩) 1 1) [s] from ⟨_, 1, rfl, Nat.le_refl _, C_one hbox hk⟩)
            clear hbox hk Vs
            refine hK.out _ _ HS.out (fun _ => ?_)
            clear hK K
            refine norm_ (a' := ?_) ?_ ?_
            rotate_left
            · show Act.put _ (some 78) _ = _
              simp only [Act.put, List.setIfInBounds_toArray, List.set_cons_zero, List.set_cons_succ, i64_w, i32_w]
              rfl
            exact norm_ (by simp only [putAll, Act.put, List.setIfInBounds_toArray, List.set_cons_zero, List.set_cons_succ]) (hCont (.slice (some ⟨g78, 0, none⟩) 1 1, .agg #[.int .i64 t.f0, .int .i64 t.f1, .string t.f2, .int .i64 t.f3, .slice Pt4 t.f4.length pt4, .slice Pt5 t.f5.length pt5, .slice Pt6 t.f6.length pt6, .slice Pt7 t.f7.length pt7, .slice Pt8 t.f8.length pt8, .slice Pt9 t.f9.length pt9, .slice Pt10 t.f10.length pt10, .int .u8 t.f11, .int .i64 t.f12, .int .i64 t.f13], .slice (some ⟨g81, 0, none⟩) 1 1) _ ⟨HS.out, Rs.out, Rt.out, HB.out⟩)
      rintro ⟨a78, a80, a81⟩ W' ⟨hS, r1, r2, hb⟩
      clear HS HB Vs
      have HS := Aside0.mk hS
      have HB := Aside0.mk hb
      obtain ⟨As, cs, rfl, ls, rs⟩ := r1
      obtain ⟨At, ct, rfl, lt, rt⟩ := r2
      clear hS hb
      refine norm_ (a' := ?_) ?_ ?_
      rotate_left
      · simp only [putAll, Act.put, List.setIfInBounds_toArray, List.set_cons_zero, List.set_cons_succ]
        rfl
      refine one_ (i := 6) (N := some 82) #[true, true, true, true, true, true, true, false] rfl rfl (one_of HT_.out (by kernel_rfl)) (by decide) (fun K hK => ?_)
      refine goes_ Try.func11 (by kernel_rfl) rfl #[.slice As [s].length cs, .slice At [t].length ct] (by rfl) rfl rfl (by (try simp only [List.map_toArray, List.map_cons, List.map_nil]); first | done | rfl) ?_
      refine (relayref05_Same.calls k _ _ [s] _ _ [t] u _ rs ls rt lt AU.out).mono ?_
      rintro e W' ⟨rfl, hb⟩
      refine ⟨_, rfl, ?_⟩
      have n0_ := Aside0.mk (And.intro (blk_below HS.out.1 hb) (blk_below HS.out.2 hb))
      have n1_ := Aside0.mk (below_step HB.out hb)
      clear HS HB 
      have HS := n0_
      have HB := n1_
      clear n0_ n1_ hb
      refine hK.out _ _ HS.out (fun _ => ?_)
      clear hK K
      refine norm_ (a' := ?_) ?_ ?_
      rotate_left
      · show Act.put _ (some 82) _ = _
        simp only [Act.put, List.setIfInBounds_toArray, List.set_cons_zero, List.set_cons_succ, i64_w, i32_w]
        rfl
      refine pure_ (i := 7) (N := some 83) (v := ?_) (a' := ?_) #[true, true, true, true, true, true, true, true] rfl rfl (any_of HT_.out (by kernel_rfl)) (fun _ _ _ h => h) (Or.inl ⟨by rfl, ?_⟩) ?_ ?_
      rotate_left
      · intro w'
        go_simp
        with_reducible rfl
      rotate_left
      · simp only [Act.put, List.setIfInBounds_toArray, List.set_cons_zero, List.set_cons_succ, i64_w, i32_w]
        rfl
      refine done_ (done_of HT_.out (by kernel_rfl)) ?_
      have hr := HH.out
      cases u with
      | false =>
       rw [if_neg Bool.false_ne_true] at hr
       obtain rfl := Option.some.inj hr
       clear hr
       go_wp2
       go_ret
       exact ⟨rfl, HB.out⟩
      | true =>
       rw [if_pos rfl] at hr
       have HH2 := Aside0.mk hr
       clear hr
       go_wp2
       have hw : wrap64 (i + 1) = i + 1 := by
        have := HM.out
        have := hi.out
        have := C2.out
        unfold wrap64
        omega
       have h1 := hi.out
       have h2 := C2.out
       go_roundg (gk - 1)
       case measure => omega
       case rel => exact ⟨i + 1, by rw [hw], ⟨by omega⟩, ⟨HH2.out⟩, ⟨HB.out⟩⟩
    · have c2b0 : decide (i < (l0.length : Int)) = false := decide_eq_false c2
      have hd : l0.drop i.toNat = [] := List.drop_eq_nil_of_le (by have := hi.out; omega)
      have hr := HH.out
      rw [hd, relayref06_Same.go] at hr
      obtain rfl := Option.some.inj hr
      go_wp2
      go_ret
      exact ⟨rfl, HB.out⟩
 · rw [if_neg hl] at h
   obtain rfl := Option.some.inj h
   have hn : ¬ ((l0.length : Int) = (l1.length : Int)) := fun e => hl (by omega)
   have b0 : ((l0.length : Int) == (l1.length : Int)) = false := beq_eq_false_iff_ne.mpr hn
   have b1 : ((l0.length : Int) != (l1.length : Int)) = true := bne_iff_ne.mpr hn
   clear hn
   go_enter Try.func18, Try.ntmps18
   go_wp2
   go_ret
   exact ⟨rfl, by repeat (first | (with_reducible first | exact HB.out | apply below_alloc | apply pw_below_drewN | apply below_drew1) | exact HB.out)⟩

end Go.Proofs.Ytmdkbhbconnmmaa.XIl
