-- WRITTEN BY wip/tools/sfc/all.py
import Derived.Test.YtmdkbhbconnmmaaXSfcB
namespace Go.Proofs.Ytmdkbhbconnmmaa.XSfc
open Go.RowKit Go.Proofs.YtmdkbhbconnmmaaW.PrintWords Go.Proofs.YtmdkbhbconnmmaaW.PrintLast Go.Proofs.YtmdkbhbconnmmaaW.PrintMore
attribute [local go_sem] max2_int min2_int max_two min_two max_three min_three max_four min_four
set_option linter.unusedVariables false
set_option linter.unusedSimpArgs false
theorem two_blk {w : World} {o1 o2 : Obj} : ((w.alloc o1).alloc o2).heap[w.heap.size]? = some o1 ∧ ((w.alloc o1).alloc o2).heap[w.heap.size + 1]? = some o2 := ⟨blk_alloc (blk_new w o1) o2, by
 have h := blk_new (w.alloc o1) o2
 have e : (w.alloc o1).heap.size = w.heap.size + 1 := by simp
 rwa [e] at h⟩
/-- A statement with an expression alone (Op: what it is). -/
def stmtOf (op : Int) (e : S65) : S46 := ⟨op, 0, ⟨#[]⟩, 0, [e], [], [], [], [], [], [], 0, 0, 0⟩
set_option maxHeartbeats 2000000 in
set_option maxRecDepth 100000 in
theorem relayref08_held.calls (x : S65) (aA7 : Option Addr) (ac7 : Nat) (aA8 : Option Addr) (ac8 : Nat) (w : World) (ahc0 : Kd.C k65 w aA7 x.f5.length x.f5) (ahl0 : x.f5.length ≤ ac7) (ahc1 : Kd.C Kd.string w aA8 x.f6.length x.f6) (ahl1 : x.f6.length ≤ ac8) :
  Calls Try.prog 41 #[.agg #[.int .i64 x.f0, .int .i64 x.f1, .string x.f2, .string x.f3, .int .u8 x.f4.f0, .int .u64 x.f4.f1, .string x.f4.f2, .slice aA7 x.f5.length ac7, .slice aA8 x.f6.length ac8, .int .u8 x.f7, .int .i64 x.f8, .int .i64 x.f9, .int .i64 x.f10, .int .i64 x.f11]] w fun e w' => ∃ g, e = .returned (.slice (some ⟨g, 0, none⟩) 1 1) ∧ k46.C w' (some ⟨g, 0, none⟩) 1 [stmtOf 12 x] ∧ Below w.heap.size w w' := by
 have hu := Try.underlying65
 have hu42 := Try.underlying42
 have hu46 := Try.underlying46
 have hu27 := Try.underlying27
 have HB := Aside0.mk (Below.refl w.heap.size w)
 have HC0 := Aside0.mk (And.intro ahc0 ahl0)
 have HC1 := Aside0.mk (And.intro ahc1 ahl1)
 clear ahc0 ahl0 ahc1 ahl1
 go_enter Try.func41, Try.ntmps41
 go_wp2_with (first | ((with_reducible refine gate_dst (N := 1) rfl ?_); refine box_event ?hg (N := 1) ?hd (cs := #[.int .i64 x.f0, .int .i64 x.f1, .string x.f2, .string x.f3, .int .u8 x.f4.f0, .int .u64 x.f4.f1, .string x.f4.f2, .slice aA7 x.f5.length ac7, .slice aA8 x.f6.length ac8, .int .u8 x.f7, .int .i64 x.f8, .int .i64 x.f9, .int .i64 x.f10, .int .i64 x.f11]) (t := 65) ?hr ?_; (case hd => rfl); (case hg => rfl); (case hr => first | (go_simp; done) | (go_simp; rfl)); intro g1 hg w1 hbox hb; have n0_ := Aside0.mk (below_step (by repeat (first | (with_reducible first | exact HB.out | apply below_alloc | apply pw_below_drewN | apply below_drew1) | exact HB.out)) hb); have G1 := Aside0.mk ((by rw [hg]; exact below_size (by repeat (first | (with_reducible first | exact HB.out | apply below_alloc | apply pw_below_drewN | apply below_drew1) | exact HB.out))) : w.heap.size ≤ g1); have B1 := Aside0.mk hbox; clear HB; have HB := n0_; clear n0_ hb hbox hg; obtain ⟨_, _, _, _, _, _, _, _, _, _, _, _, _, _, _, _, _, _, _, _, _, _, _, _, _, _, _, _⟩ := cells14 B1.out))
 go_ret
 have hB := below_alloc (below_alloc HB.out (.cells #[.int .i64 x.f0, .int .i64 x.f1, .string x.f2, .string x.f3, .int .u8 x.f4.f0, .int .u64 x.f4.f1, .string x.f4.f2, .slice aA7 x.f5.length ac7, .slice aA8 x.f6.length ac8, .int .u8 x.f7, .int .i64 x.f8, .int .i64 x.f9, .int .i64 x.f10, .int .i64 x.f11] 65 (0, 0))) (.cells #[.int .i64 12, .int .i64 0, .string (⟨#[]⟩ : ByteArray), .int .i64 0, .slice (some ⟨w1.heap.size, 0, none⟩) 1 1, .slice none 0 0, .slice none 0 0, .slice none 0 0, .slice none 0 0, .slice none 0 0, .slice none 0 0, .int .u8 0, .int .i64 0, .int .i64 0] 46 (0, 0))
 exact ⟨w1.heap.size + 1, rfl, C_one two_blk.2 (k46_mk _ (stmtOf 12 x) (Nat.le_refl _) (C_one two_blk.1 (k65_mk _ x HC0.out.2 (Kd.C_below HC0.out.1 hB) HC1.out.2 (Kd.C_below HC1.out.1 hB))) (Nat.le_refl _) (Kd.C_nil _ _) (Nat.le_refl _) (Kd.C_nil _ _) (Nat.le_refl _) (Kd.C_nil _ _) (Nat.le_refl _) (Kd.C_nil _ _) (Nat.le_refl _) (Kd.C_nil _ _) (Nat.le_refl _) (Kd.C_nil _ _)), hB⟩
set_option maxHeartbeats 2000000 in
set_option maxRecDepth 100000 in
theorem sfc_expr.calls (x : S65) (aA7 : Option Addr) (ac7 : Nat) (aA8 : Option Addr) (ac8 : Nat) (w : World) (ahc0 : Kd.C k65 w aA7 x.f5.length x.f5) (ahl0 : x.f5.length ≤ ac7) (ahc1 : Kd.C Kd.string w aA8 x.f6.length x.f6) (ahl1 : x.f6.length ≤ ac8) :
  Calls Try.prog 55 #[.agg #[.int .i64 x.f0, .int .i64 x.f1, .string x.f2, .string x.f3, .int .u8 x.f4.f0, .int .u64 x.f4.f1, .string x.f4.f2, .slice aA7 x.f5.length ac7, .slice aA8 x.f6.length ac8, .int .u8 x.f7, .int .i64 x.f8, .int .i64 x.f9, .int .i64 x.f10, .int .i64 x.f11]] w fun e w' => ∃ g, e = .returned (.slice (some ⟨g, 0, none⟩) 1 1) ∧ k46.C w' (some ⟨g, 0, none⟩) 1 [stmtOf 1 x] ∧ Below w.heap.size w w' := by
 have hu := Try.underlying65
 have hu42 := Try.underlying42
 have hu46 := Try.underlying46
 have hu27 := Try.underlying27
 have HB := Aside0.mk (Below.refl w.heap.size w)
 have HC0 := Aside0.mk (And.intro ahc0 ahl0)
 have HC1 := Aside0.mk (And.intro ahc1 ahl1)
 clear ahc0 ahl0 ahc1 ahl1
 go_enter Try.func55, Try.ntmps55
 go_wp2_with (first | ((with_reducible refine gate_dst (N := 1) rfl ?_); refine box_event ?hg (N := 1) ?hd (cs := #[.int .i64 x.f0, .int .i64 x.f1, .string x.f2, .string x.f3, .int .u8 x.f4.f0, .int .u64 x.f4.f1, .string x.f4.f2, .slice aA7 x.f5.length ac7, .slice aA8 x.f6.length ac8, .int .u8 x.f7, .int .i64 x.f8, .int .i64 x.f9, .int .i64 x.f10, .int .i64 x.f11]) (t := 65) ?hr ?_; (case hd => rfl); (case hg => rfl); (case hr => first | (go_simp; done) | (go_simp; rfl)); intro g1 hg w1 hbox hb; have n0_ := Aside0.mk (below_step (by repeat (first | (with_reducible first | exact HB.out | apply below_alloc | apply pw_below_drewN | apply below_drew1) | exact HB.out)) hb); have G1 := Aside0.mk ((by rw [hg]; exact below_size (by repeat (first | (with_reducible first | exact HB.out | apply below_alloc | apply pw_below_drewN | apply below_drew1) | exact HB.out))) : w.heap.size ≤ g1); have B1 := Aside0.mk hbox; clear HB; have HB := n0_; clear n0_ hb hbox hg; obtain ⟨_, _, _, _, _, _, _, _, _, _, _, _, _, _, _, _, _, _, _, _, _, _, _, _, _, _, _, _⟩ := cells14 B1.out))
 go_ret
 have hB := below_alloc (below_alloc HB.out (.cells #[.int .i64 x.f0, .int .i64 x.f1, .string x.f2, .string x.f3, .int .u8 x.f4.f0, .int .u64 x.f4.f1, .string x.f4.f2, .slice aA7 x.f5.length ac7, .slice aA8 x.f6.length ac8, .int .u8 x.f7, .int .i64 x.f8, .int .i64 x.f9, .int .i64 x.f10, .int .i64 x.f11] 65 (0, 0))) (.cells #[.int .i64 1, .int .i64 0, .string (⟨#[]⟩ : ByteArray), .int .i64 0, .slice (some ⟨w1.heap.size, 0, none⟩) 1 1, .slice none 0 0, .slice none 0 0, .slice none 0 0, .slice none 0 0, .slice none 0 0, .slice none 0 0, .int .u8 0, .int .i64 0, .int .i64 0] 46 (0, 0))
 exact ⟨w1.heap.size + 1, rfl, C_one two_blk.2 (k46_mk _ (stmtOf 1 x) (Nat.le_refl _) (C_one two_blk.1 (k65_mk _ x HC0.out.2 (Kd.C_below HC0.out.1 hB) HC1.out.2 (Kd.C_below HC1.out.1 hB))) (Nat.le_refl _) (Kd.C_nil _ _) (Nat.le_refl _) (Kd.C_nil _ _) (Nat.le_refl _) (Kd.C_nil _ _) (Nat.le_refl _) (Kd.C_nil _ _) (Nat.le_refl _) (Kd.C_nil _ _) (Nat.le_refl _) (Kd.C_nil _ _)), hB⟩
end Go.Proofs.Ytmdkbhbconnmmaa.XSfc
