-- WRITTEN BY wip/tools/xprint.py out of the translation: the kit's print with this work's hooks.
import Derived.Test.YtmdkbhbconnmmaaXIlx0
namespace Go.Proofs.Ytmdkbhbconnmmaa.XIl
open Go.RowKit Go.Proofs.YtmdkbhbconnmmaaW.PrintWords Go.Proofs.YtmdkbhbconnmmaaW.PrintLast Go.Proofs.YtmdkbhbconnmmaaW.PrintMore
attribute [local go_sem] max2_int min2_int max_two min_two max_three min_three max_four min_four   -- for this text's walks alone
set_option linter.unusedVariables false
set_option linter.unusedSimpArgs false

/-! ### il_sets: function 47 -/
theorem info46 : (Try.prog.info? 46).map (fun i => (i.zero, i.size, i.bytes)) = some (some (.agg #[(.int .i64 0), (.int .i64 0), (.string ⟨#[]⟩), (.int .i64 0), (.slice none 0 0), (.slice none 0 0), (.slice none 0 0), (.slice none 0 0), (.slice none 0 0), (.slice none 0 0), (.slice none 0 0), (.int .u8 0), (.int .i64 0), (.int .i64 0)]), 14, 232) := by kernel_rfl
/-- A statement with an expression alone (Op: what it is). -/
def stmtOf (op : Int) (e : S65) : S46 := ⟨op, 0, ⟨#[]⟩, 0, [e], [], [], [], [], [], [], 0, 0, 0⟩
def stmtCells (op : Int) (g : Nat) : List Value := [.int .i64 op, .int .i64 0, .string ⟨#[]⟩, .int .i64 0, .slice (some ⟨g, 0, none⟩) 1 1, .slice none 0 0, .slice none 0 0, .slice none 0 0, .slice none 0 0, .slice none 0 0, .slice none 0 0, .int .u8 0, .int .i64 0, .int .i64 0]
/-- Such statements whose expressions lead to what lay at w0. -/
def kset (op : Int) (w0 : World) : Kd S65 where
 sz := 14
 E := [65]
 K := fun w e cs => ∃ g es, cs = stmtCells op g ∧ w.heap[g]? = some (.cells (List.toArray es) 65 (0, 0)) ∧ k65.K w0 e es
 M := fun w base ok e cs => ∃ g es, cs = stmtCells op g ∧ w.heap[g]? = some (.cells (List.toArray es) 65 (0, 0)) ∧ k65.K w0 e es ∧ ok g ∧ base ≤ g
 K_len := by
  rintro w e cs ⟨g, es, rfl, _⟩
  rfl
 K_one := by
  rintro w e cs ⟨g, es, rfl, _⟩ u hu
  simp only [stmtCells, List.mem_cons, List.not_mem_nil, or_false] at hu
  rcases hu with rfl | rfl | rfl | rfl | rfl | rfl | rfl | rfl | rfl | rfl | rfl | rfl | rfl | rfl <;> rfl
 K_below := by
  rintro w w1 e cs hb ⟨g, es, rfl, h, hk⟩
  exact ⟨g, es, rfl, blk_below h hb, hk⟩
 K_of_M := by
  rintro w base ok e cs ⟨g, es, rfl, h, hk, _⟩
  exact ⟨g, es, rfl, h, hk⟩
 M_mono := by
  rintro w base ok ok' e cs hok ⟨g, es, rfl, h, hk, h1, h2⟩
  exact ⟨g, es, rfl, h, hk, hok _ h1, h2⟩
 M_bound := by
  rintro w base ok e cs ⟨g, es, rfl, h, hk, h1, h2⟩
  exact ⟨g, es, rfl, h, hk, ⟨h1, h2, blk_lt h, 65, List.mem_singleton.2 rfl, _, h⟩, h2⟩
 M_move := by
  rintro w w1 base ok e cs hm ⟨g, es, rfl, h, hk, h1, h2⟩
  exact ⟨g, es, rfl, (hm g h1).trans h, hk, h1, h2⟩
 M_lower := by
  rintro w base base' ok e cs hb ⟨g, es, rfl, h, hk, h1, h2⟩
  exact ⟨g, es, rfl, h, hk, h1, Nat.le_trans hb h2⟩
theorem kset_K {op : Int} {w0 w : World} {e : S65} {cs : List Value} (hB : Below w0.heap.size w0 w) (h : (kset op w0).K w e cs) : k46.K w (stmtOf op e) cs := by
 obtain ⟨g, es, rfl, hg, hk⟩ := h
 exact k46_mk w (stmtOf op e) (Nat.le_refl _) (C_one hg (k65.K_below hB hk)) (Nat.le_refl _) (Kd.C_nil _ _) (Nat.le_refl _) (Kd.C_nil _ _) (Nat.le_refl _) (Kd.C_nil _ _) (Nat.le_refl _) (Kd.C_nil _ _) (Nat.le_refl _) (Kd.C_nil _ _) (Nat.le_refl _) (Kd.C_nil _ _)
theorem kset_C {op : Int} {w0 w : World} {A : Option Addr} {n : Nat} {l : List S65} (hB : Below w0.heap.size w0 w) (h : (kset op w0).C w A n l) : k46.C w A n (l.map (stmtOf op)) := by
 obtain ⟨h1, h2, h3⟩ := h
 refine ⟨by rw [List.length_map]; exact h1, h2, fun hn => ?_⟩
 obtain ⟨ad, e, hc⟩ := h3 hn
 refine ⟨ad, e, fun j p hp => ?_⟩
 rw [List.getElem?_map] at hp
 obtain ⟨q, hq, rfl⟩ := Option.map_eq_some_iff.1 hp
 obtain ⟨c, hl, hK, hcell⟩ := hc j q hq
 exact ⟨c, hl, kset_K hB hK, hcell⟩
/-- A slice whose elements are read: what it leads to may be anyone's. -/
def RC (w : World) (v : Value) (xs : List S46) : Prop := ∃ A c, v = .slice A xs.length c ∧ xs.length ≤ c ∧ k46.C w A xs.length xs
namespace Rc
variable {w W w1 : World} {v u : Value} {xs ys : List S46}
theorem R_below (h : RC w v xs) (hb : Below w.heap.size w w1) : RC w1 v xs := by
 obtain ⟨A, c, rfl, hl, hC⟩ := h
 exact ⟨A, c, rfl, hl, Kd.C_below hC hb⟩
theorem R_alloc (h : RC w v xs) (o : Obj) : RC (w.alloc o) v xs := R_below h (below_alloc (Below.refl _ _) o)
theorem R_drew (h : RC w v xs) : RC w.drew v xs := R_below h (below_drew (Below.refl _ _))
theorem R_drewN (h : RC w v xs) (m : Nat) : RC (w.drewN m) v xs := R_below h (pw_below_drewN (Below.refl _ _) m)
theorem R_base (_ : RC w v xs) : True := trivial
theorem R_lt (_ : RC w v xs) : True := trivial
theorem R_elder' (h : RC w v xs) (_ : True) (hb : Below w.heap.size w w1) : RC w1 v xs := R_below h hb
theorem R_new' (h : RC w v xs) (_ : True) : RC w v xs := h
theorem R_lower (h : RC w v xs) {m n : Nat} (_ : m ≤ n) : RC w v xs := h
theorem R_slice (h : RC w v xs) : ∃ A c, v = .slice A xs.length c := by
 obtain ⟨A, c, rfl, _⟩ := h
 exact ⟨A, c, rfl⟩
theorem R_reads' {A : Option Addr} {n c : Nat} (h : RC w (.slice A n c) xs) : n = xs.length ∧ n ≤ c ∧ k46.C w A xs.length xs := by
 obtain ⟨A', c', e, hl, hC⟩ := h
 cases e
 exact ⟨rfl, hl, hC⟩
end Rc
def il_sets.f (l0 : List S65) : Option (List S46) := if l0.length * 232 ≤ 140737488355328 then some (l0.map (stmtOf 1)) else none
set_option maxHeartbeats 1000000 in
set_option maxRecDepth 100000 in
theorem il_sets.calls (A0 : Option Addr) (c0 : Nat) (l0 : List (S65)) (r : List (S46)) (w : World) (hr0 : Kd.C k65 w A0 l0.length l0) (hc0 : l0.length ≤ c0) (h : il_sets.f l0 = some r) :
 Calls Try.prog 47 #[.slice A0 l0.length c0] w fun e w' => ∃ v0_ : Value, e = .returned v0_ ∧ RC w' v0_ r ∧ Below w.heap.size w w' := by
 have hu65 := Try.underlying65
 have hu42 := Try.underlying42
 have hb : l0.length * 232 ≤ 140737488355328 ∧ r = l0.map (stmtOf 1) := by
  unfold il_sets.f at h
  split at h
  · exact ⟨‹_›, (Option.some.inj h).symm⟩
  · cases h
 obtain ⟨hb, rfl⟩ := hb
 clear h
 have HL := Aside0.mk hb
 clear hb
 have HR0 := Aside0.mk hr0
 have HC0 := Aside0.mk hc0
 clear hr0 hc0
 have HB := Aside0.mk (Below.refl w.heap.size w)
 go_enter Try.func47, Try.ntmps47
 go_wp2
 go_loopg [3, 8] (l0.length + 1) (fun kq v3 v8 w' => ∃ (x8_1 : Int), v8 = .int .i64 x8_1 ∧ Aside0 (0 ≤ x8_1 ∧ x8_1 ≤ l0.length ∧ (kq : Int) = l0.length + 1 - x8_1) ∧ Aside0 (Kd.R (kset 1 w) 46 w' w.heap.size (fun _ => True) v3 (l0.take x8_1.toNat)) ∧ Aside0 (Below w.heap.size w w'))
 case atStart => exact ⟨0, (by first | rfl | (simp; done)), ⟨by omega⟩, ⟨by exact Kd.R_nil _ _ _ _ _⟩, ⟨by repeat (first | (with_reducible first | exact HB.out | apply below_alloc | apply pw_below_drewN | apply below_drew1) | exact HB.out)⟩⟩
 case round =>
  obtain ⟨x8_1, rfl, hi, HO_3, HB⟩ := hrel
  obtain ⟨hi0, hi1, hi2⟩ := hi.out
  by_cases c2 : x8_1 < (l0.length : Int)
  · have c2b0 : decide (x8_1 < (l0.length : Int)) = true := decide_eq_true c2
    obtain ⟨ad101, A101_7, c101_7, A101_8, c101_8, e101, hx101_0, hx101_1, hx101_2, hx101_3, hx101_4, hx101_5, hx101_6, hx101_7, hx101_8, hx101_9, hx101_10, hx101_11, hx101_12, hx101_13, hl101_7, hi101_7, hl101_8, hi101_8⟩ := at_T65 HR0.out x8_1 hi0 c2
    cases e101
    replace hx101_0 := (HB.out.cell (World.block_lt_of_cell? w _ hx101_0)).trans hx101_0
    replace hx101_1 := (HB.out.cell (World.block_lt_of_cell? w _ hx101_1)).trans hx101_1
    replace hx101_2 := (HB.out.cell (World.block_lt_of_cell? w _ hx101_2)).trans hx101_2
    replace hx101_3 := (HB.out.cell (World.block_lt_of_cell? w _ hx101_3)).trans hx101_3
    replace hx101_4 := (HB.out.cell (World.block_lt_of_cell? w _ hx101_4)).trans hx101_4
    replace hx101_5 := (HB.out.cell (World.block_lt_of_cell? w _ hx101_5)).trans hx101_5
    replace hx101_6 := (HB.out.cell (World.block_lt_of_cell? w _ hx101_6)).trans hx101_6
    replace hx101_7 := (HB.out.cell (World.block_lt_of_cell? w _ hx101_7)).trans hx101_7
    replace hx101_8 := (HB.out.cell (World.block_lt_of_cell? w _ hx101_8)).trans hx101_8
    replace hx101_9 := (HB.out.cell (World.block_lt_of_cell? w _ hx101_9)).trans hx101_9
    replace hx101_10 := (HB.out.cell (World.block_lt_of_cell? w _ hx101_10)).trans hx101_10
    replace hx101_11 := (HB.out.cell (World.block_lt_of_cell? w _ hx101_11)).trans hx101_11
    replace hx101_12 := (HB.out.cell (World.block_lt_of_cell? w _ hx101_12)).trans hx101_12
    replace hx101_13 := (HB.out.cell (World.block_lt_of_cell? w _ hx101_13)).trans hx101_13
    have p101 := eq_true hi0
    have q101 := eq_true c2
    have C2 := Aside0.mk c2
    clear hi0 hi1 hi2 c2
    go_wp2_with (first | ((with_reducible refine gate_dst (N := 5) rfl ?_); refine box_event ?hg (N := 5) ?hd (cs := #[.int .i64 0, .int .i64 0, .string (⟨#[]⟩ : ByteArray), .string (⟨#[]⟩ : ByteArray), .int .u8 0, .int .u64 0, .string (⟨#[]⟩ : ByteArray), .slice none 0 0, .slice none 0 0, .int .u8 0, .int .i64 0, .int .i64 0, .int .i64 0, .int .i64 0]) (t := 65) ?hr ?_; (case hd => rfl); (case hg => rfl); (case hr => first | (go_simp; done) | (go_simp; rfl)); intro gb102 hg w7 hbox hb; have n0_ := Aside0.mk (Kd.R_below (Kd.R_elderB (by (with_reducible repeat (first | apply Kd.R_alloc | apply Kd.R_drewN | apply Kd.R_drew)); exact HO_3.out) gb102 (Nat.le_of_eq hg.symm)) hb); have n1_ := Aside0.mk (below_step (by repeat (first | (with_reducible first | exact HB.out | apply below_alloc | apply pw_below_drewN | apply below_drew1) | exact HB.out)) hb); have GE102 := Aside0.mk ((by rw [hg]; exact below_size (by repeat (first | (with_reducible first | exact HB.out | apply below_alloc | apply pw_below_drewN | apply below_drew1) | exact HB.out))) : w.heap.size ≤ gb102); have BK102 := Aside0.mk hbox; clear HO_3 HB; have HO_3 := n0_; have HB := n1_; clear n0_ n1_ hb hbox hg; obtain ⟨_, _, _, _, _, _, _, _, _, _, _, _, _, _, _, _, _, _, _, _, _, _, _, _, _, _, _, _⟩ := cells14 BK102.out) | ((with_reducible refine gate_dst (N := 14) rfl ?_); refine slice_event ?hg (N := 14) ?hd (cs := List.toArray [.int .i64 (rd_T65 l0 x8_1).f0, .int .i64 (rd_T65 l0 x8_1).f1, .string (rd_T65 l0 x8_1).f2, .string (rd_T65 l0 x8_1).f3, .int .u8 (rd_T65 l0 x8_1).f4.f0, .int .u64 (rd_T65 l0 x8_1).f4.f1, .string (rd_T65 l0 x8_1).f4.f2, .slice A101_7 (rd_T65 l0 x8_1).f5.length c101_7, .slice A101_8 (rd_T65 l0 x8_1).f6.length c101_8, .int .u8 (rd_T65 l0 x8_1).f7, .int .i64 (rd_T65 l0 x8_1).f8, .int .i64 (rd_T65 l0 x8_1).f9, .int .i64 (rd_T65 l0 x8_1).f10, .int .i64 (rd_T65 l0 x8_1).f11]) (t := 65) (n := 1) ?hr ?_; (case hd => rfl); (case hg => rfl); (case hr => intro W'; first | (go_simp; done) | (go_simp; rfl)); intro gb103 hg w9 hbox hb; have n0_ := Aside0.mk (Kd.R_below (R_far14 HO_3.out (fun _ h => h.2)) hb); have n1_ := Aside0.mk (below_step (below_set14 HB.out GE102.out) hb); have NE := Aside0.mk (ne_of_R (R_far14 HO_3.out (fun _ h => h.2)) hb hg); have GE103 := Aside0.mk (ge_of (below_set14 HB.out GE102.out) hb hg); have BK103 := Aside0.mk hbox; clear HO_3 HB; have HO_3 := n0_; have HB := n1_; clear n0_ n1_ hb hbox hg) | ((with_reducible refine gate_builtin (b := .append) (xs := #[.tmp 12, .tmp 16]) rfl ?_); at_builtin; refine Kd.R_append (kset 1 w) (w0 := w) w.heap.size rfl (.tmp 12) (.tmp 16) 27 46 (.agg #[(.int .i64 0), (.int .i64 0), (.string ⟨#[]⟩), (.int .i64 0), (.slice none 0 0), (.slice none 0 0), (.slice none 0 0), (.slice none 0 0), (.slice none 0 0), (.slice none 0 0), (.slice none 0 0), (.int .u8 0), (.int .i64 0), (.int .i64 0)]) 232 rfl Try.underlying27 info46 rfl (Nat.zero_lt_succ 13) (by omega) u3 (l0.take x8_1.toNat) (rd_T65 l0 x8_1) [.int .i64 1, .int .i64 0, .string ⟨#[]⟩, .int .i64 0, .slice (some ⟨gb103, 0, none⟩) 1 1, .slice none 0 0, .slice none 0 0, .slice none 0 0, .slice none 0 0, .slice none 0 0, .slice none 0 0, .int .u8 0, .int .i64 0, .int .i64 0] (fun _ => True) (fun k => k = gb103) rfl rfl ?aP ?aQ (fun _ _ => trivial) ?aO ?aB ?aS ?aL ?_; (case aP => exact ⟨gb103, _, rfl, BK103.out, k65_mk w (rd_T65 l0 x8_1) hl101_7 hi101_7 hl101_8 hi101_8, rfl, GE103.out⟩); (case aQ => exact fun k hk => ⟨trivial, hk ▸ NE.out⟩); (case aO => exact Kd.R_mono HO_3.out (fun _ _ => trivial)); (case aB => exact HB.out); (case aS => exact below_size HB.out); (case aL => have := HL.out; have := C2.out; have := hi.out.1; rw [List.length_take]; omega); intro v10 w10 ho hb hg hat; have n0_ := Aside0.mk ho; have n1_ := Aside0.mk hb; clear HO_3 HB; have HO_3 := n0_; have HB := n1_; clear n0_ n1_ hb ho hg hat))
    obtain ⟨hi0, hi1, hi2⟩ := hi.out
    have c2 := C2.out
    go_roundg (gk - 1)
    case measure => omega
    case rel =>
     have hw : wrap64 (x8_1 + 1) = x8_1 + 1 := by
      have := HL.out
      unfold wrap64
      omega
     have ht : l0.take (x8_1 + 1).toNat = l0.take x8_1.toNat ++ [rd_T65 l0 x8_1] := by
      have hlt : x8_1.toNat < l0.length := by omega
      have e1 : (x8_1 + 1).toNat = x8_1.toNat + 1 := by omega
      rw [e1, List.take_add_one]
      simp [rd_T65, hlt]
     refine ⟨x8_1 + 1, by rw [hw], ⟨by omega⟩, ⟨?_⟩, ⟨HB.out⟩⟩
     rw [ht]
     exact HO_3.out
  · have c2b0 : decide (x8_1 < (l0.length : Int)) = false := decide_eq_false c2
    go_wp2
    go_ret
    obtain rfl : x8_1 = l0.length := by omega
    rw [Int.toNat_natCast, List.take_length] at HO_3
    obtain ⟨A, c, rfl, hl, hC⟩ := Kd.R_reads HO_3.out
    have hC := kset_C HB.out hC
    exact ⟨_, rfl, ⟨A, c, by simp, by simpa using hl, by simpa using hC⟩, HB.out⟩

/-! ### slices_Equal_string_string: function 22 -/
def slices_Equal_string_string.l0 : Nat → List ByteArray → List ByteArray → Int → Int → Option (Bool)
 | 0, _, _, _, _ => none
 | k + 1, x0, x1, x12, x13 => if x13 < x12 then (if 0 ≤ x13 then (if x13 < (x0.length : Int) then (if x13 < (x1.length : Int) then (if (rdOf ByteArray.empty x0 x13).toList = (rdOf ByteArray.empty x1 x13).toList then (slices_Equal_string_string.l0 k x0 x1 x12 (wrap64 (x13 + 1))) else (some false)) else (none)) else (none)) else (none)) else (some true)
def slices_Equal_string_string.f (k : Nat) (l0 : List ByteArray) (l1 : List ByteArray) : Option (Bool) := if (l0.length : Int) = (l1.length : Int) then (slices_Equal_string_string.l0 k l0 l1 (l0.length : Int) 0) else (some false)
theorem slices_Equal_string_string.mono_l : ∀ k, (∀ y0 y1 y2 y3, LeO (slices_Equal_string_string.l0 k y0 y1 y2 y3) (slices_Equal_string_string.l0 (k + 1) y0 y1 y2 y3))
 | 0 => fun _ _ _ _ r h => by simp [slices_Equal_string_string.l0] at h
 | k + 1 => by
  have ih0 := slices_Equal_string_string.mono_l k
  · intro y0 y1 y2 y3
    unfold slices_Equal_string_string.l0
    repeat' first
    | (with_reducible exact ih0 _ _ _ _)
    | (with_reducible exact LeO.refl _)
    | (with_reducible exact LeO.none _)
    | (with_reducible refine LeO.ite ?_ ?_)
    | (with_reducible refine LeO.bind ?_ (fun _ => ?_))
    | exact ih0 _ _ _ _
    | exact LeO.none _
    | refine LeO.ite ?_ ?_
    | refine LeO.bind ?_ (fun _ => ?_)
theorem slices_Equal_string_string.mono : ∀ a0 a1 k, LeO (slices_Equal_string_string.f k a0 a1) (slices_Equal_string_string.f (k + 1) a0 a1) := by
 intro a0 a1 k
 have ih0 := slices_Equal_string_string.mono_l k
 unfold slices_Equal_string_string.f
 repeat' first
  | (with_reducible exact ih0 _ _ _ _)
  | (with_reducible exact LeO.refl _)
  | (with_reducible exact LeO.none _)
  | (with_reducible refine LeO.ite ?_ ?_)
  | (with_reducible refine LeO.bind ?_ (fun _ => ?_))
  | exact ih0 _ _ _ _
  | exact LeO.none _
  | refine LeO.ite ?_ ?_
  | refine LeO.bind ?_ (fun _ => ?_)
set_option maxHeartbeats 8000000 in
set_option maxRecDepth 100000 in
theorem slices_Equal_string_string.calls (k : Nat) (A0 : Option Addr) (c0 : Nat) (l0 : List ByteArray) (A1 : Option Addr) (c1 : Nat) (l1 : List ByteArray) (r : Bool) (w : World) (hr0 : Kd.C Kd.string w A0 l0.length l0) (hc0 : l0.length ≤ c0) (hr1 : Kd.C Kd.string w A1 l1.length l1) (hc1 : l1.length ≤ c1) (h : slices_Equal_string_string.f k l0 l1 = some r) :
 Calls Try.prog 22 #[.slice A0 l0.length c0, .slice A1 l1.length c1] w fun e w' => e = .returned (.bool r) ∧ Drawn0 w w' := by
 have HR0 := Aside0.mk hr0
 have HC0 := Aside0.mk hc0
 clear hr0 hc0
 have HR1 := Aside0.mk hr1
 have HC1 := Aside0.mk hc1
 clear hr1 hc1
 have H : (if (l0.length : Int) = (l1.length : Int) then (slices_Equal_string_string.l0 k l0 l1 (l0.length : Int) 0) else (some false)) = some r := h
 clear h
 by_cases c3 : (l0.length : Int) = (l1.length : Int)
 · rw [if_pos c3] at H
   have c3b0 : ((l0.length : Int) == (l1.length : Int)) = true := beq_iff_eq.mpr c3
   have c3b1 : ((l0.length : Int) != (l1.length : Int)) = false := bne_eq_false_iff_eq.mpr c3
   have c3b2 : (l0.length == l1.length) = true := by first | simpa using c3 | (simp at c3 ⊢; omega)
   clear c3
   have H' := Aside0.mk H
   clear H
   go_enter Try.func22, Try.ntmps22
   go_wp2
   repeat (go_quiet (fail); try go_wp2)
   go_loopg [13] k (fun kq v13 w' => ∃ (x13_1 : Int), v13 = .int .i64 x13_1 ∧ Aside0 (slices_Equal_string_string.l0 kq l0 l1 (l0.length : Int) x13_1 = some r) ∧ Aside0 (kq ≤ k) ∧ Drawn0 w w')
   case atStart => exact ⟨(0), (by first | rfl | (simp; done) | (simp [*]; done) | (simp [*, bne]; done)), H', ⟨Nat.le_refl _⟩, by repeat (first | exact Drawn0.refl _ | apply Drawn0.step)⟩
   case round =>
    clear H'
    try clear c1
    try clear c2
    try clear p2
    try clear c3
    try clear c3b0
    try clear c3b1
    try clear c3b2
    obtain ⟨x13_1, rfl, HA, HK1, ⟨m1, rfl⟩⟩ := hrel
    cases gk with
    | zero => exact absurd HA.out (by simp [slices_Equal_string_string.l0])
    | succ k1 =>
     have H := HA.out
     clear HA
     simp only [slices_Equal_string_string.l0] at H
     by_cases c4 : x13_1 < (l0.length : Int)
     · rw [if_pos c4] at H
       have c4b0 : decide (x13_1 < (l0.length : Int)) = true := decide_eq_true c4
       clear c4
       by_cases c5 : 0 ≤ x13_1
       · rw [if_pos c5] at H
         have c5b0 : decide (0 ≤ x13_1) = true := decide_eq_true c5
         clear c5
         by_cases c6 : x13_1 < (l0.length : Int)
         · rw [if_pos c6] at H
           have c6b0 : decide (x13_1 < (l0.length : Int)) = true := decide_eq_true c6
           clear c6
           by_cases c7 : x13_1 < (l1.length : Int)
           · rw [if_pos c7] at H
             have c7b0 : decide (x13_1 < (l1.length : Int)) = true := decide_eq_true c7
             clear c7
             by_cases c8 : (rdOf ByteArray.empty l0 x13_1).toList = (rdOf ByteArray.empty l1 x13_1).toList
             · rw [if_pos c8] at H
               have c8b0 : ((rdOf ByteArray.empty l0 x13_1).toList == (rdOf ByteArray.empty l1 x13_1).toList) = true := beq_iff_eq.mpr c8
               have c8b1 : ((rdOf ByteArray.empty l0 x13_1).toList != (rdOf ByteArray.empty l1 x13_1).toList) = false := bne_eq_false_iff_eq.mpr c8
               clear c8
               have H' := Aside0.mk H
               clear H
               have p118 : 0 ≤ (x13_1 : Int) := of_decide_eq_true (by first | (with_reducible assumption) | assumption)
               have q118 : x13_1 < (l0.length : Int) := of_decide_eq_true (by first | (with_reducible assumption) | assumption)
               obtain ⟨ad118, e118, hx118_0⟩ := Kd.at_string HR0.out x13_1 p118 q118
               cases e118
               replace p118 := eq_true p118
               replace q118 := eq_true q118
               have p119 : 0 ≤ (x13_1 : Int) := of_decide_eq_true (by first | (with_reducible assumption) | assumption)
               have q119 : x13_1 < (l1.length : Int) := of_decide_eq_true (by first | (with_reducible assumption) | assumption)
               obtain ⟨ad119, e119, hx119_0⟩ := Kd.at_string HR1.out x13_1 p119 q119
               cases e119
               replace p119 := eq_true p119
               replace q119 := eq_true q119
               go_wp2
               repeat (go_quiet (fail); try go_wp2)
               go_roundg k1
               case measure => have := HK1.out; omega
               case rel => exact ⟨(wrap64 (x13_1 + 1)), (by first | rfl | (simp; done) | (simp [*]; done) | (simp [*, bne]; done)), H', ⟨by have := HK1.out; omega⟩, by repeat (first | exact Drawn0.refl _ | apply Drawn0.step)⟩
             · rw [if_neg c8] at H
               have c8b0 : ((rdOf ByteArray.empty l0 x13_1).toList == (rdOf ByteArray.empty l1 x13_1).toList) = false := beq_eq_false_iff_ne.mpr c8
               have c8b1 : ((rdOf ByteArray.empty l0 x13_1).toList != (rdOf ByteArray.empty l1 x13_1).toList) = true := bne_iff_ne.mpr c8
               obtain rfl := Option.some.inj H
               have p118 : 0 ≤ (x13_1 : Int) := of_decide_eq_true (by first | (with_reducible assumption) | assumption)
               have q118 : x13_1 < (l0.length : Int) := of_decide_eq_true (by first | (with_reducible assumption) | assumption)
               obtain ⟨ad118, e118, hx118_0⟩ := Kd.at_string HR0.out x13_1 p118 q118
               cases e118
               replace p118 := eq_true p118
               replace q118 := eq_true q118
               have p119 : 0 ≤ (x13_1 : Int) := of_decide_eq_true (by first | (with_reducible assumption) | assumption)
               have q119 : x13_1 < (l1.length : Int) := of_decide_eq_true (by first | (with_reducible assumption) | assumption)
               obtain ⟨ad119, e119, hx119_0⟩ := Kd.at_string HR1.out x13_1 p119 q119
               cases e119
               replace p119 := eq_true p119
               replace q119 := eq_true q119
               go_wp2
               repeat (go_quiet (fail); try go_wp2)
               go_ret
               exact ⟨by first | rfl | (simp; done) | (simp [*]; done) | (simp [*, bne]; done), by repeat (first | exact Drawn0.refl _ | apply Drawn0.step)⟩
           · rw [if_neg c7] at H
             exact absurd H (by simp)
         · rw [if_neg c6] at H
           exact absurd H (by simp)
       · rw [if_neg c5] at H
         exact absurd H (by simp)
     · rw [if_neg c4] at H
       have c4b0 : decide (x13_1 < (l0.length : Int)) = false := decide_eq_false c4
       clear c4
       obtain rfl := Option.some.inj H
       go_wp2
       repeat (go_quiet (fail); try go_wp2)
       go_ret
       exact ⟨by first | rfl | (simp; done) | (simp [*]; done) | (simp [*, bne]; done), by repeat (first | exact Drawn0.refl _ | apply Drawn0.step)⟩
 · rw [if_neg c3] at H
   have c3b0 : ((l0.length : Int) == (l1.length : Int)) = false := beq_eq_false_iff_ne.mpr c3
   have c3b1 : ((l0.length : Int) != (l1.length : Int)) = true := bne_iff_ne.mpr c3
   have c3b2 : (l0.length == l1.length) = false := by first | simpa using c3 | (simp at c3 ⊢; omega)
   obtain rfl := Option.some.inj H
   go_enter Try.func22, Try.ntmps22
   go_wp2
   repeat (go_quiet (fail); try go_wp2)
   go_ret
   exact ⟨by first | rfl | (simp; done) | (simp [*]; done) | (simp [*, bne]; done), by repeat (first | exact Drawn0.refl _ | apply Drawn0.step)⟩

end Go.Proofs.Ytmdkbhbconnmmaa.XIl
