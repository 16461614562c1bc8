-- WRITTEN BY wip/tools/sfc/all.py
import Derived.Test.YtmdkbhbconnmmaaXSfcB
import Derived.Test.YtmdkbhbconnmmaaXSfcx2
import Derived.Test.YtmdkbhbconnmmaaXSfcx3
namespace Go.Proofs.Ytmdkbhbconnmmaa.XSfc
open Go.RowKit Go.Proofs.YtmdkbhbconnmmaaW.PrintWords Go.Proofs.YtmdkbhbconnmmaaW.PrintLast Go.Proofs.YtmdkbhbconnmmaaW.PrintMore
attribute [local go_sem] max2_int min2_int max_two min_two max_three min_three max_four min_four
set_option linter.unusedVariables false
set_option linter.unusedSimpArgs false
theorem info58_ : (Try.prog.info? 58).map (fun i => (i.zero, i.size, i.bytes)) = some (some (.agg #[.int .i64 0, .string (⟨#[]⟩ : ByteArray), .bool false, .slice none 0 0]), Kd.sz k58, 56) := by kernel_rfl
theorem info67_ : (Try.prog.info? 67).map (fun i => (i.zero, i.size, i.bytes)) = some (some (.agg #[.int .i64 0, .string (⟨#[]⟩ : ByteArray), .slice none 0 0, .slice none 0 0, .int .i64 0, .int .i64 0, .string (⟨#[]⟩ : ByteArray), .string (⟨#[]⟩ : ByteArray), .int .u8 0, .int .u64 0, .string (⟨#[]⟩ : ByteArray), .slice none 0 0, .slice none 0 0, .int .u8 0, .int .i64 0, .int .i64 0, .int .i64 0, .int .i64 0]), Kd.sz k67, 240) := by kernel_rfl
theorem info70_ : (Try.prog.info? 70).map (fun i => (i.zero, i.size, i.bytes)) = some (some (.agg #[.int .i64 0, .string (⟨#[]⟩ : ByteArray), .slice none 0 0]), Kd.sz k70, 48) := by kernel_rfl
/-- slices.Clone: the same elements in memory of their own. -/
def api_Link_31.f (l0 : List S61) : Option (List S61) := if l0.length * 48 ≤ 140737488355328 then some l0 else none
set_option maxHeartbeats 800000 in
theorem api_Link_31.nil (c0 : Nat) (w : World) : Calls Try.prog 31 #[.slice none 0 c0] w fun e w' => ∃ v0_ : Value, e = .returned v0_ ∧ Kd.R k61 61 w' w.heap.size (fun _ => True) v0_ [] ∧ Below w.heap.size w w' := by
 have hu := Try.underlying56
 have he := fun W => eql_nil0 Try.prog 56 61 0 c0 Try.underlying56 W
 go_enter Try.func31, Try.ntmps31
 go_wp2
 go_ret
 exact ⟨_, rfl, Kd.R_nil _ _ _ _ _, Below.refl _ _⟩
set_option maxHeartbeats 800000 in
theorem api_Link_31.calls (A0 : Option Addr) (c0 : Nat) (l0 : List S61) (r : List S61) (w : World) (hr0 : Kd.C k61 w A0 l0.length l0) (hc0 : l0.length ≤ c0) (h : api_Link_31.f l0 = some r) :
  Calls Try.prog 31 #[.slice A0 l0.length c0] w fun e w' => ∃ v0_ : Value, e = .returned (v0_) ∧ Kd.R k61 61 w' w.heap.size (fun _ => True) v0_ r ∧ Below w.heap.size w w' := by
 have hb : l0.length * 48 ≤ 140737488355328 ∧ r = l0 := by
  unfold api_Link_31.f at h
  split at h
  ·
   exact ⟨‹_›, (Option.some.inj h).symm⟩
  ·
   cases h
 obtain ⟨hb, rfl⟩ := hb
 clear h
 rcases A0 with _ | ad
 ·
  obtain rfl := C_none hr0
  exact api_Link_31.nil c0 w
 have HR0 := Aside0.mk hr0
 clear hr0
 have hu := Try.underlying56
 have he := fun W => eql_nil Try.prog 56 61 ad r.length c0 Try.underlying56 W
 have HB := Aside0.mk (Below.refl w.heap.size w)
 have infoE : (Try.prog.info? 61).map (fun i => (i.zero, i.size, i.bytes)) = some (some (.agg #[.int .i64 0, .string (⟨#[]⟩ : ByteArray), .int .i64 0, .string (⟨#[]⟩ : ByteArray)]), Kd.sz k61, 48) := by kernel_rfl
 go_enter Try.func31, Try.ntmps31
 go_wp2_with (first
  | (refine Kd.R_lit k61 (w0 := w) w.heap.size 61 rfl rfl (N := 5) (xs := []) (inner := []) (ok := fun _ => True) (okp := fun _ => False) (by go_simp) (Reps.none _ _) (fun _ _ => trivial) trivial HB.out (Nat.le_refl _) (by simp) ?_; intro v1 w1 hr hb hg hat; have HO := Aside0.mk hr; have HB1 := Aside0.mk hb; clear hr hb hg hat)
  | ((with_reducible refine gate_builtin (b := .append) (xs := #[.tmp 5, .tmp 6]) rfl ?_); at_builtin; refine Kd.R_append_rows k61 (w0 := w) w.heap.size rfl (.tmp 5) (.tmp 6) 56 61 (.agg #[.int .i64 0, .string (⟨#[]⟩ : ByteArray), .int .i64 0, .string (⟨#[]⟩ : ByteArray)]) 48 rfl Try.underlying56 infoE rfl (by decide) (by omega) _ [] r _ _ _ (fun _ => True) (fun _ => False) rfl rfl HO.out (Kd.C_below HR0.out HB1.out) (fun _ _ h => h) (fun _ h => h.elim) (fun _ _ => trivial) HB1.out (below_size HB1.out) (by simpa using hb) ?_; intro v2 w2 hr hb2 hg hat; have HO2 := Aside0.mk hr; have HB2 := Aside0.mk hb2; clear hr hb2 hg hat))
 go_ret
 exact ⟨_, rfl, by simpa using HO2.out, HB2.out⟩

def relayplain_Chart.F58 (x : S58) : Option S58 := (api_Link_31.f x.f3).bind fun a => some ⟨x.f0, x.f1, x.f2, a⟩
def relayplain_Chart.F67 (k : Nat) (x : S67) : Option S67 := (slices_Clone_string_string.f x.f2).bind fun a => (slices_Clone_string_string.f x.f3).bind fun b => (relayplain_Expr.f k x.f4.f0 x.f4.f1 x.f4.f2 x.f4.f3 x.f4.f4.f0 x.f4.f4.f1 x.f4.f4.f2 x.f4.f5 x.f4.f6 x.f4.f7 x.f4.f8 x.f4.f9 x.f4.f10 x.f4.f11).bind fun e => match e with | (r1, r2, r3, r4, r5, r6, r7, r8, r9, r10, r11, r12, r13, r14) => some ⟨x.f0, x.f1, a, b, (⟨r1, r2, r3, r4, ⟨r5, r6, r7⟩, r8, r9, r10, r11, r12, r13, r14⟩ : S65)⟩
def relayplain_Chart.F70 (k : Nat) (x : S70) : Option S70 := (relayplain_Stmts.f k x.f2).bind fun a => some ⟨x.f0, x.f1, a⟩
def relayplain_Chart.f (k : Nat) (l0 : List S58) (l1 : List S67) (l2 : List S70) : Option (List S58 × List S67 × List S70) := if l0.length * 56 ≤ 140737488355328 ∧ l1.length * 240 ≤ 140737488355328 ∧ l2.length * 48 ≤ 140737488355328 then (mapGo relayplain_Chart.F58 l0).bind fun a => (mapGo (relayplain_Chart.F67 k) l1).bind fun b => (mapGo (relayplain_Chart.F70 k) l2).bind fun c => some (a, b, c) else none
def relayplain_Chart.T11 : Bool × List (List Nat × List Nat) := (true, [([], []), ([0], [0]), ([1], [1]), ([], []), ([3], [3]), ([4, 2], [4]), ([], []), ([6], [6]), ([7, 5], [7]), ([0, 1, 2, 3, 4, 6, 7], []), ([9, 2, 8, 0, 1, 2, 3, 4, 6, 7], [2, 9]), ([0, 1, 2, 3, 4, 5, 6, 7, 9, 10], []), ([11, 5, 10, 0, 1, 2, 3, 4, 5, 6, 7, 9, 10], [5, 11]), ([0, 1, 2, 3, 4, 5, 6, 7, 8, 9, 10, 11, 12], []), ([13, 8, 12, 0, 1, 2, 3, 4, 5, 6, 7, 8, 9, 10, 11, 12], [8, 13])])
def relayplain_Chart.B11 : List Nat := [0, 1, 3, 0, 8, 31, 0, 64, 255, 223, 1023, 2047, 4095, 8191, 16383]
theorem relayplain_Chart.tab11 : rtab .any (opsOf Try.f12 11) = relayplain_Chart.T11 := by kernel_rfl
theorem relayplain_Chart.bits11 : waitsOk relayplain_Chart.T11.2 relayplain_Chart.B11 = true := by kernel_rfl
set_option maxHeartbeats 8000000 in
set_option maxRecDepth 100000 in
theorem relayplain_Chart.calls (k : Nat) (A0 : Option Addr) (c0 : Nat) (l0 : List S58) (A1 : Option Addr) (c1 : Nat) (l1 : List S67) (A2 : Option Addr) (c2 : Nat) (l2 : List S70) (s0 : List S58) (s1 : List S67) (s2 : List S70) (w : World) (hr0 : Kd.C k58 w A0 l0.length l0) (hc0 : l0.length ≤ c0) (hr1 : Kd.C k67 w A1 l1.length l1) (hc1 : l1.length ≤ c1) (hr2 : Kd.C k70 w A2 l2.length l2) (hc2 : l2.length ≤ c2) (h : relayplain_Chart.f k l0 l1 l2 = some (s0, s1, s2)) :
  Calls Try.prog 12 #[.agg #[.slice A0 l0.length c0, .slice A1 l1.length c1, .slice A2 l2.length c2]] w fun e w' => ∃ v0 v1 v2, e = .returned (.agg #[v0, v1, v2]) ∧ CV w' w.heap.size (fun _ => True) v0 v1 v2 s0 s1 s2 ∧ Below w.heap.size w w' := by
 have hu34 := Try.underlying34
 have hu58 := Try.underlying58
 have hu67 := Try.underlying67
 have hu70 := Try.underlying70
 have hu65 := Try.underlying65
 have hu63 := Try.underlying63
 have HB := Aside0.mk (Below.refl w.heap.size w)
 unfold relayplain_Chart.f at h
 split at h
 case isFalse => cases h
 rename_i hsz
 obtain ⟨a_, h0, h⟩ := Option.bind_eq_some_iff.mp h
 obtain ⟨b_, h1, h⟩ := Option.bind_eq_some_iff.mp h
 obtain ⟨c_, h2, h⟩ := Option.bind_eq_some_iff.mp h
 cases h
 have H0 := Aside0.mk h0
 have HR0 := Aside0.mk hr0
 have HM0 := Aside0.mk (Kd.C_max hr0)
 have H1 := Aside0.mk h1
 have HR1 := Aside0.mk hr1
 have HM1 := Aside0.mk (Kd.C_max hr1)
 have H2 := Aside0.mk h2
 have HR2 := Aside0.mk hr2
 have HM2 := Aside0.mk (Kd.C_max hr2)
 have HS0 := Aside0.mk hsz.1
 have HS1 := Aside0.mk hsz.2.1
 have HS2 := Aside0.mk hsz.2.2
 clear h0 h1 h2 hr0 hr1 hr2 hc0 hc1 hc2 hsz
 go_enter Try.func12, Try.ntmps12
 go_upto_region 2 with (first | ((with_reducible refine gate_dst (N := 1) rfl ?_); refine box_event ?hg (N := 1) ?hd (cs := #[.slice A0 l0.length c0, .slice A1 l1.length c1, .slice A2 l2.length c2]) (t := 34) ?hr ?_; (case hd => rfl); (case hg => rfl); (case hr => first | (go_simp; done) | (go_simp; rfl)); intro g1 hg w1 hbox hb; have n0_ := Aside0.mk (below_step (by repeat (first | (with_reducible first | exact HB.out | apply below_alloc | apply pw_below_drewN | apply below_drew1) | exact HB.out)) hb); have G1 := Aside0.mk ((by rw [hg]; exact below_size (by repeat (first | (with_reducible first | exact HB.out | apply below_alloc | apply pw_below_drewN | apply below_drew1) | exact HB.out))) : w.heap.size ≤ g1); have B1 := Aside0.mk hbox; clear HB; have HB := n0_; clear n0_ hb hbox hg) | ((with_reducible refine gate_dst (N := 2) rfl ?_); refine box_event ?hg (N := 2) ?hd (cs := #[.slice none 0 0, .slice none 0 0, .slice none 0 0]) (t := 34) ?hr ?_; (case hd => rfl); (case hg => rfl); (case hr => first | (go_simp; done) | (go_simp; rfl)); intro g2 hg w2 hbox hb; have n0_ := Aside0.mk (below_step (by repeat (first | (with_reducible first | exact HB.out | apply below_alloc | apply pw_below_drewN | apply below_drew1) | exact HB.out)) hb); have n1_ := Aside0.mk (blk_below B1.out hb); have NE1_2 := Aside0.mk ((by rw [hg]; exact Nat.ne_of_lt (blk_lt B1.out)) : g1 ≠ g2); clear B1; have B1 := n1_; clear n1_; have G2 := Aside0.mk ((by rw [hg]; exact below_size (by repeat (first | (with_reducible first | exact HB.out | apply below_alloc | apply pw_below_drewN | apply below_drew1) | exact HB.out))) : w.heap.size ≤ g2); have B2 := Aside0.mk hbox; clear HB; have HB := n0_; clear n0_ hb hbox hg) | ((with_reducible refine gate_dst (N := 3) rfl ?_); refine box_event ?hg (N := 3) ?hd (cs := #[.slice none 0 0, .slice none 0 0, .slice none 0 0]) (t := 34) ?hr ?_; (case hd => rfl); (case hg => rfl); (case hr => first | (go_simp; done) | (go_simp; rfl)); intro g3 hg w3 hbox hb; have n0_ := Aside0.mk (below_step (by repeat (first | (with_reducible first | exact HB.out | apply below_alloc | apply pw_below_drewN | apply below_drew1) | exact HB.out)) hb); have n1_ := Aside0.mk (blk_below B1.out hb); have NE1_3 := Aside0.mk ((by rw [hg]; exact Nat.ne_of_lt (blk_lt B1.out)) : g1 ≠ g3); clear B1; have B1 := n1_; clear n1_; have n1_ := Aside0.mk (blk_below B2.out hb); have NE2_3 := Aside0.mk ((by rw [hg]; exact Nat.ne_of_lt (blk_lt B2.out)) : g2 ≠ g3); clear B2; have B2 := n1_; clear n1_; have G3 := Aside0.mk ((by rw [hg]; exact below_size (by repeat (first | (with_reducible first | exact HB.out | apply below_alloc | apply pw_below_drewN | apply below_drew1) | exact HB.out))) : w.heap.size ≤ g3); have B3 := Aside0.mk hbox; clear HB; have HB := n0_; clear n0_ hb hbox hg))
 have I := Aside0.mk (ChI.start (d := k58) (e := 58) HB.out G3.out B3.out)
 clear HB B3 G1 G3 NE1_2
 have L0 := Aside0.mk (blk_lt B2.out)
 obtain ⟨q0, q1, q2, -, -, -⟩ := cells3 B1.out
 go_wp2
 clear q0 q1 q2
 go_loopg [13] (l0.length + 1) (fun kq v_ w' => ∃ (i : Int) (v0 : Value) (xs : List S58), v_ = .int .i64 i ∧ Aside0 (0 ≤ i ∧ i ≤ l0.length ∧ (kq : Int) = l0.length + 1 - i) ∧ Aside0 (∃ ys, mapGo (relayplain_Chart.F58) (l0.drop i.toNat) = some ys ∧ s0 = xs ++ ys) ∧ Aside0 ((xs.length : Int) = i) ∧ Aside0 (ChI k58 58 w w3 w' g3 #[v0, .slice none 0 0, .slice none 0 0] v0 xs w'.heap.size))
 case atStart => exact ⟨0, .slice none 0 0, [], rfl, ⟨by omega⟩, ⟨_, by simpa using H0.out, rfl⟩, ⟨rfl⟩, ⟨I.out⟩⟩
 case round =>
  clear I
  obtain ⟨i, v0, xs, rfl, hi, HX, HN, I⟩ := hrel
  by_cases c2 : i < (l0.length : Int)
  case neg =>
   have c2b0 : decide (i < (l0.length : Int)) = false := decide_eq_false c2
   have hd : l0.drop i.toNat = [] := List.drop_eq_nil_of_le (by have := hi.out; omega)
   obtain ⟨ys, hy, hr⟩ := HX.out
   rw [hd, mapGo] at hy
   obtain rfl := Option.some.inj hy
   rw [List.append_nil] at hr
   subst hr
   have O0 := Aside0.mk I.out.done
   have n0_ := Aside0.mk (I.out.frb B1.out NE1_3.out)
   clear B1
   have B1 := n0_
   clear n0_
   have n0_ := Aside0.mk (I.out.frb B2.out NE2_3.out)
   clear B2
   have B2 := n0_
   clear n0_
   clear hd hy hi HX HN c2
   have n0_ := Aside0.mk (I.out.next (d' := k67) (e' := 67))
   clear I
   have I := n0_
   clear n0_
   have L1 := Aside0.mk (blk_lt B2.out)
   obtain ⟨wA, eA⟩ : ∃ W, W = wr := ⟨_, rfl⟩
   subst eA
   obtain ⟨q0, q1, q2, -, -, -⟩ := cells3 B1.out
   go_upto_region 8 with (fail)
   clear c2b0
   go_wp2
   clear q0 q1 q2
   go_loopg [31] (l1.length + 1) (fun kq v_ w' => ∃ (i : Int) (v1 : Value) (xs : List S67), v_ = .int .i64 i ∧ Aside0 (0 ≤ i ∧ i ≤ l1.length ∧ (kq : Int) = l1.length + 1 - i) ∧ Aside0 (∃ ys, mapGo (relayplain_Chart.F67 k) (l1.drop i.toNat) = some ys ∧ s1 = xs ++ ys) ∧ Aside0 ((xs.length : Int) = i) ∧ Aside0 (ChI k67 67 w wA w' g3 #[v0, v1, .slice none 0 0] v1 xs w'.heap.size))
   case atStart => exact ⟨0, .slice none 0 0, [], rfl, ⟨by omega⟩, ⟨_, by simpa using H1.out, rfl⟩, ⟨rfl⟩, ⟨I.out⟩⟩
   case round =>
    clear I
    obtain ⟨i, v1, xs, rfl, hi, HX, HN, I⟩ := hrel
    by_cases c2 : i < (l1.length : Int)
    case neg =>
     have c2b0 : decide (i < (l1.length : Int)) = false := decide_eq_false c2
     have hd : l1.drop i.toNat = [] := List.drop_eq_nil_of_le (by have := hi.out; omega)
     obtain ⟨ys, hy, hr⟩ := HX.out
     rw [hd, mapGo] at hy
     obtain rfl := Option.some.inj hy
     rw [List.append_nil] at hr
     subst hr
     have O1 := Aside0.mk I.out.done
     have n0_ := Aside0.mk (I.out.old O0.out)
     clear O0
     have O0 := n0_
     clear n0_
     have n0_ := Aside0.mk (I.out.frb B1.out NE1_3.out)
     clear B1
     have B1 := n0_
     clear n0_
     have n0_ := Aside0.mk (I.out.frb B2.out NE2_3.out)
     clear B2
     have B2 := n0_
     clear n0_
     clear hd hy hi HX HN c2
     have n0_ := Aside0.mk (I.out.next (d' := k70) (e' := 70))
     clear I
     have I := n0_
     clear n0_
     have L2 := Aside0.mk (blk_lt B2.out)
     obtain ⟨wB, eA⟩ : ∃ W, W = wr := ⟨_, rfl⟩
     subst eA
     obtain ⟨q0, q1, q2, -, -, -⟩ := cells3 B1.out
     go_upto_region 14 with (fail)
     clear c2b0
     go_wp2
     clear q0 q1 q2
     go_loopg [57] (l2.length + 1) (fun kq v_ w' => ∃ (i : Int) (v2 : Value) (xs : List S70), v_ = .int .i64 i ∧ Aside0 (0 ≤ i ∧ i ≤ l2.length ∧ (kq : Int) = l2.length + 1 - i) ∧ Aside0 (∃ ys, mapGo (relayplain_Chart.F70 k) (l2.drop i.toNat) = some ys ∧ s2 = xs ++ ys) ∧ Aside0 ((xs.length : Int) = i) ∧ Aside0 (ChI k70 70 w wB w' g3 #[v0, v1, v2] v2 xs w'.heap.size))
     case atStart => exact ⟨0, .slice none 0 0, [], rfl, ⟨by omega⟩, ⟨_, by simpa using H2.out, rfl⟩, ⟨rfl⟩, ⟨I.out⟩⟩
     case round =>
      clear I
      obtain ⟨i, v2, xs, rfl, hi, HX, HN, I⟩ := hrel
      by_cases c2 : i < (l2.length : Int)
      case neg =>
       have c2b0 : decide (i < (l2.length : Int)) = false := decide_eq_false c2
       have hd : l2.drop i.toNat = [] := List.drop_eq_nil_of_le (by have := hi.out; omega)
       obtain ⟨ys, hy, hr⟩ := HX.out
       rw [hd, mapGo] at hy
       obtain rfl := Option.some.inj hy
       rw [List.append_nil] at hr
       subst hr
       have O2 := Aside0.mk I.out.done
       have n0_ := Aside0.mk (I.out.old O0.out)
       clear O0
       have O0 := n0_
       clear n0_
       have n0_ := Aside0.mk (I.out.old O1.out)
       clear O1
       have O1 := n0_
       clear n0_
       have n0_ := Aside0.mk (I.out.frb B1.out NE1_3.out)
       clear B1
       have B1 := n0_
       clear n0_
       have n0_ := Aside0.mk (I.out.frb B2.out NE2_3.out)
       clear B2
       have B2 := n0_
       clear n0_
       clear hd hy hi HX HN c2
       go_wp2_with (first | ((with_reducible refine gate_dst (N := 72) rfl ?_); refine load_in (N := 72) (t := 34) (cs := [v0, v1, v2]) rfl rfl rfl rfl (spread_blk I.out.blk) Try.underlying34 rfl rfl (by kernel_rfl) ?_) | ((with_reducible refine gate_store (t := 34) (p := 2) rfl ?_); obtain ⟨A4, e4, rfl⟩ := Kd.R_slice O0.out; obtain ⟨A5, e5, rfl⟩ := Kd.R_slice O1.out; obtain ⟨A6, e6, rfl⟩ := Kd.R_slice O2.out; refine store_at (w0 := w) (j := 0) (u := .agg #[.slice A4 s0.length e4, .slice A5 s1.length e5, .slice A6 s2.length e6]) (cs' := #[.slice A4 s0.length e4, .slice A5 s1.length e5, .slice A6 s2.length e6]) rfl rfl rfl rfl rfl rfl rfl (by kernel_rfl) rfl B2.out rfl rfl I.out.below G2.out ?_; intro W9 b1 hb1 hs1 hk1; have P := CV.mk (ChI.fin O0.out L0.out G2.out hk1) (ChI.fin O1.out L1.out G2.out hk1) (ChI.fin O2.out L2.out G2.out hk1)))
       refine bodyPost_ret (results_cell_row rfl _ _ g2 34 #[.slice A4 s0.length e4, .slice A5 s1.length e5, .slice A6 s2.length e6] (0, 0) _ rfl b1 Try.underlying34 rfl (by kernel_rfl)) rfl ?_
       exact ⟨_, _, _, rfl, P, hb1⟩
      have c2b0 : decide (i < (l2.length : Int)) = true := decide_eq_true c2
      have h0 := hi.out.1
      obtain ⟨aad, aA2, ac2, ae, ahr, ahl0, ahc0⟩ := el_T70 HR2.out i h0 c2
      cases ae
      have p0 := eq_true h0
      have p1 := eq_true c2
      have C2 := Aside0.mk c2
      clear h0 c2
      obtain ⟨ys, hy, hr⟩ := HX.out
      rw [drop_rd z70 hi.out.1 C2.out] at hy
      obtain ⟨p, zs, hp, hy2, hz⟩ := mapGo_cons hy
      subst hz
      clear hy
      have HP := Aside0.mk (show relayplain_Chart.F70 k (rd_T70 l2 i) = some p from hp)
      have HX1 := Aside0.mk (And.intro hy2 hr)
      clear HX hp hy2 hr
      have hp := HP.out
      unfold relayplain_Chart.F70 at hp
      clear HP
      obtain ⟨ra, ha, hp⟩ := Option.bind_eq_some_iff.mp hp
      obtain rfl := Option.some.inj hp
      have A1_ := Aside0.mk ha
      clear ha hp
      go_upto_region 17 with (first | ((with_reducible refine gate_dst (N := 60) rfl ?_); refine load_in (N := 60) (t := 70) rfl rfl rfl rfl (spread_below I.out.below ahr) Try.underlying70 rfl rfl (by kernel_rfl) ?_) | ((with_reducible refine gate_dst (N := 9) rfl ?_); refine box_event ?hg (N := 9) ?hd (cs := #[.int .i64 0, .string (⟨#[]⟩ : ByteArray), .slice none 0 0]) (t := 70) ?hr ?_; (case hd => rfl); (case hg => rfl); (case hr => first | (go_simp; done) | (go_simp; rfl)); intro g5 hg w5 hbox hb; have G := Aside0.mk ((by rw [hg]; exact I.out.mz) : _ ≤ g5); have n0_ := Aside0.mk (I.out.step hb); have B := Aside0.mk hbox; clear I hb hbox hg; have I := n0_; clear n0_) | ((with_reducible refine gate_store (t := 70) (p := 9) rfl ?_); refine store_at (w0 := w) (j := 0) (u := .agg #[.int .i64 (rd_T70 l2 i).f0, .string (rd_T70 l2 i).f1, .slice aA2 (rd_T70 l2 i).f2.length ac2]) (cs' := #[.int .i64 (rd_T70 l2 i).f0, .string (rd_T70 l2 i).f1, .slice aA2 (rd_T70 l2 i).f2.length ac2]) rfl rfl rfl rfl rfl rfl rfl (by kernel_rfl) rfl B.out rfl rfl I.out.below (I.out.gem G.out) ?_; intro W7 b1 hb1 hs1 hk1; have n0_ := Aside0.mk (I.out.store G.out hb1 hs1 hk1); clear I B hb1 hs1 hk1; have I := n0_; have B := Aside0.mk b1; clear n0_ b1))
      clear ahr p0 p1
      obtain ⟨-, -, z2, -, -, -⟩ := cells3 B.out
      go_upto_region 18 with (first | (go_at_call 10; refine (relayplain_Stmts.calls k _ _ _ ra _ (Kd.C_below ahc0 I.out.below) ahl0 A1_.out).mono ?_; rintro e w' ⟨v3, rfl, ho, hb⟩; obtain ⟨A3, e3, rfl⟩ := Kd.R_slice ho; have HO := Aside0.mk (I.out.made ho (blk_lt B.out)); have n0_ := Aside0.mk (I.out.step hb); have n1_ := Aside0.mk (blk_below B.out hb); clear I B ho hb z2; have I := n0_; have B := n1_; clear n0_ n1_) | ((with_reducible refine gate_store (t := 27) (p := 64) rfl ?_); refine store_at (w0 := w) (j := 2) (u := .slice A3 ra.length e3) (cs' := #[.int .i64 (rd_T70 l2 i).f0, .string (rd_T70 l2 i).f1, .slice A3 ra.length e3]) rfl rfl rfl rfl rfl rfl rfl (by kernel_rfl) rfl B.out rfl rfl I.out.below (I.out.gem G.out) ?_; intro W8 b1 hb1 hs1 hk1; have n0_ := Aside0.mk (I.out.store G.out hb1 hs1 hk1); have n2_ := Aside0.mk (ChI.madeS HO.out hk1); clear HO; have HO := n2_; clear n2_; clear I B hb1 hs1 hk1; have I := n0_; have B := Aside0.mk b1; clear n0_ b1))
      obtain ⟨q0, q1, q2, -, -, -⟩ := cells3 I.out.blk
      go_wp2_with (first | ((with_reducible refine gate_dst (N := 67) rfl ?_); refine load_in (N := 67) (t := 70) (cs := [.int .i64 (rd_T70 l2 i).f0, .string (rd_T70 l2 i).f1, .slice A3 ra.length e3]) rfl rfl rfl rfl (spread_blk B.out) Try.underlying70 rfl rfl (by kernel_rfl) ?_) | ((with_reducible refine gate_builtin (b := .append) (xs := #[.tmp 66, .tmp 68]) rfl ?_); at_builtin; refine ChI.append rfl (.tmp 66) (.tmp 68) 32 70 (.agg #[.int .i64 0, .string (⟨#[]⟩ : ByteArray), .slice none 0 0]) 48 rfl Try.underlying32 info70_ rfl (by decide) (by omega) v2 (⟨(rd_T70 l2 i).f0, (rd_T70 l2 i).f1, ra⟩ : S70) [.int .i64 (rd_T70 l2 i).f0, .string (rd_T70 l2 i).f1, .slice A3 ra.length e3] rfl rfl I.out (k70_mkM _ _ _ (⟨(rd_T70 l2 i).f0, (rd_T70 l2 i).f1, ra⟩ : S70) (Kd.R_mono HO.out (fun _ h => h.1))) (by have := HS2.out; have := HN.out; have := C2.out; omega) ?_; intro v9 w9 I9; clear I; have I := Aside0.mk I9; clear I9 q0 q1 q2) | ((with_reducible refine gate_store (t := 32) (p := 70) rfl ?_); obtain ⟨A9, e9, rfl⟩ := Kd.R_slice I.out.row; refine store_at (w0 := w) (j := 2) (u := .slice A9 (xs ++ [(⟨(rd_T70 l2 i).f0, (rd_T70 l2 i).f1, ra⟩ : S70)]).length e9) (cs' := #[v0, v1, .slice A9 (xs ++ [(⟨(rd_T70 l2 i).f0, (rd_T70 l2 i).f1, ra⟩ : S70)]).length e9]) rfl rfl rfl rfl rfl rfl rfl (by kernel_rfl) rfl I.out.blk rfl rfl I.out.below I.out.ge ?_; intro W9 b1 hb1 hs1 hk1; have n0_ := Aside0.mk (I.out.out b1 hb1 hs1 hk1).renew; clear I b1 hb1 hs1 hk1; have I := n0_; clear n0_))
      have hw : wrap64 (i + 1) = i + 1 := by
       have := HM2.out
       have := hi.out
       have := C2.out
       unfold wrap64
       omega
      have h1 := hi.out
      have h2 := C2.out
      have h3 := HN.out
      go_roundg (gk - 1)
      case measure => omega
      case rel => exact ⟨i + 1, _, xs ++ [(⟨(rd_T70 l2 i).f0, (rd_T70 l2 i).f1, ra⟩ : S70)], by rw [hw], ⟨by omega⟩, ⟨_, HX1.out.1, by rw [HX1.out.2]; simp⟩, ⟨by rw [List.length_append, List.length_singleton]; omega⟩, ⟨I.out⟩⟩
    have c2b0 : decide (i < (l1.length : Int)) = true := decide_eq_true c2
    have h0 := hi.out.1
    obtain ⟨aad, aA2, ac2, aA3, ac3, aA11, ac11, aA12, ac12, ae, ahr, ahl0, ahc0, ahl1, ahc1, ahl2, ahc2, ahl3, ahc3⟩ := el_T67 HR1.out i h0 c2
    cases ae
    have p0 := eq_true h0
    have p1 := eq_true c2
    have C2 := Aside0.mk c2
    clear h0 c2
    obtain ⟨ys, hy, hr⟩ := HX.out
    rw [drop_rd z67 hi.out.1 C2.out] at hy
    obtain ⟨p, zs, hp, hy2, hz⟩ := mapGo_cons hy
    subst hz
    clear hy
    have HP := Aside0.mk (show relayplain_Chart.F67 k (rd_T67 l1 i) = some p from hp)
    have HX1 := Aside0.mk (And.intro hy2 hr)
    clear HX hp hy2 hr
    have hp := HP.out
    unfold relayplain_Chart.F67 at hp
    clear HP
    obtain ⟨ra, ha, hp⟩ := Option.bind_eq_some_iff.mp hp
    obtain ⟨rb, hb, hp⟩ := Option.bind_eq_some_iff.mp hp
    obtain ⟨⟨r1, r2, r3, r4, r5, r6, r7, r8, r9, r10, r11, r12, r13, r14⟩, he, hp⟩ := Option.bind_eq_some_iff.mp hp
    obtain rfl := Option.some.inj hp
    have A1_ := Aside0.mk ha
    have A2_ := Aside0.mk hb
    have A3_ := Aside0.mk he
    clear ha hb he hp
    go_upto_region 11 with (first | ((with_reducible refine gate_dst (N := 34) rfl ?_); refine load_in (N := 34) (t := 67) rfl rfl rfl rfl (spread_below I.out.below ahr) Try.underlying67 rfl rfl (by kernel_rfl) ?_) | ((with_reducible refine gate_dst (N := 7) rfl ?_); refine box_event ?hg (N := 7) ?hd (cs := #[.int .i64 0, .string (⟨#[]⟩ : ByteArray), .slice none 0 0, .slice none 0 0, .int .i64 0, .int .i64 0, .string (⟨#[]⟩ : ByteArray), .string (⟨#[]⟩ : ByteArray), .int .u8 0, .int .u64 0, .string (⟨#[]⟩ : ByteArray), .slice none 0 0, .slice none 0 0, .int .u8 0, .int .i64 0, .int .i64 0, .int .i64 0, .int .i64 0]) (t := 67) ?hr ?_; (case hd => rfl); (case hg => rfl); (case hr => first | (go_simp; done) | (go_simp; rfl)); intro g5 hg w5 hbox hb; have G := Aside0.mk ((by rw [hg]; exact I.out.mz) : _ ≤ g5); have n0_ := Aside0.mk (I.out.step hb); have B := Aside0.mk hbox; clear I hb hbox hg; have I := n0_; clear n0_) | ((with_reducible refine gate_store (t := 67) (p := 7) rfl ?_); refine store_at (w0 := w) (j := 0) (u := .agg #[.int .i64 (rd_T67 l1 i).f0, .string (rd_T67 l1 i).f1, .slice aA2 (rd_T67 l1 i).f2.length ac2, .slice aA3 (rd_T67 l1 i).f3.length ac3, .int .i64 (rd_T67 l1 i).f4.f0, .int .i64 (rd_T67 l1 i).f4.f1, .string (rd_T67 l1 i).f4.f2, .string (rd_T67 l1 i).f4.f3, .int .u8 (rd_T67 l1 i).f4.f4.f0, .int .u64 (rd_T67 l1 i).f4.f4.f1, .string (rd_T67 l1 i).f4.f4.f2, .slice aA11 (rd_T67 l1 i).f4.f5.length ac11, .slice aA12 (rd_T67 l1 i).f4.f6.length ac12, .int .u8 (rd_T67 l1 i).f4.f7, .int .i64 (rd_T67 l1 i).f4.f8, .int .i64 (rd_T67 l1 i).f4.f9, .int .i64 (rd_T67 l1 i).f4.f10, .int .i64 (rd_T67 l1 i).f4.f11]) (cs' := #[.int .i64 (rd_T67 l1 i).f0, .string (rd_T67 l1 i).f1, .slice aA2 (rd_T67 l1 i).f2.length ac2, .slice aA3 (rd_T67 l1 i).f3.length ac3, .int .i64 (rd_T67 l1 i).f4.f0, .int .i64 (rd_T67 l1 i).f4.f1, .string (rd_T67 l1 i).f4.f2, .string (rd_T67 l1 i).f4.f3, .int .u8 (rd_T67 l1 i).f4.f4.f0, .int .u64 (rd_T67 l1 i).f4.f4.f1, .string (rd_T67 l1 i).f4.f4.f2, .slice aA11 (rd_T67 l1 i).f4.f5.length ac11, .slice aA12 (rd_T67 l1 i).f4.f6.length ac12, .int .u8 (rd_T67 l1 i).f4.f7, .int .i64 (rd_T67 l1 i).f4.f8, .int .i64 (rd_T67 l1 i).f4.f9, .int .i64 (rd_T67 l1 i).f4.f10, .int .i64 (rd_T67 l1 i).f4.f11]) rfl rfl rfl rfl rfl rfl rfl (by kernel_rfl) rfl B.out rfl rfl I.out.below (I.out.gem G.out) ?_; intro W7 b1 hb1 hs1 hk1; have n0_ := Aside0.mk (I.out.store G.out hb1 hs1 hk1); clear I B hb1 hs1 hk1; have I := n0_; have B := Aside0.mk b1; clear n0_ b1))
    clear ahr p0 p1
    obtain ⟨-, -, z2, z3, z4, z5, z6, z7, z8, z9, z10, z11, z12, z13, z14, z15, z16, z17, -, -, -, -, -, -, -, -, -, -, -, -, -, -, -, -, -, -⟩ := cells18 B.out
    have HB := Aside0.mk (Below.refl W7.heap.size W7)
    have n0_ := Aside0.mk (below_drew1 HB.out)
    clear HB
    have HB := n0_
    clear n0_
    refine start_ (n := 15) (S := fun w' => Below W7.heap.size W7 w') (ds := [10, 12, 14]) #[false, false, false, false, false, false, false, false, false, false, false, false, false, false, false] (by kernel_rfl) rfl (by kernel_rfl) HB.out (fun _ => ?_)
    refine with_tabW relayplain_Chart.tab11 relayplain_Chart.bits11 (fun HT_ HW_ => ?_)
    generalize World.drew _ = W5 at HB ⊢
    have n0_ := Aside0.mk (I.out.step HB.out)
    have n1_ := Aside0.mk (blk_below B.out HB.out)
    clear I B
    have I := n0_
    have B := n1_
    clear n0_ n1_
    refine pure_ (i := 0) (N := some 35) (v := ?_) (a' := ?_) #[true, false, false, false, false, false, false, false, false, false, false, false, false, false, false] rfl rfl (any_of HT_.out (by kernel_rfl)) (fun _ _ _ h => h) (Or.inl ⟨by rfl, ?_⟩) ?_ ?_
    rotate_left
    ·
     intro w'
     go_simp
     with_reducible rfl
    rotate_left
    ·
     simp only [Act.put, List.setIfInBounds_toArray, List.set_cons_zero, List.set_cons_succ, i64_w, i32_w]
     rfl
    refine pure_ (i := 3) (N := some 38) (v := ?_) (a' := ?_) #[true, false, false, true, false, false, false, false, false, false, false, false, false, false, false] rfl rfl (any_of HT_.out (by kernel_rfl)) (fun _ _ _ h => h) (Or.inl ⟨by rfl, ?_⟩) ?_ ?_
    rotate_left
    ·
     intro w'
     go_simp
     with_reducible rfl
    rotate_left
    ·
     simp only [Act.put, List.setIfInBounds_toArray, List.set_cons_zero, List.set_cons_succ, i64_w, i32_w]
     rfl
    refine pure_ (i := 6) (N := some 41) (v := ?_) (a' := ?_) #[true, false, false, true, false, false, true, false, false, false, false, false, false, false, false] rfl rfl (any_of HT_.out (by kernel_rfl)) (fun _ _ _ h => h) (Or.inl ⟨by rfl, ?_⟩) ?_ ?_
    rotate_left
    ·
     intro w'
     go_simp
     with_reducible rfl
    rotate_left
    ·
     simp only [Act.put, List.setIfInBounds_toArray, List.set_cons_zero, List.set_cons_succ, i64_w, i32_w]
     rfl
    refine take_ (i := 1) (N := some 36) (v := ?_) (a' := ?_) #[true, true, false, true, false, false, true, false, false, false, false, false, false, false, false] rfl rfl (take_ofW HT_.out HW_.out (by kernel_rfl)) (fun _ _ _ h => h) (Or.inl ⟨by rfl, ?_⟩) HB.out ?_ ?_
    rotate_left
    ·
     intro w' hS
     have s0 := lift_ hS z2
     go_simp
     with_reducible rfl
    rotate_left
    ·
     simp only [Act.put, List.setIfInBounds_toArray, List.set_cons_zero, List.set_cons_succ, i64_w, i32_w]
     rfl
    refine take_ (i := 4) (N := some 39) (v := ?_) (a' := ?_) #[true, true, false, true, true, false, true, false, false, false, false, false, false, false, false] rfl rfl (take_ofW HT_.out HW_.out (by kernel_rfl)) (fun _ _ _ h => h) (Or.inl ⟨by rfl, ?_⟩) HB.out ?_ ?_
    rotate_left
    ·
     intro w' hS
     have s0 := lift_ hS z3
     go_simp
     with_reducible rfl
    rotate_left
    ·
     simp only [Act.put, List.setIfInBounds_toArray, List.set_cons_zero, List.set_cons_succ, i64_w, i32_w]
     rfl
    refine take_ (i := 7) (N := some 42) (v := ?_) (a' := ?_) #[true, true, false, true, true, false, true, true, false, false, false, false, false, false, false] rfl rfl (take_ofW HT_.out HW_.out (by kernel_rfl)) (fun _ _ _ h => h) (Or.inl ⟨by rfl, ?_⟩) HB.out ?_ ?_
    rotate_left
    ·
     intro w' hS
     have s0 := lift_ hS z4
     have s1 := lift_ hS z5
     have s2 := lift_ hS z6
     have s3 := lift_ hS z7
     have s4 := lift_ hS z8
     have s5 := lift_ hS z9
     have s6 := lift_ hS z10
     have s7 := lift_ hS z11
     have s8 := lift_ hS z12
     have s9 := lift_ hS z13
     have s10 := lift_ hS z14
     have s11 := lift_ hS z15
     have s12 := lift_ hS z16
     have s13 := lift_ hS z17
     go_simp
     with_reducible rfl
    rotate_left
    ·
     simp only [Act.put, List.setIfInBounds_toArray, List.set_cons_zero, List.set_cons_succ, i64_w, i32_w]
     rfl
    refine one_ (i := 2) (N := some 37) #[true, true, true, true, true, false, true, true, false, false, false, false, false, false, false] rfl rfl (one_of HT_.out (by kernel_rfl)) (by decide) (fun K hK => ?_)
    refine goes_ Try.func26 (by kernel_rfl) rfl #[.slice aA2 (rd_T67 l1 i).f2.length ac2] (by rfl) rfl rfl (by (try simp only [List.map_toArray, List.map_cons, List.map_nil]); first | done | rfl) ?_
    refine (slices_Clone_string_string.calls _ _ _ ra _ (Kd.C_below ahc0 I.out.below) ahl0 A1_.out).mono ?_
    rintro e w' ⟨v3, rfl, ho, hb⟩
    refine ⟨_, rfl, ?_⟩
    obtain ⟨A3, e3, rfl⟩ := Kd.R_slice ho
    have HO := Aside0.mk (I.out.made ho (blk_lt B.out))
    clear ho
    have n0_ := Aside0.mk (I.out.step hb)
    have n1_ := Aside0.mk (blk_below B.out hb)
    clear I B
    have I := n0_
    have B := n1_
    clear n0_ n1_
    have n0_ := Aside0.mk (below_step HB.out hb)
    clear HB hb
    have HB := n0_
    clear n0_
    refine hK.out _ _ HB.out (fun _ => ?_)
    clear hK K
    refine norm_ (a' := ?_) ?_ ?_
    rotate_left
    ·
     show Act.put _ (some 37) _ = _
     simp only [Act.put, List.setIfInBounds_toArray, List.set_cons_zero, List.set_cons_succ, i64_w, i32_w]
     rfl
    refine pure_ (i := 9) (N := some 44) (v := ?_) (a' := ?_) #[true, true, true, true, true, false, true, true, false, true, false, false, false, false, false] rfl rfl (any_of HT_.out (by kernel_rfl)) (fun _ _ _ h => h) (Or.inl ⟨by rfl, ?_⟩) ?_ ?_
    rotate_left
    ·
     intro w'
     go_simp
     with_reducible rfl
    rotate_left
    ·
     simp only [Act.put, List.setIfInBounds_toArray, List.set_cons_zero, List.set_cons_succ, i64_w, i32_w]
     rfl
    refine one_ (i := 5) (N := some 40) #[true, true, true, true, true, true, true, true, false, true, false, false, false, false, false] rfl rfl (one_of HT_.out (by kernel_rfl)) (by decide) (fun K hK => ?_)
    refine goes_ Try.func26 (by kernel_rfl) rfl #[.slice aA3 (rd_T67 l1 i).f3.length ac3] (by rfl) rfl rfl (by (try simp only [List.map_toArray, List.map_cons, List.map_nil]); first | done | rfl) ?_
    refine (slices_Clone_string_string.calls _ _ _ rb _ (Kd.C_below ahc1 I.out.below) ahl1 A2_.out).mono ?_
    rintro e w' ⟨v3, rfl, ho, hb⟩
    refine ⟨_, rfl, ?_⟩
    obtain ⟨A4, e4, rfl⟩ := Kd.R_slice ho
    have HO4 := Aside0.mk (I.out.made ho (blk_lt B.out))
    clear ho
    have n0_ := Aside0.mk (I.out.step hb)
    have n1_ := Aside0.mk (blk_below B.out hb)
    have n2_ := Aside0.mk (Kd.R_below HO.out hb)
    clear HO
    have HO := n2_
    clear n2_
    clear I B
    have I := n0_
    have B := n1_
    clear n0_ n1_
    have n0_ := Aside0.mk (below_step HB.out hb)
    clear HB hb
    have HB := n0_
    clear n0_
    refine hK.out _ _ HB.out (fun _ => ?_)
    clear hK K
    refine norm_ (a' := ?_) ?_ ?_
    rotate_left
    ·
     show Act.put _ (some 40) _ = _
     simp only [Act.put, List.setIfInBounds_toArray, List.set_cons_zero, List.set_cons_succ, i64_w, i32_w]
     rfl
    refine one_ (i := 8) (N := some 43) #[true, true, true, true, true, true, true, true, true, true, false, false, false, false, false] rfl rfl (one_of HT_.out (by kernel_rfl)) (by decide) (fun K hK => ?_)
    refine goes_ Try.func32 (by kernel_rfl) rfl #[.agg #[.int .i64 (rd_T67 l1 i).f4.f0, .int .i64 (rd_T67 l1 i).f4.f1, .string (rd_T67 l1 i).f4.f2, .string (rd_T67 l1 i).f4.f3, .int .u8 (rd_T67 l1 i).f4.f4.f0, .int .u64 (rd_T67 l1 i).f4.f4.f1, .string (rd_T67 l1 i).f4.f4.f2, .slice aA11 (rd_T67 l1 i).f4.f5.length ac11, .slice aA12 (rd_T67 l1 i).f4.f6.length ac12, .int .u8 (rd_T67 l1 i).f4.f7, .int .i64 (rd_T67 l1 i).f4.f8, .int .i64 (rd_T67 l1 i).f4.f9, .int .i64 (rd_T67 l1 i).f4.f10, .int .i64 (rd_T67 l1 i).f4.f11]] (by rfl) rfl rfl (by (try simp only [List.map_toArray, List.map_cons, List.map_nil]); first | done | rfl) ?_
    refine (relayplain_Expr.calls k _ _ _ _ _ _ _ _ _ _ _ _ _ _ _ _ _ _ r1 r2 r3 r4 r5 r6 r7 r8 r9 r10 r11 r12 r13 r14 _ (Kd.C_below ahc2 I.out.below) ahl2 (Kd.C_below ahc3 I.out.below) ahl3 A3_.out).mono ?_
    rintro e w' ⟨v3, v4, rfl, ho, ho2, hb⟩
    refine ⟨_, rfl, ?_⟩
    obtain ⟨A5, e5, rfl⟩ := Kd.R_slice ho
    obtain ⟨A6, e6, rfl⟩ := Kd.R_slice ho2
    have HO5 := Aside0.mk (I.out.made (Kd.R_mono ho (fun _ _ => trivial)) (blk_lt B.out))
    have HO6 := Aside0.mk (I.out.made ho2 (blk_lt B.out))
    clear ho ho2
    have n0_ := Aside0.mk (I.out.step hb)
    have n1_ := Aside0.mk (blk_below B.out hb)
    have n2_ := Aside0.mk (Kd.R_below HO.out hb)
    clear HO
    have HO := n2_
    clear n2_
    have n2_ := Aside0.mk (Kd.R_below HO4.out hb)
    clear HO4
    have HO4 := n2_
    clear n2_
    clear I B
    have I := n0_
    have B := n1_
    clear n0_ n1_
    have n0_ := Aside0.mk (below_step HB.out hb)
    clear HB hb
    have HB := n0_
    clear n0_
    refine hK.out _ _ HB.out (fun _ => ?_)
    clear hK K
    refine norm_ (a' := ?_) ?_ ?_
    rotate_left
    ·
     show Act.put _ (some 43) _ = _
     simp only [Act.put, List.setIfInBounds_toArray, List.set_cons_zero, List.set_cons_succ, i64_w, i32_w]
     rfl
    refine last_ (i := 10) (N := none) #[true, true, true, true, true, true, true, true, true, true, true, false, false, false, false] rfl rfl (one_of HT_.out (by kernel_rfl)) (by decide) (fun K hK => ?_)
    refine store_at_any (w0 := w) (j := 2) (u := .slice A3 ra.length e3) (cs' := #[.int .i64 (rd_T67 l1 i).f0, .string (rd_T67 l1 i).f1, .slice A3 ra.length e3, .slice aA3 (rd_T67 l1 i).f3.length ac3, .int .i64 (rd_T67 l1 i).f4.f0, .int .i64 (rd_T67 l1 i).f4.f1, .string (rd_T67 l1 i).f4.f2, .string (rd_T67 l1 i).f4.f3, .int .u8 (rd_T67 l1 i).f4.f4.f0, .int .u64 (rd_T67 l1 i).f4.f4.f1, .string (rd_T67 l1 i).f4.f4.f2, .slice aA11 (rd_T67 l1 i).f4.f5.length ac11, .slice aA12 (rd_T67 l1 i).f4.f6.length ac12, .int .u8 (rd_T67 l1 i).f4.f7, .int .i64 (rd_T67 l1 i).f4.f8, .int .i64 (rd_T67 l1 i).f4.f9, .int .i64 (rd_T67 l1 i).f4.f10, .int .i64 (rd_T67 l1 i).f4.f11]) rfl rfl rfl rfl rfl rfl rfl (by kernel_rfl) rfl B.out rfl rfl I.out.below (I.out.gem G.out) ?_
    intro W8 b1 hb1 hs1 hk1
    have n0_ := Aside0.mk (I.out.store G.out hb1 hs1 hk1)
    have n2_ := Aside0.mk (ChI.madeS HO.out hk1)
    clear HO
    have HO := n2_
    clear n2_
    have n2_ := Aside0.mk (ChI.madeS HO4.out hk1)
    clear HO4
    have HO4 := n2_
    clear n2_
    have n2_ := Aside0.mk (ChI.madeS HO5.out hk1)
    clear HO5
    have HO5 := n2_
    clear n2_
    have n2_ := Aside0.mk (ChI.madeS HO6.out hk1)
    clear HO6
    have HO6 := n2_
    clear n2_
    clear I B hb1 hs1 hk1
    have I := n0_
    have B := Aside0.mk b1
    clear n0_ b1
    refine hK.out _ _ ?_
    clear hK K
    refine pure_ (i := 11) (N := some 45) (v := ?_) (a' := ?_) #[true, true, true, true, true, true, true, true, true, true, true, true, false, false, false] rfl rfl (any_of HT_.out (by kernel_rfl)) (fun _ _ _ h => h) (Or.inl ⟨by rfl, ?_⟩) ?_ ?_
    rotate_left
    ·
     intro w'
     go_simp
     with_reducible rfl
    rotate_left
    ·
     simp only [Act.put, List.setIfInBounds_toArray, List.set_cons_zero, List.set_cons_succ, i64_w, i32_w]
     rfl
    refine last_ (i := 12) (N := none) #[true, true, true, true, true, true, true, true, true, true, true, true, true, false, false] rfl rfl (one_of HT_.out (by kernel_rfl)) (by decide) (fun K hK => ?_)
    refine store_at_any (w0 := w) (j := 3) (u := .slice A4 rb.length e4) (cs' := #[.int .i64 (rd_T67 l1 i).f0, .string (rd_T67 l1 i).f1, .slice A3 ra.length e3, .slice A4 rb.length e4, .int .i64 (rd_T67 l1 i).f4.f0, .int .i64 (rd_T67 l1 i).f4.f1, .string (rd_T67 l1 i).f4.f2, .string (rd_T67 l1 i).f4.f3, .int .u8 (rd_T67 l1 i).f4.f4.f0, .int .u64 (rd_T67 l1 i).f4.f4.f1, .string (rd_T67 l1 i).f4.f4.f2, .slice aA11 (rd_T67 l1 i).f4.f5.length ac11, .slice aA12 (rd_T67 l1 i).f4.f6.length ac12, .int .u8 (rd_T67 l1 i).f4.f7, .int .i64 (rd_T67 l1 i).f4.f8, .int .i64 (rd_T67 l1 i).f4.f9, .int .i64 (rd_T67 l1 i).f4.f10, .int .i64 (rd_T67 l1 i).f4.f11]) rfl rfl rfl rfl rfl rfl rfl (by kernel_rfl) rfl B.out rfl rfl I.out.below (I.out.gem G.out) ?_
    intro W8 b1 hb1 hs1 hk1
    have n0_ := Aside0.mk (I.out.store G.out hb1 hs1 hk1)
    have n2_ := Aside0.mk (ChI.madeS HO.out hk1)
    clear HO
    have HO := n2_
    clear n2_
    have n2_ := Aside0.mk (ChI.madeS HO4.out hk1)
    clear HO4
    have HO4 := n2_
    clear n2_
    have n2_ := Aside0.mk (ChI.madeS HO5.out hk1)
    clear HO5
    have HO5 := n2_
    clear n2_
    have n2_ := Aside0.mk (ChI.madeS HO6.out hk1)
    clear HO6
    have HO6 := n2_
    clear n2_
    clear I B hb1 hs1 hk1
    have I := n0_
    have B := Aside0.mk b1
    clear n0_ b1
    refine hK.out _ _ ?_
    clear hK K
    refine pure_ (i := 13) (N := some 46) (v := ?_) (a' := ?_) #[true, true, true, true, true, true, true, true, true, true, true, true, true, true, false] rfl rfl (any_of HT_.out (by kernel_rfl)) (fun _ _ _ h => h) (Or.inl ⟨by rfl, ?_⟩) ?_ ?_
    rotate_left
    ·
     intro w'
     go_simp
     with_reducible rfl
    rotate_left
    ·
     simp only [Act.put, List.setIfInBounds_toArray, List.set_cons_zero, List.set_cons_succ, i64_w, i32_w]
     rfl
    refine last_ (i := 14) (N := none) #[true, true, true, true, true, true, true, true, true, true, true, true, true, true, true] rfl rfl (one_of HT_.out (by kernel_rfl)) (by decide) (fun K hK => ?_)
    refine store_at_any (w0 := w) (j := 4) (u := .agg #[.int .i64 r1, .int .i64 r2, .string r3, .string r4, .int .u8 r5, .int .u64 r6, .string r7, .slice A5 r8.length e5, .slice A6 r9.length e6, .int .u8 r10, .int .i64 r11, .int .i64 r12, .int .i64 r13, .int .i64 r14]) (cs' := #[.int .i64 (rd_T67 l1 i).f0, .string (rd_T67 l1 i).f1, .slice A3 ra.length e3, .slice A4 rb.length e4, .int .i64 r1, .int .i64 r2, .string r3, .string r4, .int .u8 r5, .int .u64 r6, .string r7, .slice A5 r8.length e5, .slice A6 r9.length e6, .int .u8 r10, .int .i64 r11, .int .i64 r12, .int .i64 r13, .int .i64 r14]) rfl rfl rfl rfl rfl rfl rfl (by kernel_rfl) rfl B.out rfl rfl I.out.below (I.out.gem G.out) ?_
    intro W8 b1 hb1 hs1 hk1
    have n0_ := Aside0.mk (I.out.store G.out hb1 hs1 hk1)
    have n2_ := Aside0.mk (ChI.madeS HO.out hk1)
    clear HO
    have HO := n2_
    clear n2_
    have n2_ := Aside0.mk (ChI.madeS HO4.out hk1)
    clear HO4
    have HO4 := n2_
    clear n2_
    have n2_ := Aside0.mk (ChI.madeS HO5.out hk1)
    clear HO5
    have HO5 := n2_
    clear n2_
    have n2_ := Aside0.mk (ChI.madeS HO6.out hk1)
    clear HO6
    have HO6 := n2_
    clear n2_
    clear I B hb1 hs1 hk1
    have I := n0_
    have B := Aside0.mk b1
    clear n0_ b1
    refine hK.out _ _ ?_
    clear hK K
    refine done_ (done_of HT_.out (by kernel_rfl)) ?_
    go_upto_region 12 with (fail)
    obtain ⟨q0, q1, q2, -, -, -⟩ := cells3 I.out.blk
    go_wp2_with (first | ((with_reducible refine gate_dst (N := 49) rfl ?_); refine load_in (N := 49) (t := 67) (cs := [.int .i64 (rd_T67 l1 i).f0, .string (rd_T67 l1 i).f1, .slice A3 ra.length e3, .slice A4 rb.length e4, .int .i64 r1, .int .i64 r2, .string r3, .string r4, .int .u8 r5, .int .u64 r6, .string r7, .slice A5 r8.length e5, .slice A6 r9.length e6, .int .u8 r10, .int .i64 r11, .int .i64 r12, .int .i64 r13, .int .i64 r14]) rfl rfl rfl rfl (spread_blk B.out) Try.underlying67 rfl rfl (by kernel_rfl) ?_) | ((with_reducible refine gate_builtin (b := .append) (xs := #[.tmp 48, .tmp 50]) rfl ?_); at_builtin; refine ChI.append rfl (.tmp 48) (.tmp 50) 31 67 (.agg #[.int .i64 0, .string (⟨#[]⟩ : ByteArray), .slice none 0 0, .slice none 0 0, .int .i64 0, .int .i64 0, .string (⟨#[]⟩ : ByteArray), .string (⟨#[]⟩ : ByteArray), .int .u8 0, .int .u64 0, .string (⟨#[]⟩ : ByteArray), .slice none 0 0, .slice none 0 0, .int .u8 0, .int .i64 0, .int .i64 0, .int .i64 0, .int .i64 0]) 240 rfl Try.underlying31 info67_ rfl (by decide) (by omega) v1 (⟨(rd_T67 l1 i).f0, (rd_T67 l1 i).f1, ra, rb, (⟨r1, r2, r3, r4, ⟨r5, r6, r7⟩, r8, r9, r10, r11, r12, r13, r14⟩ : S65)⟩ : S67) [.int .i64 (rd_T67 l1 i).f0, .string (rd_T67 l1 i).f1, .slice A3 ra.length e3, .slice A4 rb.length e4, .int .i64 r1, .int .i64 r2, .string r3, .string r4, .int .u8 r5, .int .u64 r6, .string r7, .slice A5 r8.length e5, .slice A6 r9.length e6, .int .u8 r10, .int .i64 r11, .int .i64 r12, .int .i64 r13, .int .i64 r14] rfl rfl I.out (k67_mkM _ _ _ (⟨(rd_T67 l1 i).f0, (rd_T67 l1 i).f1, ra, rb, (⟨r1, r2, r3, r4, ⟨r5, r6, r7⟩, r8, r9, r10, r11, r12, r13, r14⟩ : S65)⟩ : S67) (Kd.R_mono HO.out (fun _ h => h.1)) (Kd.R_mono HO4.out (fun _ h => h.1)) (Kd.R_mono HO5.out (fun _ h => h.1)) (Kd.R_mono HO6.out (fun _ h => h.1))) (by have := HS1.out; have := HN.out; have := C2.out; omega) ?_; intro v9 w9 I9; clear I; have I := Aside0.mk I9; clear I9 q0 q1 q2) | ((with_reducible refine gate_store (t := 31) (p := 52) rfl ?_); obtain ⟨A9, e9, rfl⟩ := Kd.R_slice I.out.row; refine store_at (w0 := w) (j := 1) (u := .slice A9 (xs ++ [(⟨(rd_T67 l1 i).f0, (rd_T67 l1 i).f1, ra, rb, (⟨r1, r2, r3, r4, ⟨r5, r6, r7⟩, r8, r9, r10, r11, r12, r13, r14⟩ : S65)⟩ : S67)]).length e9) (cs' := #[v0, .slice A9 (xs ++ [(⟨(rd_T67 l1 i).f0, (rd_T67 l1 i).f1, ra, rb, (⟨r1, r2, r3, r4, ⟨r5, r6, r7⟩, r8, r9, r10, r11, r12, r13, r14⟩ : S65)⟩ : S67)]).length e9, .slice none 0 0]) rfl rfl rfl rfl rfl rfl rfl (by kernel_rfl) rfl I.out.blk rfl rfl I.out.below I.out.ge ?_; intro W9 b1 hb1 hs1 hk1; have n0_ := Aside0.mk (I.out.out b1 hb1 hs1 hk1).renew; clear I b1 hb1 hs1 hk1; have I := n0_; clear n0_))
    have hw : wrap64 (i + 1) = i + 1 := by
     have := HM1.out
     have := hi.out
     have := C2.out
     unfold wrap64
     omega
    have h1 := hi.out
    have h2 := C2.out
    have h3 := HN.out
    go_roundg (gk - 1)
    case measure => omega
    case rel => exact ⟨i + 1, _, xs ++ [(⟨(rd_T67 l1 i).f0, (rd_T67 l1 i).f1, ra, rb, (⟨r1, r2, r3, r4, ⟨r5, r6, r7⟩, r8, r9, r10, r11, r12, r13, r14⟩ : S65)⟩ : S67)], by rw [hw], ⟨by omega⟩, ⟨_, HX1.out.1, by rw [HX1.out.2]; simp⟩, ⟨by rw [List.length_append, List.length_singleton]; omega⟩, ⟨I.out⟩⟩
  have c2b0 : decide (i < (l0.length : Int)) = true := decide_eq_true c2
  have h0 := hi.out.1
  obtain ⟨aad, aA3, ac3, ae, ahr, ahl0, ahc0⟩ := el_T58 HR0.out i h0 c2
  cases ae
  have p0 := eq_true h0
  have p1 := eq_true c2
  have C2 := Aside0.mk c2
  clear h0 c2
  obtain ⟨ys, hy, hr⟩ := HX.out
  rw [drop_rd z58 hi.out.1 C2.out] at hy
  obtain ⟨p, zs, hp, hy2, hz⟩ := mapGo_cons hy
  subst hz
  clear hy
  have HP := Aside0.mk (show relayplain_Chart.F58 (rd_T58 l0 i) = some p from hp)
  have HX1 := Aside0.mk (And.intro hy2 hr)
  clear HX hp hy2 hr
  have hp := HP.out
  unfold relayplain_Chart.F58 at hp
  clear HP
  obtain ⟨ra, ha, hp⟩ := Option.bind_eq_some_iff.mp hp
  obtain rfl := Option.some.inj hp
  have A1_ := Aside0.mk ha
  clear ha hp
  go_upto_region 5 with (first | ((with_reducible refine gate_dst (N := 16) rfl ?_); refine load_in (N := 16) (t := 58) rfl rfl rfl rfl (spread_below I.out.below ahr) Try.underlying58 rfl rfl (by kernel_rfl) ?_) | ((with_reducible refine gate_dst (N := 5) rfl ?_); refine box_event ?hg (N := 5) ?hd (cs := #[.int .i64 0, .string (⟨#[]⟩ : ByteArray), .bool false, .slice none 0 0]) (t := 58) ?hr ?_; (case hd => rfl); (case hg => rfl); (case hr => first | (go_simp; done) | (go_simp; rfl)); intro g5 hg w5 hbox hb; have G := Aside0.mk ((by rw [hg]; exact I.out.mz) : _ ≤ g5); have n0_ := Aside0.mk (I.out.step hb); have B := Aside0.mk hbox; clear I hb hbox hg; have I := n0_; clear n0_) | ((with_reducible refine gate_store (t := 58) (p := 5) rfl ?_); refine store_at (w0 := w) (j := 0) (u := .agg #[.int .i64 (rd_T58 l0 i).f0, .string (rd_T58 l0 i).f1, .bool (rd_T58 l0 i).f2, .slice aA3 (rd_T58 l0 i).f3.length ac3]) (cs' := #[.int .i64 (rd_T58 l0 i).f0, .string (rd_T58 l0 i).f1, .bool (rd_T58 l0 i).f2, .slice aA3 (rd_T58 l0 i).f3.length ac3]) rfl rfl rfl rfl rfl rfl rfl (by kernel_rfl) rfl B.out rfl rfl I.out.below (I.out.gem G.out) ?_; intro W7 b1 hb1 hs1 hk1; have n0_ := Aside0.mk (I.out.store G.out hb1 hs1 hk1); clear I B hb1 hs1 hk1; have I := n0_; have B := Aside0.mk b1; clear n0_ b1))
  clear ahr p0 p1
  obtain ⟨-, -, -, z3, -, -, -, -⟩ := cells4 B.out
  go_upto_region 6 with (first | (go_at_call 31; refine (api_Link_31.calls _ _ _ ra _ (Kd.C_below ahc0 I.out.below) ahl0 A1_.out).mono ?_; rintro e w' ⟨v3, rfl, ho, hb⟩; obtain ⟨A3, e3, rfl⟩ := Kd.R_slice ho; have HO := Aside0.mk (I.out.made ho (blk_lt B.out)); have n0_ := Aside0.mk (I.out.step hb); have n1_ := Aside0.mk (blk_below B.out hb); clear I B ho hb z3; have I := n0_; have B := n1_; clear n0_ n1_) | ((with_reducible refine gate_store (t := 56) (p := 20) rfl ?_); refine store_at (w0 := w) (j := 3) (u := .slice A3 ra.length e3) (cs' := #[.int .i64 (rd_T58 l0 i).f0, .string (rd_T58 l0 i).f1, .bool (rd_T58 l0 i).f2, .slice A3 ra.length e3]) rfl rfl rfl rfl rfl rfl rfl (by kernel_rfl) rfl B.out rfl rfl I.out.below (I.out.gem G.out) ?_; intro W8 b1 hb1 hs1 hk1; have n0_ := Aside0.mk (I.out.store G.out hb1 hs1 hk1); have n2_ := Aside0.mk (ChI.madeS HO.out hk1); clear HO; have HO := n2_; clear n2_; clear I B hb1 hs1 hk1; have I := n0_; have B := Aside0.mk b1; clear n0_ b1))
  obtain ⟨q0, q1, q2, -, -, -⟩ := cells3 I.out.blk
  go_wp2_with (first | ((with_reducible refine gate_dst (N := 23) rfl ?_); refine load_in (N := 23) (t := 58) (cs := [.int .i64 (rd_T58 l0 i).f0, .string (rd_T58 l0 i).f1, .bool (rd_T58 l0 i).f2, .slice A3 ra.length e3]) rfl rfl rfl rfl (spread_blk B.out) Try.underlying58 rfl rfl (by kernel_rfl) ?_) | ((with_reducible refine gate_builtin (b := .append) (xs := #[.tmp 22, .tmp 24]) rfl ?_); at_builtin; refine ChI.append rfl (.tmp 22) (.tmp 24) 30 58 (.agg #[.int .i64 0, .string (⟨#[]⟩ : ByteArray), .bool false, .slice none 0 0]) 56 rfl Try.underlying30 info58_ rfl (by decide) (by omega) v0 (⟨(rd_T58 l0 i).f0, (rd_T58 l0 i).f1, (rd_T58 l0 i).f2, ra⟩ : S58) [.int .i64 (rd_T58 l0 i).f0, .string (rd_T58 l0 i).f1, .bool (rd_T58 l0 i).f2, .slice A3 ra.length e3] rfl rfl I.out (k58_mkM _ _ _ (⟨(rd_T58 l0 i).f0, (rd_T58 l0 i).f1, (rd_T58 l0 i).f2, ra⟩ : S58) (Kd.R_mono HO.out (fun _ h => h.1))) (by have := HS0.out; have := HN.out; have := C2.out; omega) ?_; intro v9 w9 I9; clear I; have I := Aside0.mk I9; clear I9 q0 q1 q2) | ((with_reducible refine gate_store (t := 30) (p := 26) rfl ?_); obtain ⟨A9, e9, rfl⟩ := Kd.R_slice I.out.row; refine store_at (w0 := w) (j := 0) (u := .slice A9 (xs ++ [(⟨(rd_T58 l0 i).f0, (rd_T58 l0 i).f1, (rd_T58 l0 i).f2, ra⟩ : S58)]).length e9) (cs' := #[.slice A9 (xs ++ [(⟨(rd_T58 l0 i).f0, (rd_T58 l0 i).f1, (rd_T58 l0 i).f2, ra⟩ : S58)]).length e9, .slice none 0 0, .slice none 0 0]) rfl rfl rfl rfl rfl rfl rfl (by kernel_rfl) rfl I.out.blk rfl rfl I.out.below I.out.ge ?_; intro W9 b1 hb1 hs1 hk1; have n0_ := Aside0.mk (I.out.out b1 hb1 hs1 hk1).renew; clear I b1 hb1 hs1 hk1; have I := n0_; clear n0_))
  have hw : wrap64 (i + 1) = i + 1 := by
   have := HM0.out
   have := hi.out
   have := C2.out
   unfold wrap64
   omega
  have h1 := hi.out
  have h2 := C2.out
  have h3 := HN.out
  go_roundg (gk - 1)
  case measure => omega
  case rel => exact ⟨i + 1, _, xs ++ [(⟨(rd_T58 l0 i).f0, (rd_T58 l0 i).f1, (rd_T58 l0 i).f2, ra⟩ : S58)], by rw [hw], ⟨by omega⟩, ⟨_, HX1.out.1, by rw [HX1.out.2]; simp⟩, ⟨by rw [List.length_append, List.length_singleton]; omega⟩, ⟨I.out⟩⟩
theorem relayplain_Chart.mono : ∀ a b c k, LeO (relayplain_Chart.f k a b c) (relayplain_Chart.f (k + 1) a b c) := by
 intro a b c k
 unfold relayplain_Chart.f
 refine LeO.ite (LeO.bind (LeO.refl _) (fun _ => LeO.bind (mapGo_le (fun x => ?_) _) (fun _ => LeO.bind (mapGo_le (fun x => ?_) _) (fun _ => LeO.refl _)))) (LeO.refl _)
 ·
  unfold relayplain_Chart.F67
  exact LeO.bind (LeO.refl _) (fun _ => LeO.bind (LeO.refl _) (fun _ => LeO.bind (relayplain_Expr.mono _ _ _ _ _ _ _ _ _ _ _ _ _ _ _) (fun _ => LeO.refl _)))
 ·
  unfold relayplain_Chart.F70
  exact LeO.bind (relayplain_Stmts.mono _ _) (fun _ => LeO.refl _)
end Go.Proofs.Ytmdkbhbconnmmaa.XSfc
