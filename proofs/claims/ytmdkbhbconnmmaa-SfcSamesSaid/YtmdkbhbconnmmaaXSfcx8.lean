-- WRITTEN BY wip/tools/xprint.py out of the translation: the kit's print with this work's hooks.
import Derived.Test.YtmdkbhbconnmmaaXSfcx0
import Derived.Test.YtmdkbhbconnmmaaXSfcx2
namespace Go.Proofs.Ytmdkbhbconnmmaa.XSfc
open Go.RowKit Go.Proofs.YtmdkbhbconnmmaaW.PrintWords Go.Proofs.YtmdkbhbconnmmaaW.PrintLast Go.Proofs.YtmdkbhbconnmmaaW.PrintMore
attribute [local go_sem] max2_int min2_int max_two min_two max_three min_three max_four min_four   -- for this text's walks alone
set_option linter.unusedVariables false
set_option linter.unusedSimpArgs false

/-! ### api_Range_27: function 27 -/
/-- slices.Clone: the same elements in memory of their own. -/
def api_Range_27.f (l0 : List S50) : Option (List S50) := if l0.length * 16 ≤ 140737488355328 then some l0 else none
set_option maxHeartbeats 800000 in
theorem api_Range_27.nil (c0 : Nat) (w : World) : Calls Try.prog 27 #[.slice none 0 c0] w fun e w' => ∃ v0_ : Value, e = .returned v0_ ∧ Kd.R k50 50 w' w.heap.size (fun _ => True) v0_ [] ∧ Below w.heap.size w w' := by
  have hu := Try.underlying44
  have he := fun W => eql_nil0 Try.prog 44 50 0 c0 Try.underlying44 W
  go_enter Try.func27, Try.ntmps27
  go_wp2
  go_ret
  exact ⟨_, rfl, Kd.R_nil _ _ _ _ _, Below.refl _ _⟩
set_option maxHeartbeats 800000 in
theorem api_Range_27.calls (A0 : Option Addr) (c0 : Nat) (l0 : List S50) (r : List S50) (w : World) (hr0 : Kd.C k50 w A0 l0.length l0) (hc0 : l0.length ≤ c0) (h : api_Range_27.f l0 = some r) :
    Calls Try.prog 27 #[.slice A0 l0.length c0] w fun e w' => ∃ v0_ : Value, e = .returned (v0_) ∧ Kd.R k50 50 w' w.heap.size (fun _ => True) v0_ r ∧ Below w.heap.size w w' := by
  have hb : l0.length * 16 ≤ 140737488355328 ∧ r = l0 := by
    unfold api_Range_27.f at h
    split at h
    · exact ⟨‹_›, (Option.some.inj h).symm⟩
    · cases h
  obtain ⟨hb, rfl⟩ := hb
  clear h
  rcases A0 with _ | ad
  · obtain rfl := C_none hr0
    exact api_Range_27.nil c0 w
  have HR0 := Aside0.mk hr0
  clear hr0
  have hu := Try.underlying44
  have he := fun W => eql_nil Try.prog 44 50 ad r.length c0 Try.underlying44 W
  have HB := Aside0.mk (Below.refl w.heap.size w)
  have infoE : (Try.prog.info? 50).map (fun i => (i.zero, i.size, i.bytes)) = some (some (.agg #[.int .i64 0, .int .i64 0]), Kd.sz k50, 16) := by kernel_rfl
  go_enter Try.func27, Try.ntmps27
  go_wp2_with (first
    | (refine Kd.R_lit k50 (w0 := w) w.heap.size 50 rfl rfl (N := 5) (xs := []) (inner := []) (ok := fun _ => True) (okp := fun _ => False) (by go_simp) (Reps.none _ _) (fun _ _ => trivial) trivial HB.out (Nat.le_refl _) (by simp) ?_; intro v1 w1 hr hb hg hat; have HO := Aside0.mk hr; have HB1 := Aside0.mk hb; clear hr hb hg hat)
    | ((with_reducible refine gate_builtin (b := .append) (xs := #[.tmp 5, .tmp 6]) rfl ?_); at_builtin; refine Kd.R_append_rows k50 (w0 := w) w.heap.size rfl (.tmp 5) (.tmp 6) 44 50 (.agg #[.int .i64 0, .int .i64 0]) 16 rfl Try.underlying44 infoE rfl (by decide) (by omega) _ [] r _ _ _ (fun _ => True) (fun _ => False) rfl rfl HO.out (Kd.C_below HR0.out HB1.out) (fun _ _ h => h) (fun _ h => h.elim) (fun _ _ => trivial) HB1.out (below_size HB1.out) (by simpa using hb) ?_; intro v2 w2 hr hb2 hg hat; have HO2 := Aside0.mk hr; have HB2 := Aside0.mk hb2; clear hr hb2 hg hat))
  go_ret
  exact ⟨_, rfl, by simpa using HO2.out, HB2.out⟩

end Go.Proofs.Ytmdkbhbconnmmaa.XSfc
