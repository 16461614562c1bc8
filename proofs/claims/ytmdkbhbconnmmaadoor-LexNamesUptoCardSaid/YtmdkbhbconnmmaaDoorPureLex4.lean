/- LexNames, fourth part: what the document's IsAddr tells, and the law. (This text: of the Lean functions alone.) -/
import Derived.Test.YtmdkbhbconnmmaaDoorPureLex3
namespace Go.Proofs.YtmdkbhbconnmmaaDoor.PureLex
open Go.RowKit Go.Proofs.YtmdkbhbconnmmaaDoor.XLex Go.Proofs.YtmdkbhbconnmmaaDoorW.PrintWords Go.Proofs.YtmdkbhbconnmmaaDoorW.PrintLast Go.Proofs.YtmdkbhbconnmmaaDoorW.PrintMore Go.Proofs.YtmdkbhbconnmmaaDoor.Num
set_option linter.unusedVariables false
set_option linter.unusedSimpArgs false

theorem up_fix (b : UInt8) (h : ¬ (97 ≤ b.toNat ∧ b.toNat ≤ 122)) : upB b = b := by
  unfold upB
  rw [if_neg h]
theorem DG_range {a : Int} (h : DG a = true) : 48 ≤ a ∧ a ≤ 57 := of_decide_eq_true h
/-- A text that is an address bears no small letter. -/
theorem told_upper (s : ByteArray) (h : told s ≠ (0, 0, false)) : s.data.toList.map upB = s.data.toList := by
  have g : 4 ≤ (s.size : Int) ∧ bt s 0 = 37 ∧ okD s ∧ okK s ∧ (if bt s 2 = 88 then goodX s else goodN s) := by
    unfold told at h
    by_cases c : 4 ≤ (s.size : Int) ∧ bt s 0 = 37 ∧ okD s ∧ okK s ∧ (if bt s 2 = 88 then goodX s else goodN s)
    · exact c
    · rw [if_neg c] at h
      exact absurd rfl h
  obtain ⟨g4, g0, g1, g2, g3⟩ := g
  have hb : ∀ j : Int, 0 ≤ j → j < s.size → ¬ (97 ≤ bt s j ∧ bt s j ≤ 122) := by
    intro j h0 h1
    by_cases c0 : j = 0
    · subst c0; omega
    by_cases c1 : j = 1
    · subst c1; rcases g1 with h | h | h <;> omega
    by_cases c2 : j = 2
    · subst c2; rcases g2 with h | h | h | h | h <;> omega
    by_cases cx : bt s 2 = 88
    · rw [if_pos cx] at g3
      obtain ⟨k1, k2, k3, k4, k5, k6, k7⟩ := g3
      by_cases c3 : j < (s.size : Int) - 2
      · have := DG_range (k6 j (by omega) c3)
        omega
      · by_cases c4 : j = (s.size : Int) - 2
        · subst c4; omega
        · obtain rfl : j = (s.size : Int) - 1 := by omega
          omega
    · rw [if_neg cx] at g3
      have := DG_range (g3.2.2.1 j (by omega) h1)
      omega
  apply List.ext_getElem?
  intro i
  rw [List.getElem?_map]
  by_cases hi : i < s.size
  · obtain ⟨b, e1, e2⟩ := bt_list s i hi
    rw [e1]
    have := hb (i : Int) (by omega) (by omega)
    rw [e2] at this
    show some (upB b) = some b
    rw [up_fix b (by omega)]
  · have e : s.data.toList[i]? = none := by
      apply List.getElem?_eq_none
      rw [Array.length_toList]
      have : s.data.size = s.size := rfl
      omega
    rw [e]
    rfl
theorem mn_eq (n : Int) : mn n (wrap64 (0 + 3)) = if 3 < n then 3 else n := by
  rw [wrap_eq (by omega) (by omega)]
  unfold mn
  rfl
/-- The head of the text in capitals, where the text is in capitals. -/
theorem head_up (s : ByteArray) (h : s.data.toList.map upB = s.data.toList) (m : Nat) (hm : m ≤ s.size) : ∃ u : ByteArray, (⟨((s.extract 0 m).data.toList.map upB).toArray⟩ : ByteArray) = u ∧ u.size = m ∧ ∀ j : Int, 0 ≤ j → j < m → bt u j = bt s j := by
  refine ⟨_, rfl, ?_, fun j h0 h1 => ?_⟩
  · show ((s.extract 0 m).data.toList.map upB).toArray.size = m
    rw [List.size_toArray, List.length_map, Array.length_toList]
    show (s.extract 0 m).size = m
    rw [ByteArray.size_extract]
    omega
  · have hz : j.toNat < (⟨((s.extract 0 m).data.toList.map upB).toArray⟩ : ByteArray).size := by
      show j.toNat < ((s.extract 0 m).data.toList.map upB).toArray.size
      rw [List.size_toArray, List.length_map, Array.length_toList]
      show j.toNat < (s.extract 0 m).size
      rw [ByteArray.size_extract]
      omega
    obtain ⟨b, e1, e2⟩ := bt_list _ j.toNat hz
    obtain ⟨c, f1, f2⟩ := bt_list s j.toNat (by omega)
    rw [show ((j.toNat : Nat) : Int) = j by omega] at e2 f2
    have : b = c := by
      have e1' : ((s.extract 0 m).data.toList.map upB)[j.toNat]? = some b := e1
      rw [Lib.extract_data, List.drop_zero, List.map_take, h, List.getElem?_take, if_pos (by omega), f1] at e1'
      exact (Option.some.inj e1').symm
    rw [e2, f2, this]
/-- The tests on the second byte and the third. -/
theorem tests (k : Nat) (s u : ByteArray) (hu : ¬ (u.size : Int) < 3) :
    (if (u.size : Int) < 3 then (relayref03_address.j0 k s 0 u true) else (if 1 < (u.size : Int) then (if (bt u 1) = 73 then (if 2 < (u.size : Int) then (if (bt u 2) = 88 then (relayref03_address.j0 k s 0 u false) else (if (bt u 2) = 66 then (relayref03_address.j0 k s 0 u false) else (if (bt u 2) = 87 then (relayref03_address.j0 k s 0 u false) else (if (bt u 2) = 68 then (relayref03_address.j0 k s 0 u false) else (relayref03_address.j0 k s 0 u ((bt u 2) != 76)))))) else (none)) else (if (bt u 1) = 81 then (if 2 < (u.size : Int) then (if (bt u 2) = 88 then (relayref03_address.j0 k s 0 u false) else (if (bt u 2) = 66 then (relayref03_address.j0 k s 0 u false) else (if (bt u 2) = 87 then (relayref03_address.j0 k s 0 u false) else (if (bt u 2) = 68 then (relayref03_address.j0 k s 0 u false) else (relayref03_address.j0 k s 0 u ((bt u 2) != 76)))))) else (none)) else (if (bt u 1) = 77 then (if 2 < (u.size : Int) then (if (bt u 2) = 88 then (relayref03_address.j0 k s 0 u false) else (if (bt u 2) = 66 then (relayref03_address.j0 k s 0 u false) else (if (bt u 2) = 87 then (relayref03_address.j0 k s 0 u false) else (if (bt u 2) = 68 then (relayref03_address.j0 k s 0 u false) else (relayref03_address.j0 k s 0 u ((bt u 2) != 76)))))) else (none)) else (relayref03_address.j0 k s 0 u true)))) else (none))) =
    relayref03_address.j0 k s 0 u (!(decide (okD u) && decide (okK u))) := by
  rw [if_neg hu, if_pos (by omega)]
  have h2 : (2 : Int) < (u.size : Int) := by omega
  simp only [if_pos h2]
  unfold okD okK
  by_cases d1 : bt u 1 = 73
  · simp only [d1, if_true, true_or, decide_true, Bool.true_and]
    by_cases k1 : bt u 2 = 88
    · simp [k1]
    by_cases k2 : bt u 2 = 66
    · simp [k2]
    by_cases k3 : bt u 2 = 87
    · simp [k3]
    by_cases k4 : bt u 2 = 68
    · simp [k4]
    by_cases k5 : bt u 2 = 76
    · simp [k1, k2, k3, k4, k5]
    · have k6 : (bt u 2 != 76) = true := bne_iff_ne.mpr k5
      simp [k1, k2, k3, k4, k5, k6]
  by_cases d2 : bt u 1 = 81
  · simp only [d1, d2, if_true, if_false, true_or, or_true, decide_true, Bool.true_and]
    by_cases k1 : bt u 2 = 88
    · simp [k1]
    by_cases k2 : bt u 2 = 66
    · simp [k2]
    by_cases k3 : bt u 2 = 87
    · simp [k3]
    by_cases k4 : bt u 2 = 68
    · simp [k4]
    by_cases k5 : bt u 2 = 76
    · simp [k1, k2, k3, k4, k5]
    · have k6 : (bt u 2 != 76) = true := bne_iff_ne.mpr k5
      simp [k1, k2, k3, k4, k5, k6]
  by_cases d3 : bt u 1 = 77
  · simp only [d1, d2, d3, if_true, if_false, true_or, or_true, decide_true, Bool.true_and]
    by_cases k1 : bt u 2 = 88
    · simp [k1]
    by_cases k2 : bt u 2 = 66
    · simp [k2]
    by_cases k3 : bt u 2 = 87
    · simp [k3]
    by_cases k4 : bt u 2 = 68
    · simp [k4]
    by_cases k5 : bt u 2 = 76
    · simp [k1, k2, k3, k4, k5]
    · have k6 : (bt u 2 != 76) = true := bne_iff_ne.mpr k5
      simp [k1, k2, k3, k4, k5, k6]
  · simp [d1, d2, d3]
/-- The document's address, where the text is in capitals and bears a direction and a width. -/
theorem addr_no (s : ByteArray) (hs : s.size ≤ 1048576) (hu : s.data.toList.map upB = s.data.toList) (h : ¬ (3 ≤ (s.size : Int) ∧ okD s ∧ okK s)) (h0 : 0 < (s.size : Int)) : Ev (fun k => relayref03_address.f k s 0) (-1) := by
  have no : ∀ u, Ev (fun k => relayref03_address.j0 k s 0 u true) (-1) := fun u => Ev.step (f := fun _ => some (-1)) (fun k => by simp only [relayref03_address.j0]; rfl) (Ev.now _)
  obtain ⟨m, hm⟩ : ∃ m : Nat, (mn (s.size : Int) (wrap64 (0 + 3))) = (m : Int) ∧ m ≤ s.size ∧ (m < 3 → m = s.size) ∧ m ≤ 3 := by
    rw [mn_eq]
    by_cases c : 3 < (s.size : Int)
    · rw [if_pos c]
      exact ⟨3, rfl, by omega, by omega, by omega⟩
    · rw [if_neg c]
      exact ⟨s.size, rfl, by omega, by omega, by omega⟩
  obtain ⟨hm, m1, m2, m3⟩ := hm
  obtain ⟨u, e1, e2, e3⟩ := head_up s hu m m1
  have eU : relayref03_Upper.f (s.extract (0 : Int).toNat (m : Int).toNat) = some u := by
    unfold relayref03_Upper.f
    rw [if_pos (by rw [ByteArray.size_extract]; omega)]
    exact congrArg some e1
  by_cases c : (u.size : Int) < 3
  · refine Ev.congr (fun k => ?_) (no u)
    unfold relayref03_address.f
    rw [hm, if_pos (by omega), if_pos (by omega), if_pos (by omega), eU]
    simp only [Option.bind_some]
    rw [if_pos c]
  · refine Ev.congr (fun k => ?_) (no u)
    unfold relayref03_address.f
    rw [hm, if_pos (by omega), if_pos (by omega), if_pos (by omega), eU]
    simp only [Option.bind_some]
    rw [tests k s u c]
    congr 1
    have q1 := e3 1 (by omega) (by omega)
    have q2 := e3 2 (by omega) (by omega)
    have : ¬ (okD u ∧ okK u) := by
      unfold okD okK
      rw [q1, q2]
      exact fun g => h ⟨by omega, g.1, g.2⟩
    by_cases d1 : okD u
    · have d2 : ¬ okK u := fun d2 => this ⟨d1, d2⟩
      simp [d1, d2]
    · simp [d1]
theorem addr_yes (s : ByteArray) (hs : s.size ≤ 1048576) (hu : s.data.toList.map upB = s.data.toList) (h3 : 3 ≤ (s.size : Int)) (hd : okD s) (hk : okK s) : ∃ r, Ev (fun k => relayref03_address.f k s 0) r ∧ (r = (s.size : Int) ↔ (if bt s 2 = 88 then goodX s else goodN s)) := by
  obtain ⟨u, e1, e2, e3⟩ := head_up s hu 3 (by omega)
  have eU : relayref03_Upper.f (s.extract (0 : Int).toNat ((3 : Nat) : Int).toNat) = some u := by
    unfold relayref03_Upper.f
    rw [if_pos (by rw [ByteArray.size_extract]; omega)]
    exact congrArg some e1
  have q1 := e3 1 (by omega) (by omega)
  have q2 := e3 2 (by omega) (by omega)
  have d1 : okD u := by unfold okD; rw [q1]; exact hd
  have d2 : okK u := by unfold okK; rw [q2]; exact hk
  have hm : mn (s.size : Int) (wrap64 (0 + 3)) = ((3 : Nat) : Int) := by
    rw [mn_eq]
    by_cases c : 3 < (s.size : Int)
    · rw [if_pos c]; rfl
    · rw [if_neg c]; omega
  obtain ⟨e, hr, hl⟩ := digits_loop s u 3 hs (s.size - 3) 3 (by omega) (by omega)
  have he := hl _ (ends s u hs (by omega) e hr.lo hr.hi)
  have hev : Ev (fun k => relayref03_address.f k s 0) (endA s (bt u 2 == 88) e) := by
    refine Ev.congr (f := fun k => relayref03_address.j0 k s 0 u false) (fun k => ?_) (Ev.step (fun k => ?_) he)
    · unfold relayref03_address.f
      rw [hm, if_pos (by omega), if_pos (by omega), if_pos (by omega), eU]
      simp only [Option.bind_some]
      rw [tests k s u (by omega)]
      simp [d1, d2]
    · simp only [relayref03_address.j0]
      rw [if_neg (by simp), wrap_eq (by omega) (by omega)]
      rfl
  refine ⟨_, hev, ?_⟩
  rw [q2]
  by_cases cx : bt s 2 = 88
  · rw [beq_iff_eq.mpr cx, if_pos cx]
    exact endX_iff hr h3
  · rw [beq_eq_false_iff_ne.mpr cx, if_neg cx]
    exact endN_iff hr h3
/-- What the document's IsAddr tells. -/
theorem ref_told (s : ByteArray) (hs : s.size ≤ 1048576) : Ev (fun k => relayref03_IsAddr.f k s) (told s) := by
  have no : Ev (fun k => relayref03_IsAddr.j0 k s true) (0, 0, false) := Ev.step (f := fun _ => some (0, 0, false)) (fun k => by simp only [relayref03_IsAddr.j0]; rfl) (Ev.now _)
  have tn : ¬ (4 ≤ (s.size : Int) ∧ bt s 0 = 37 ∧ okD s ∧ okK s ∧ (if bt s 2 = 88 then goodX s else goodN s)) → told s = (0, 0, false) := fun h => by unfold told; rw [if_neg h]
  unfold relayref03_IsAddr.f
  by_cases c0 : s.toList = []
  · have hz : s.size = 0 := by
      rw [toList_eq] at c0
      have := congrArg List.length c0
      simpa using this
    rw [tn (fun h => by have := h.1; omega)]
    exact Ev.congr (fun k => by rw [if_pos c0]) no
  have h0 : 0 < (s.size : Int) := by
    rcases Nat.eq_zero_or_pos s.size with h | h
    · exact absurd (by rw [toList_eq]; exact List.eq_nil_of_length_eq_zero (by rw [Array.length_toList]; exact h)) c0
    · omega
  by_cases c1 : bt s 0 = 37
  case neg =>
    rw [tn (fun h => c1 h.2.1)]
    exact Ev.congr (fun k => by rw [if_neg c0, if_pos h0, if_neg c1]) no
  have eU : relayref03_Upper.f s = some (⟨(s.data.toList.map upB).toArray⟩ : ByteArray) := by unfold relayref03_Upper.f; rw [if_pos hs]
  have eL : (⟨(s.data.toList.map upB).toArray⟩ : ByteArray).toList = s.data.toList.map upB := ByteArray.toList_mk _
  by_cases c2 : s.data.toList.map upB = s.data.toList
  case neg =>
    have ht : told s = (0, 0, false) := by
      by_cases c : told s = (0, 0, false)
      · exact c
      · exact absurd (told_upper s c) c2
    rw [ht]
    exact Ev.congr (fun k => by rw [if_neg c0, if_pos h0, if_pos c1, eU]; simp only [Option.bind_some]; rw [if_neg (by rw [eL, toList_eq]; exact c2)]) no
  have step : ∀ r x, Ev (fun k => relayref03_address.f k s 0) r → Ev (fun k => relayref03_IsAddr.j0 k s (r != (s.size : Int))) x → Ev (fun k => if s.toList = ([] : List UInt8) then (relayref03_IsAddr.j0 k s true) else (if 0 < (s.size : Int) then (if (bt s 0) = 37 then ((relayref03_Upper.f s).bind fun t107 => (if t107.toList = s.toList then ((relayref03_address.f k s 0).bind fun t108 => (relayref03_IsAddr.j0 k s (t108 != (s.size : Int)))) else (relayref03_IsAddr.j0 k s true))) else (relayref03_IsAddr.j0 k s true)) else (none))) x := by
    intro r x h1 h2
    refine Ev.congr (f := fun k => (relayref03_address.f k s 0).bind fun t108 => (relayref03_IsAddr.j0 k s (t108 != (s.size : Int)))) (fun k => ?_) (Ev.bind h1 h2)
    rw [if_neg c0, if_pos h0, if_pos c1, eU]
    simp only [Option.bind_some]
    rw [if_pos (by rw [eL, toList_eq]; exact c2)]
  by_cases c3 : 3 ≤ (s.size : Int) ∧ okD s ∧ okK s
  case neg =>
    rw [tn (fun h => c3 ⟨by omega, h.2.2.1, h.2.2.2.1⟩)]
    refine step (-1) _ (addr_no s hs c2 c3 h0) ?_
    rw [show ((-1 : Int) != (s.size : Int)) = true from bne_iff_ne.mpr (by omega)]
    exact no
  obtain ⟨k3, kd, kk⟩ := c3
  obtain ⟨r, hr, hg⟩ := addr_yes s hs c2 k3 kd kk
  by_cases c4 : r = (s.size : Int)
  case neg =>
    rw [tn (fun h => c4 (hg.2 h.2.2.2.2))]
    refine step r _ hr ?_
    rw [show (r != (s.size : Int)) = true from bne_iff_ne.mpr c4]
    exact no
  have g := hg.1 c4
  have g4 : 4 ≤ (s.size : Int) := by
    by_cases cx : bt s 2 = 88
    · rw [if_pos cx] at g; have := g.1; omega
    · rw [if_neg cx] at g; exact g.1
  have ht : told s = (bitsOf s, dirOf s, true) := by unfold told; rw [if_pos ⟨g4, c1, kd, kk, g⟩]
  rw [ht]
  refine step r _ hr ?_
  rw [show (r != (s.size : Int)) = false from bne_eq_false_iff_eq.mpr c4]
  have j1 : ∀ d : Int, Ev (fun k => relayref03_IsAddr.j1 k s d 1) (bitsOf s, d, true) := fun d => by
    refine Ev.step (f := fun _ => some (bitsOf s, d, true)) (fun k => ?_) (Ev.now _)
    simp only [relayref03_IsAddr.j1]
    rw [if_pos (by omega)]
    unfold bitsOf
    repeat' split
    all_goals rfl
  have jd := j1 (dirOf s)
  refine Ev.step (fun k => ?_) jd
  simp only [relayref03_IsAddr.j0]
  rw [if_neg (by simp), if_pos (by omega)]
  unfold dirOf
  repeat' split
  all_goals rfl
theorem LexNames (s : ByteArray) (hs : s.size ≤ 1048576) : ∃ k, relaylaw03_LexNames.f k s = some true := by
  obtain ⟨r, h1, h2⟩ := names s hs
  have h3 := ref_told s hs
  have h4 : lex_IsAddr.f s = some (told s) := by unfold lex_IsAddr.f; rw [if_pos hs, prog_told s hs]
  obtain ⟨K1, h1⟩ := h1
  obtain ⟨K2, h2⟩ := h2
  obtain ⟨K3, h3⟩ := h3
  refine ⟨K1 + K2 + K3, ?_⟩
  unfold relaylaw03_LexNames.f
  have a1 := h1 (K1 + K2 + K3) (by omega)
  have a2 := h2 (K1 + K2 + K3) (by omega)
  have a3 := h3 (K1 + K2 + K3) (by omega)
  simp only at a1 a2 a3
  rw [h4, a1, a2, a3]
  simp
end Go.Proofs.YtmdkbhbconnmmaaDoor.PureLex
