/-
  Contract: asm.Check.
-/
import Derived.Test.YtgmojjdojcmnaaaDoorIOne
set_option linter.unusedVariables false
set_option linter.unusedSimpArgs false
namespace Go.Proofs.YtgmojjdojcmnaaaDoor
open Go.RowKit Go.BigFrame

theorem rtsE_step {m : Img} {k : Nat} {r : Rtn} (h : m.rts[k]? = some r) : rtsE m k (m.rts.drop k) = if rtnE m k r = 0 then rtsE m (k + 1) (m.rts.drop (k + 1)) else rtnE m k r := by
  obtain ⟨hk, e⟩ := List.getElem?_eq_some_iff.1 h
  rw [List.drop_eq_getElem_cons hk, e, rtsE]
theorem rtsE_end {m : Img} {k : Nat} (h : m.rts.length ≤ k) : rtsE m k (m.rts.drop k) = 0 := by
  rw [List.drop_eq_nil_of_le h, rtsE]
set_option maxRecDepth 100000 in
set_option maxHeartbeats 3200000 in
theorem check_lim {w0 : World} {A c A' c' m} (x : RIm w0 A c A' c' m) (w : World) (hw : After w0 w) (h : 24 < m.enums.length ∨ 96 < m.rts.length) :
    Calls Tryd.prog 24 #[.agg #[.slice A m.enums.length c, .slice A' m.rts.length c']] w fun e w' => e = .returned (.int .i64 3) ∧ After w w' := by
  by_cases h1 : 24 < m.enums.length
  · have hI : (24 : Int) < (m.enums.length : Int) := by omega
    clear h
    go_enter Tryd.func24, Tryd.ntmps24
    go_wp2_with fail
    go_ret
    exact ⟨rfl, inferInstance⟩
  · have hI : ¬ ((24 : Int) < (m.enums.length : Int)) := by omega
    have hI2 : (96 : Int) < (m.rts.length : Int) := by omega
    clear h
    go_enter Tryd.func24, Tryd.ntmps24
    go_wp2_with fail
    go_ret
    exact ⟨rfl, inferInstance⟩
set_option maxRecDepth 100000 in
set_option maxHeartbeats 3200000 in
theorem check_in {w0 : World} {A c A' c' m} (x : RIm w0 A c A' c' m) (hbd : ImB m) (w : World) (hO : Ops w0) (hw : After w0 w) (h1 : ¬ (24 < m.enums.length)) (h2 : ¬ (96 < m.rts.length)) (q : Bool) (hq : m.enums.any (fun z => !tagB z) = q) :
    Calls Tryd.prog 24 #[.agg #[.slice A m.enums.length c, .slice A' m.rts.length c']] w fun e w' => e = .returned (.int .i64 (if q then 14 else if m.rts.length = 0 then 5 else rtsE m 0 m.rts)) ∧ After w w' := by
  have hI : ¬ ((24 : Int) < (m.enums.length : Int)) := by omega
  have hI2 : ¬ ((96 : Int) < (m.rts.length : Int)) := by omega
  have X := Lib.hid x
  have HT := Lib.hid (fun (U : World) (hU : After w0 U) => containsf_any x.enums U hU 40 #[] (enters_of Tryd.func40 (by kernel_rfl) rfl) (fun z => !tagB z) (fun V z _ _ => lit_tags V z))
  rw [hq] at HT
  obtain ⟨W1, hW1, HK, a1⟩ : ∃ W1, w.alloc (.cells #[.slice A m.enums.length c, .slice A' m.rts.length c'] 29) = W1 ∧ Hid (∀ U : World, After W1 U → U.cell? ⟨w.heap.size, 0, none⟩ = some (.slice A m.enums.length c) ∧ U.cell? ⟨w.heap.size, 1, none⟩ = some (.slice A' m.rts.length c') ∧ Le (w.heap.size + 1) U) ∧ After w W1 := by
    refine ⟨_, rfl, fun U hU => ?_, inferInstance⟩
    have y0 := (Blk.new w 29 #[.slice A m.enums.length c, .slice A' m.rts.length c']).after (w' := U)
    exact ⟨by rw [y0.cell]; rfl, by rw [y0.cell]; rfl, y0.is_le⟩
  clear x hq
  obtain ⟨k0, k1, k2⟩ := HK.out W1 inferInstance
  obtain ⟨T, hT⟩ : ∃ T, rtsE m 0 m.rts = T := ⟨_, rfl⟩
  rw [hT]
  have HTT : Hid (rtsE m 0 (m.rts.drop 0) = T) := hT
  clear hT
  cases q with
  | true =>
    go_enter Tryd.func24, Tryd.ntmps24
    go_wp2_with fail
    try rw [hW1]
    clear hW1
    refine (HT.out W1 (after_after hw a1)).mono ?_
    rintro e w2 ⟨rfl, a2⟩
    have aw2 : After w w2 := after_after a1 a2
    go_wp2_with fail
    go_ret
    exact ⟨rfl, aw2⟩
  | false =>
    by_cases h0 : m.rts.length = 0
    · have hI3 : ((m.rts.length : Int) == 0) = true := by rw [beq_iff_eq]; omega
      rw [if_neg (by decide), if_pos h0]
      clear h0
      go_enter Tryd.func24, Tryd.ntmps24
      go_wp2_with fail
      try rw [hW1]
      clear hW1
      refine (HT.out W1 (after_after hw a1)).mono ?_
      rintro e w2 ⟨rfl, a2⟩
      have aw2 : After w w2 := after_after a1 a2
      obtain ⟨k0, k1, k2⟩ := HK.out w2 a2
      go_wp2_with fail
      go_ret
      exact ⟨rfl, aw2⟩
    · have hI3 : ((m.rts.length : Int) == 0) = false := by rw [beq_eq_false_iff_ne]; omega
      rw [if_neg (by decide), if_neg h0]
      clear h0
      go_enter Tryd.func24, Tryd.ntmps24
      go_wp2_with fail
      try rw [hW1]
      clear hW1
      refine (HT.out W1 (after_after hw a1)).mono ?_
      rintro e w2 ⟨rfl, a2⟩
      have aw2 : After w w2 := after_after a1 a2
      obtain ⟨k0, k1, k2⟩ := HK.out w2 a2
      go_wp2_with fail
      go_loopw [25] (fun i wr => ∃ k : Nat, k ≤ m.rts.length ∧ i = .int .i64 (k : Nat) ∧ Hid (rtsE m k (m.rts.drop k) = T) ∧ After w2 wr) (fun i _ => m.rts.length - (intOf i).toNat)
      case atStart => exact ⟨0, by omega, rfl, HTT, inferInstance⟩
      case round =>
        obtain ⟨k, hk, rfl, HJ, ar⟩ := hrel
        have dr : After w wr := after_after aw2 ar
        obtain ⟨k0, k1, k2⟩ := HK.out wr (after_after a2 ar)
        by_cases hlt : k < m.rts.length
        · have hltI : (k : Int) < (m.rts.length : Int) := by omega
          have hr : m.rts[k]? = some m.rts[k] := List.getElem?_eq_getElem hlt
          obtain ⟨r, hr'⟩ : ∃ r, m.rts[k] = r := ⟨_, rfl⟩
          rw [hr'] at hr
          have HO := Lib.hid (one_any X.out wr hO (after_after hw dr) k hlt r hr (hbd r (List.mem_of_getElem? hr)))
          have HS := Lib.hid (rtsE_step hr)
          obtain ⟨ev, hev⟩ : ∃ ev, rtnE m k r = ev := ⟨_, rfl⟩
          rw [hev] at HO HS
          clear hev hr hr'
          go_wp2_with fail
          refine HO.out.mono ?_
          rintro e w3 ⟨rfl, a3⟩
          have d3 : After w w3 := after_after dr a3
          have e3 : After w2 w3 := after_after ar a3
          by_cases he : ev = 0
          · have HE : Hid (rtsE m (k + 1) (m.rts.drop (k + 1)) = T) := by
              show _ = _
              have h_ := HS.out
              rw [HJ.out, if_pos he] at h_
              exact h_.symm
            go_wp2_with fail
            go_round
            case rel => exact ⟨k + 1, by omega, by go_num, HE, e3⟩
            case measure => simp only [intOf]; omega
          · have HE : Hid (T = ev) := by
              show _ = _
              have h_ := HS.out
              rw [HJ.out, if_neg he] at h_
              exact h_
            go_wp2_with fail
            go_ret
            exact ⟨by rw [HE.out]; rfl, d3⟩
        · have HE : Hid (T = 0) := by
            show _ = _
            have h_ := rtsE_end (m := m) (k := k) (by omega)
            rw [HJ.out] at h_
            exact h_
          go_wp2_with fail
          go_ret
          exact ⟨by rw [HE.out]; rfl, dr⟩
theorem check_any : CheckC := by
  intro w0 w A c A' c' m hO x hbd hw
  by_cases h : 24 < m.enums.length ∨ 96 < m.rts.length
  · have e : chk m = 3 := by unfold chk; rw [if_pos h]
    rw [e]
    exact check_lim x w hw h
  · have hx := check_in x hbd w hO hw (by omega) (by omega) _ rfl
    have ea : m.enums.any (fun z => !tagB z) = !m.enums.all tagB := any_not _ _
    have e : chk m = if m.enums.any (fun z => !tagB z) then 14 else if m.rts.length = 0 then 5 else rtsE m 0 m.rts := by
      unfold chk
      rw [if_neg h, ea]
    rw [e]
    exact hx
end Go.Proofs.YtgmojjdojcmnaaaDoor
