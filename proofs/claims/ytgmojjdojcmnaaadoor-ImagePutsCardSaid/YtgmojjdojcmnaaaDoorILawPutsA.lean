/-
  ImagePuts: the walk.
-/
import Derived.Test.YtgmojjdojcmnaaaDoorILives
import Derived.Test.YtgmojjdojcmnaaaDoorIChk
import Derived.Test.YtgmojjdojcmnaaaDoorIInF
import Derived.Test.YtgmojjdojcmnaaaDoorIWeigh
import Derived.Test.YtgmojjdojcmnaaaDoorIRput
import Derived.Test.YtgmojjdojcmnaaaDoorIRsame
import Derived.Lib.BufferRead
set_option linter.unusedVariables false
set_option linter.unusedSimpArgs false
namespace Go.Proofs.YtgmojjdojcmnaaaDoor
open Go.RowKit Go.BigFrame

theorem conv_str {W : World} {A c l n} (x : RY W A c l) (hn : l.length = n) : (convert 22 9 (.slice A n c)).run Tryd.prog W = .ok (.string ⟨l.toArray⟩) W := by
  subst hn
  rcases Nat.eq_zero_or_pos l.length with h0 | h0
  · have hl : l = [] := List.eq_nil_of_length_eq_zero h0
    subst hl
    cases A with
    | none => exact Lib.run_convert_nil_bytes (P := Tryd.prog) W 22 9 5 c Tryd.underlying22 Tryd.underlying5 Tryd.underlying9
    | some a => exact run_convert_bytes_back (P := Tryd.prog) W 22 9 5 a c [] Tryd.underlying22 Tryd.underlying5 Tryd.underlying9 (fun j hj => by cases hj)
  · obtain ⟨ad, rfl, hlt, hc⟩ := x.reads.2 h0
    refine run_convert_bytes_back (P := Tryd.prog) W 22 9 5 ad c l Tryd.underlying22 Tryd.underlying5 Tryd.underlying9 (fun j hj => hc j _ ?_)
    unfold yv
    rw [List.getElem?_map, List.getElem?_eq_getElem hj]; rfl
theorem conv_none (W : World) : (convert 22 9 (.slice none 0 0)).run Tryd.prog W = .ok (.string ⟨#[]⟩) W :=
  Lib.run_convert_nil_bytes (P := Tryd.prog) W 22 9 5 0 Tryd.underlying22 Tryd.underlying5 Tryd.underlying9

set_option maxRecDepth 100000 in
set_option maxHeartbeats 4000000 in
theorem imagePuts_walk (w : World) (hO : Ops w) {A c A' c' m} (x : RIm w A c A' c' m) (hb : ImB m) :
    Calls Tryd.prog 7 #[.agg #[.slice A m.enums.length c, .slice A' m.rts.length c']] w fun e w' => e = .returned (.bool true) ∧ After w w' := by
  have hC := check_any
  have HL : Hid (∀ U, After w U → Calls Tryd.prog 13 #[] U fun e w' => e = .returned (.bool true) ∧ After w w') := fun U h => (lives_any hC U (hO.here U)).mono fun e w' he => ⟨he.1, after_after h he.2⟩
  have HH := Lib.hid (fun U (h : After w U) => heavy_any x U h)
  have X := Lib.hid x
  clear x
  obtain ⟨W1, hW1, HK, a1⟩ : ∃ W1, w.alloc (.cells #[.slice A m.enums.length c, .slice A' m.rts.length c'] 29) = W1 ∧ Hid (∀ U : World, After W1 U → U.cell? ⟨w.heap.size, 0, none⟩ = some (.slice A m.enums.length c) ∧ U.cell? ⟨w.heap.size, 1, none⟩ = some (.slice A' m.rts.length c') ∧ Le (w.heap.size + 1) U) ∧ After w W1 := by
    refine ⟨_, rfl, fun U hU => ?_, inferInstance⟩
    have y0 := (Blk.new w 29 #[.slice A m.enums.length c, .slice A' m.rts.length c']).after (w' := U)
    exact ⟨by rw [y0.cell]; rfl, by rw [y0.cell]; rfl, y0.is_le⟩
  obtain ⟨k0, k1, k2⟩ := HK.out W1 inferInstance
  go_enter Tryd.func7, Tryd.ntmps7
  go_wp2_with fail
  try rw [hW1]
  clear hW1
  refine (HH.out _ a1).mono ?_
  rintro e w2 ⟨⟨hv, rfl⟩, b2⟩
  clear k0 k1 k2
  obtain ⟨k0, k1, k2⟩ := HK.out w2 b2
  have aw2 : After w w2 := after_after a1 b2
  cases hv with
  | true =>
    go_wp2_with fail
    refine (HL.out _ aw2).mono ?_
    rintro e w1 ⟨rfl, hw1⟩
    go_wp2_with fail
    go_ret
    exact ⟨rfl, hw1⟩
  | false =>
    by_cases hm : chk m = 0
    · have HP := Lib.hid (put_ok X.out hb w2 hO aw2 hC hm)
      have HR := Lib.hid (fun (U : World) (hU : After w U) => rput_ok X.out U hU hm)
      have hgv := getV_put (img_in hm) hm
      obtain ⟨PB, hPB⟩ : ∃ PB, putB m = PB := ⟨_, rfl⟩
      obtain ⟨n, hn⟩ : ∃ n, PB.length = n := ⟨_, rfl⟩
      rw [hPB] at hgv HR HP
      rw [hn] at HP
      have HGV := Lib.hid hgv
      have HN := Lib.hid hn
      clear hgv hPB hn hm
      go_wp2_with fail
      refine HP.out.mono ?_
      rintro e w3 ⟨Ab, cb, rfl, xb_, nb_, a3⟩
      have Xb := Lib.hid xb_
      clear xb_ nb_ HP
      have aw3 : After w w3 := after_after aw2 a3
      clear k0 k1 k2
      obtain ⟨k0, k1, k2⟩ := HK.out w3 (after_after b2 a3)
      go_wp2_with fail
      refine (HR.out w3 aw3).mono ?_
      rintro e w4 ⟨A4, n4, c4, rfl, o4, a4⟩
      have aw4 : After w w4 := after_after aw3 a4
      have kc1 := conv_str (Xb.out.here w4) HN.out
      have kc2 := conv_str o4.bytes o4.len
      have HG := Lib.hid (get_any w4 (Xb.out.here w4) inferInstance hC (hO.here w4))
      rw [HN.out, HGV.out] at HG
      clear o4
      clear k0 k1 k2
      obtain ⟨k0, k1, k2⟩ := HK.out w4 (after_after b2 (after_after a3 a4))
      go_wp2_with fail
      refine HG.out.mono ?_
      rintro e w5 ⟨A5, c5, B5, d5, rfl, m5, a5⟩
      have aw5 : After w w5 := after_after aw4 a5
      have b5 : After W1 w5 := after_after b2 (after_after a3 (after_after a4 a5))
      have M5 := Lib.hid m5
      clear m5 HG kc1 kc2
      obtain ⟨g6, hg6⟩ : ∃ g6, w5.heap.size = g6 := ⟨_, rfl⟩
      obtain ⟨W6, hW6, HK6, a6⟩ : ∃ W6, w5.alloc (.cells #[.slice A5 m.enums.length c5, .slice B5 m.rts.length d5] 29) = W6 ∧ Hid (∀ U : World, After W6 U → U.cell? ⟨g6, 0, none⟩ = some (.slice A5 m.enums.length c5) ∧ U.cell? ⟨g6, 1, none⟩ = some (.slice B5 m.rts.length d5) ∧ Le (g6 + 1) U) ∧ After w5 W6 := by
        refine ⟨_, rfl, fun U hU => ?_, inferInstance⟩
        have y0 := (Blk.new w5 29 #[.slice A5 m.enums.length c5, .slice B5 m.rts.length d5]).after (w' := U)
        rw [hg6] at y0
        exact ⟨by rw [y0.cell]; rfl, by rw [y0.cell]; rfl, y0.is_le⟩
      have aw6 : After w W6 := after_after aw5 a6
      have b6 : After W1 W6 := after_after b5 a6
      have HS1 := Lib.hid (fun (U : World) (hU : After W6 U) => rsame_refl (M5.out.here W6) (X.out.here W6) U hU)
      have HS2 := Lib.hid (fun (U : World) (hU : After W6 U) => same_refl (M5.out.here W6) (X.out.here W6) U hU)
      clear k0 k1 k2
      obtain ⟨k0, k1, k2⟩ := HK.out W6 b6
      obtain ⟨q0, q1, q2⟩ := HK6.out W6 inferInstance
      go_wp2_with fail
      try rw [hW6]
      try rw [hg6]
      clear hW6 hg6
      refine (HS1.out W6 inferInstance).mono ?_
      rintro e w7 ⟨rfl, a7⟩
      clear k0 k1 k2 q0 q1 q2
      obtain ⟨k0, k1, k2⟩ := HK.out w7 (after_after b6 a7)
      obtain ⟨q0, q1, q2⟩ := HK6.out w7 a7
      go_wp2_with fail
      refine (HS2.out w7 a7).mono ?_
      rintro e w8 ⟨rfl, a8⟩
      go_wp2_with fail
      refine (HL.out _ (after_after aw6 (after_after a7 a8))).mono ?_
      rintro e w1 ⟨rfl, hw1⟩
      go_wp2_with fail
      go_ret
      exact ⟨rfl, hw1⟩
    · have HP := Lib.hid (put_bad X.out hb w2 hO aw2 hC hm)
      have HR := Lib.hid (fun (U : World) (hU : After w U) => rput_bad X.out U hU hm)
      obtain ⟨q, hq⟩ : ∃ q, chk m = q := ⟨_, rfl⟩
      rw [hq] at HP HR hm
      have hq1 : (q == 0) = false := by rw [beq_eq_false_iff_ne]; exact hm
      have hq2 : (q != 0) = true := by rw [bne, hq1]; rfl
      clear hq
      go_wp2_with fail
      refine HP.out.mono ?_
      rintro e w3 ⟨rfl, a3⟩
      have aw3 : After w w3 := after_after aw2 a3
      clear k0 k1 k2
      obtain ⟨k0, k1, k2⟩ := HK.out w3 (after_after b2 a3)
      go_wp2_with fail
      refine (HR.out w3 aw3).mono ?_
      rintro e w4 ⟨rfl, a4⟩
      have aw4 : After w w4 := after_after aw3 a4
      have kc1 := conv_none w4
      go_wp2_with fail
      refine (HL.out _ aw4).mono ?_
      rintro e w1 ⟨rfl, hw1⟩
      go_wp2_with fail
      go_ret
      exact ⟨rfl, hw1⟩
end Go.Proofs.YtgmojjdojcmnaaaDoor
