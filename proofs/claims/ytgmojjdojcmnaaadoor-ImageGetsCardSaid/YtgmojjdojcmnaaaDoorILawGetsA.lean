/-
  ImageGets: the walk (printed by gen_lawgets.py).
-/
import Derived.Test.YtgmojjdojcmnaaaDoorILives
import Derived.Test.YtgmojjdojcmnaaaDoorIChk
import Derived.Test.YtgmojjdojcmnaaaDoorIRsame
import Derived.Test.YtgmojjdojcmnaaaDoorIRg
import Derived.Test.YtgmojjdojcmnaaaDoorIBack
set_option linter.unusedVariables false
set_option linter.unusedSimpArgs false
namespace Go.Proofs.YtgmojjdojcmnaaaDoor
open Go.RowKit Go.BigFrame


set_option maxRecDepth 100000 in
set_option maxHeartbeats 8000000 in
theorem imageGets_walk (w : World) (hO : Ops w) {A c l} (x : RY w A c l) (n : Nat) (hn : l.length = n) (sb : Bool) :
    Calls Tryd.prog 3 #[.slice A n c, .bool sb] w fun e w' => e = .returned (.bool true) ∧ After w w' := by
  have hC := check_any
  have HL : Hid (∀ U, After w U → Calls Tryd.prog 13 #[] U fun e w' => e = .returned (.bool true) ∧ After w w') := fun U h => (lives_any hC U (hO.here U)).mono fun e w' he => ⟨he.1, after_after h he.2⟩
  have hcl := x.le
  have hln := x.len
  rw [hn] at hcl hln
  have aU : After w w := inferInstance
  by_cases h3 : 3000 < n
  · have hI : (3000 : Int) < (n : Int) := by omega
    have hI2 : (3000 : Int) ≤ (c : Int) := by omega
    obtain ⟨l1, hl1⟩ : ∃ l1, l.take 3000 = l1 := ⟨_, rfl⟩
    have X0 : Hid (RY w A c l1) := by show RY _ _ _ _; rw [← hl1]; exact x.cut 3000 (by omega)
    have HX0 : Hid (l1.length = 3000) := by show _ = _; rw [← hl1, List.length_take]; omega
    have hb0 : Hid ((([] : List UInt8)).length + l1.length ≤ 200000000) := by show _ ≤ _; rw [HX0.out]; decide
    have hb4 : Hid (l1.length + (enc ((sumB l1 : Nat) : Int)).length ≤ 200000000) := by show _ ≤ _; rw [HX0.out, enc_length]; decide
    clear x hl1 hn
    cases sb with
    | false =>
      have X := X0
      have HX := HX0
      go_enter Tryd.func3, Tryd.ntmps3
      have HG1 := Lib.hid (get_any w X.out inferInstance hC (hO.here w))
      have HR1 := Lib.hid (fun (V : World) (hV : After w V) => rget_any V X.out hV)
      obtain ⟨q, hq⟩ : ∃ q, getV l1 = q := ⟨_, rfl⟩
      rw [HX.out, hq] at HG1 HR1
      have HV := Lib.hid hq
      clear hq
      obtain ⟨mg, ev⟩ := q
      simp only [] at HG1 HR1
      go_wp2_with fail
      refine HG1.out.mono ?_
      rintro e w5 ⟨A5, c5, B5, d5, rfl, m5, a5⟩
      have aw5 : After w w5 := after_after aU a5
      have M5 := Lib.hid m5
      clear m5 HG1
      obtain ⟨g6, hg6⟩ : ∃ g6, w5.heap.size = g6 := ⟨_, rfl⟩
      obtain ⟨W6, hW6, HK6, a6⟩ : ∃ W6, w5.alloc (.cells #[.slice A5 mg.enums.length c5, .slice B5 mg.rts.length d5] 29) = W6 ∧ Hid (∀ V : World, After W6 V → V.cell? ⟨g6, 0, none⟩ = some (.slice A5 mg.enums.length c5) ∧ V.cell? ⟨g6, 1, none⟩ = some (.slice B5 mg.rts.length d5) ∧ Le (g6 + 1) V) ∧ After w5 W6 := by
        refine ⟨_, rfl, fun V hV => ?_, inferInstance⟩
        have y0 := (Blk.new w5 29 #[.slice A5 mg.enums.length c5, .slice B5 mg.rts.length d5]).after (w' := V)
        rw [hg6] at y0
        exact ⟨by rw [y0.cell]; rfl, by rw [y0.cell]; rfl, y0.is_le⟩
      have aw6 : After w W6 := after_after aw5 a6
      go_wp2_with fail
      try rw [hW6]
      try rw [hg6]
      clear hW6 hg6
      refine (HR1.out W6 (after_after a5 a6)).mono ?_
      rintro e w7 ⟨A7, c7, B7, d7, rfl, m7, a7⟩
      have aw7 : After w w7 := after_after aw6 a7
      have M7 := Lib.hid m7
      clear m7 HR1
      obtain ⟨g8, hg8⟩ : ∃ g8, w7.heap.size = g8 := ⟨_, rfl⟩
      obtain ⟨W8, hW8, HK8, a8⟩ : ∃ W8, w7.alloc (.cells #[.slice A7 mg.enums.length c7, .slice B7 mg.rts.length d7] 29) = W8 ∧ Hid (∀ V : World, After W8 V → V.cell? ⟨g8, 0, none⟩ = some (.slice A7 mg.enums.length c7) ∧ V.cell? ⟨g8, 1, none⟩ = some (.slice B7 mg.rts.length d7) ∧ Le (g8 + 1) V) ∧ After w7 W8 := by
        refine ⟨_, rfl, fun V hV => ?_, inferInstance⟩
        have y0 := (Blk.new w7 29 #[.slice A7 mg.enums.length c7, .slice B7 mg.rts.length d7]).after (w' := V)
        rw [hg8] at y0
        exact ⟨by rw [y0.cell]; rfl, by rw [y0.cell]; rfl, y0.is_le⟩
      have aw8 : After w W8 := after_after aw7 a8
      have HS := Lib.hid (rsame_refl (M5.out.here W8 (k := after_after a6 (after_after a7 a8))) (M7.out.here W8) W8 inferInstance)
      obtain ⟨q0, q1, q2⟩ := HK8.out W8 inferInstance
      obtain ⟨p0, p1, p2⟩ := HK6.out W8 (after_after a7 a8)
      go_wp2_with fail
      try rw [hW8]
      try rw [hg8]
      clear hW8 hg8
      refine HS.out.mono ?_
      rintro e w9 ⟨rfl, a9⟩
      have aw9 : After w w9 := after_after aw8 a9
      clear q0 q1 q2 p0 p1 p2
      obtain ⟨p0, p1, p2⟩ := HK6.out w9 (after_after a7 (after_after a8 a9))
      by_cases hev : ev = 0
      rotate_left
      · have v1 : (ev == 0) = false := by rw [beq_eq_false_iff_ne]; exact hev
        have v2 : (ev != 0) = true := by rw [bne, v1]; rfl
        go_wp2_with fail
        refine (HL.out _ aw9).mono ?_
        rintro e w1 ⟨rfl, hw1⟩
        go_wp2_with fail
        go_ret
        exact ⟨rfl, hw1⟩
      subst hev
      obtain ⟨hb1, hb2, hb3⟩ := getV_back HV.out
      have hIB : ImB mg := by rw [hb3]; exact imgS_bd _
      have h8 : 8 ≤ 3000 := by
        have h1 := HX.out
        rw [← h1]
        by_cases h : (l1).length < 8
        · have h2 := HV.out
          rw [getV_short h] at h2
          injection h2 with _ h2
          exact absurd h2 (by decide)
        · omega
      have HP := Lib.hid (put_ok (M5.out.here w9 (k := after_after a6 (after_after a7 (after_after a8 a9)))) hIB w9 (hO.here w9) inferInstance hC hb2)
      rw [hb1, HX.out] at HP
      clear hb1 hb2 hb3 hIB
      go_wp2_with fail
      refine HP.out.mono ?_
      rintro e w10 ⟨Ab, cb, rfl, xb_, nb_, a10⟩
      have aw10 : After w w10 := after_after aw9 a10
      have kc1 := conv_b xb_ HX.out (by omega)
      have kc2 := conv_b (X.out.here w10 (k := after_after a5 (after_after a6 (after_after a7 (after_after a8 (after_after a9 a10)))))) HX.out (by omega)
      clear xb_ nb_ HP
      go_wp2_with fail
      refine (HL.out _ aw10).mono ?_
      rintro e w1 ⟨rfl, hw1⟩
      go_wp2_with fail
      go_ret
      exact ⟨rfl, hw1⟩
    | true =>
      clear aU
      go_enter Tryd.func3, Tryd.ntmps3
      obtain ⟨g1, hg1⟩ : ∃ g1, w.heap.size = g1 := ⟨_, rfl⟩
      obtain ⟨W1, hW1, O1, a1⟩ : ∃ W1, w.alloc (.cells #[] 5) = W1 ∧ Hid (OL W1 g1 (some ⟨g1, 0, none⟩) 0 0 []) ∧ After w W1 := ⟨_, rfl, by have h := OL.lit w #[] [] rfl (by decide); rw [hg1] at h; exact h, inferInstance⟩
      have hs1 := a1.below.size
      have X1 := Lib.hid (X0.out.here W1)
      go_wp2_with (at_builtin; (try rw [hW1]); (try rw [hg1]); refine wpList_ol rfl (.tmp 17) (.tmp 18) rfl g1 (some ⟨g1, 0, none⟩) 0 0 [] rfl O1.out A 3000 c l1 rfl HX0.out X1.out hb0.out (by omega) ?_)
      intro A2 n2 c2 w2 o2 k2_
      have a2 : After w w2 := k2_.aft w a1 (by omega)
      have O2 : Hid (OL w2 g1 A2 n2 c2 l1) := o2
      have hs2 := a2.below.size
      clear o2 k2_ O1 X1
      have HSm := Lib.hid (rsum_any X0.out w2 a2)
      rw [HX0.out] at HSm
      obtain ⟨sm, hsm, hsl⟩ : ∃ sm, sumB l1 = sm ∧ sm < 4294967296 := ⟨_, rfl, sumB_lt _⟩
      rw [hsm] at HSm
      clear hsm
      have HNm := Lib.hid (rnum_own (sm : Int) w2)
      go_wp2_with fail
      refine HSm.out.mono ?_
      rintro e w3 ⟨rfl, hw3⟩
      rw [hw3]
      clear hw3 w3
      go_wp2_with fail
      refine HNm.out.mono ?_
      rintro e w3 ⟨A3, rfl, o3, a3⟩
      have Oz := Lib.hid o3
      have O3 := Lib.hid (O2.out.here w3)
      have a03 : After w w3 := after_after a2 a3
      have hs3 := a03.below.size
      clear o3
      go_wp2_with (at_builtin; refine wpList_ol rfl (.tmp 19) (.tmp 23) rfl g1 A2 n2 c2 l1 rfl O3.out A3 4 4 (enc (sm : Int)) rfl (enc_length _) Oz.out.bytes hb4.out (by omega) ?_)
      intro A4 n4 c4 w4 o4 k4_
      have aU : After w w4 := k4_.aft w a03 (by omega)
      obtain ⟨LL, hLL⟩ : ∃ LL, l1 ++ enc (sm : Int) = LL := ⟨_, rfl⟩
      rw [hLL] at o4
      have X := Lib.hid o4.bytes
      have HX : Hid (LL.length = n4) := o4.len
      clear o4 k4_ hLL O3 Oz O2
      have HG1 := Lib.hid (get_any w4 X.out inferInstance hC (hO.here w4))
      have HR1 := Lib.hid (fun (V : World) (hV : After w4 V) => rget_any V X.out hV)
      obtain ⟨q, hq⟩ : ∃ q, getV LL = q := ⟨_, rfl⟩
      rw [HX.out, hq] at HG1 HR1
      have HV := Lib.hid hq
      clear hq
      obtain ⟨mg, ev⟩ := q
      simp only [] at HG1 HR1
      go_wp2_with fail
      refine HG1.out.mono ?_
      rintro e w5 ⟨A5, c5, B5, d5, rfl, m5, a5⟩
      have aw5 : After w w5 := after_after aU a5
      have M5 := Lib.hid m5
      clear m5 HG1
      obtain ⟨g6, hg6⟩ : ∃ g6, w5.heap.size = g6 := ⟨_, rfl⟩
      obtain ⟨W6, hW6, HK6, a6⟩ : ∃ W6, w5.alloc (.cells #[.slice A5 mg.enums.length c5, .slice B5 mg.rts.length d5] 29) = W6 ∧ Hid (∀ V : World, After W6 V → V.cell? ⟨g6, 0, none⟩ = some (.slice A5 mg.enums.length c5) ∧ V.cell? ⟨g6, 1, none⟩ = some (.slice B5 mg.rts.length d5) ∧ Le (g6 + 1) V) ∧ After w5 W6 := by
        refine ⟨_, rfl, fun V hV => ?_, inferInstance⟩
        have y0 := (Blk.new w5 29 #[.slice A5 mg.enums.length c5, .slice B5 mg.rts.length d5]).after (w' := V)
        rw [hg6] at y0
        exact ⟨by rw [y0.cell]; rfl, by rw [y0.cell]; rfl, y0.is_le⟩
      have aw6 : After w W6 := after_after aw5 a6
      go_wp2_with fail
      try rw [hW6]
      try rw [hg6]
      clear hW6 hg6
      refine (HR1.out W6 (after_after a5 a6)).mono ?_
      rintro e w7 ⟨A7, c7, B7, d7, rfl, m7, a7⟩
      have aw7 : After w w7 := after_after aw6 a7
      have M7 := Lib.hid m7
      clear m7 HR1
      obtain ⟨g8, hg8⟩ : ∃ g8, w7.heap.size = g8 := ⟨_, rfl⟩
      obtain ⟨W8, hW8, HK8, a8⟩ : ∃ W8, w7.alloc (.cells #[.slice A7 mg.enums.length c7, .slice B7 mg.rts.length d7] 29) = W8 ∧ Hid (∀ V : World, After W8 V → V.cell? ⟨g8, 0, none⟩ = some (.slice A7 mg.enums.length c7) ∧ V.cell? ⟨g8, 1, none⟩ = some (.slice B7 mg.rts.length d7) ∧ Le (g8 + 1) V) ∧ After w7 W8 := by
        refine ⟨_, rfl, fun V hV => ?_, inferInstance⟩
        have y0 := (Blk.new w7 29 #[.slice A7 mg.enums.length c7, .slice B7 mg.rts.length d7]).after (w' := V)
        rw [hg8] at y0
        exact ⟨by rw [y0.cell]; rfl, by rw [y0.cell]; rfl, y0.is_le⟩
      have aw8 : After w W8 := after_after aw7 a8
      have HS := Lib.hid (rsame_refl (M5.out.here W8 (k := after_after a6 (after_after a7 a8))) (M7.out.here W8) W8 inferInstance)
      obtain ⟨q0, q1, q2⟩ := HK8.out W8 inferInstance
      obtain ⟨p0, p1, p2⟩ := HK6.out W8 (after_after a7 a8)
      go_wp2_with fail
      try rw [hW8]
      try rw [hg8]
      clear hW8 hg8
      refine HS.out.mono ?_
      rintro e w9 ⟨rfl, a9⟩
      have aw9 : After w w9 := after_after aw8 a9
      clear q0 q1 q2 p0 p1 p2
      obtain ⟨p0, p1, p2⟩ := HK6.out w9 (after_after a7 (after_after a8 a9))
      by_cases hev : ev = 0
      rotate_left
      · have v1 : (ev == 0) = false := by rw [beq_eq_false_iff_ne]; exact hev
        have v2 : (ev != 0) = true := by rw [bne, v1]; rfl
        go_wp2_with fail
        refine (HL.out _ aw9).mono ?_
        rintro e w1 ⟨rfl, hw1⟩
        go_wp2_with fail
        go_ret
        exact ⟨rfl, hw1⟩
      subst hev
      obtain ⟨hb1, hb2, hb3⟩ := getV_back HV.out
      have hIB : ImB mg := by rw [hb3]; exact imgS_bd _
      have h8 : 8 ≤ n4 := by
        have h1 := HX.out
        rw [← h1]
        by_cases h : (LL).length < 8
        · have h2 := HV.out
          rw [getV_short h] at h2
          injection h2 with _ h2
          exact absurd h2 (by decide)
        · omega
      have HP := Lib.hid (put_ok (M5.out.here w9 (k := after_after a6 (after_after a7 (after_after a8 a9)))) hIB w9 (hO.here w9) inferInstance hC hb2)
      rw [hb1, HX.out] at HP
      clear hb1 hb2 hb3 hIB
      go_wp2_with fail
      refine HP.out.mono ?_
      rintro e w10 ⟨Ab, cb, rfl, xb_, nb_, a10⟩
      have aw10 : After w w10 := after_after aw9 a10
      have kc1 := conv_b xb_ HX.out (by omega)
      have kc2 := conv_b (X.out.here w10 (k := after_after a5 (after_after a6 (after_after a7 (after_after a8 (after_after a9 a10)))))) HX.out (by omega)
      clear xb_ nb_ HP
      go_wp2_with fail
      refine (HL.out _ aw10).mono ?_
      rintro e w1 ⟨rfl, hw1⟩
      go_wp2_with fail
      go_ret
      exact ⟨rfl, hw1⟩
  · have hI : ¬ ((3000 : Int) < (n : Int)) := by omega
    obtain ⟨l1, hl1⟩ : ∃ l1, l = l1 := ⟨_, rfl⟩
    subst hl1
    obtain ⟨l1, hl1⟩ : ∃ l1, l = l1 := ⟨_, rfl⟩
    rw [hl1] at x hn
    have X0 := Lib.hid x
    have HX0 := Lib.hid hn
    have hb0 : Hid ((([] : List UInt8)).length + l1.length ≤ 200000000) := by show _ ≤ _; rw [HX0.out]; simp only [List.length_nil]; omega
    have hb4 : Hid (l1.length + (enc ((sumB l1 : Nat) : Int)).length ≤ 200000000) := by show _ ≤ _; rw [HX0.out, enc_length]; omega
    clear x hl1 hn
    cases sb with
    | false =>
      have X := X0
      have HX := HX0
      go_enter Tryd.func3, Tryd.ntmps3
      have HG1 := Lib.hid (get_any w X.out inferInstance hC (hO.here w))
      have HR1 := Lib.hid (fun (V : World) (hV : After w V) => rget_any V X.out hV)
      obtain ⟨q, hq⟩ : ∃ q, getV l1 = q := ⟨_, rfl⟩
      rw [HX.out, hq] at HG1 HR1
      have HV := Lib.hid hq
      clear hq
      obtain ⟨mg, ev⟩ := q
      simp only [] at HG1 HR1
      go_wp2_with fail
      refine HG1.out.mono ?_
      rintro e w5 ⟨A5, c5, B5, d5, rfl, m5, a5⟩
      have aw5 : After w w5 := after_after aU a5
      have M5 := Lib.hid m5
      clear m5 HG1
      obtain ⟨g6, hg6⟩ : ∃ g6, w5.heap.size = g6 := ⟨_, rfl⟩
      obtain ⟨W6, hW6, HK6, a6⟩ : ∃ W6, w5.alloc (.cells #[.slice A5 mg.enums.length c5, .slice B5 mg.rts.length d5] 29) = W6 ∧ Hid (∀ V : World, After W6 V → V.cell? ⟨g6, 0, none⟩ = some (.slice A5 mg.enums.length c5) ∧ V.cell? ⟨g6, 1, none⟩ = some (.slice B5 mg.rts.length d5) ∧ Le (g6 + 1) V) ∧ After w5 W6 := by
        refine ⟨_, rfl, fun V hV => ?_, inferInstance⟩
        have y0 := (Blk.new w5 29 #[.slice A5 mg.enums.length c5, .slice B5 mg.rts.length d5]).after (w' := V)
        rw [hg6] at y0
        exact ⟨by rw [y0.cell]; rfl, by rw [y0.cell]; rfl, y0.is_le⟩
      have aw6 : After w W6 := after_after aw5 a6
      go_wp2_with fail
      try rw [hW6]
      try rw [hg6]
      clear hW6 hg6
      refine (HR1.out W6 (after_after a5 a6)).mono ?_
      rintro e w7 ⟨A7, c7, B7, d7, rfl, m7, a7⟩
      have aw7 : After w w7 := after_after aw6 a7
      have M7 := Lib.hid m7
      clear m7 HR1
      obtain ⟨g8, hg8⟩ : ∃ g8, w7.heap.size = g8 := ⟨_, rfl⟩
      obtain ⟨W8, hW8, HK8, a8⟩ : ∃ W8, w7.alloc (.cells #[.slice A7 mg.enums.length c7, .slice B7 mg.rts.length d7] 29) = W8 ∧ Hid (∀ V : World, After W8 V → V.cell? ⟨g8, 0, none⟩ = some (.slice A7 mg.enums.length c7) ∧ V.cell? ⟨g8, 1, none⟩ = some (.slice B7 mg.rts.length d7) ∧ Le (g8 + 1) V) ∧ After w7 W8 := by
        refine ⟨_, rfl, fun V hV => ?_, inferInstance⟩
        have y0 := (Blk.new w7 29 #[.slice A7 mg.enums.length c7, .slice B7 mg.rts.length d7]).after (w' := V)
        rw [hg8] at y0
        exact ⟨by rw [y0.cell]; rfl, by rw [y0.cell]; rfl, y0.is_le⟩
      have aw8 : After w W8 := after_after aw7 a8
      have HS := Lib.hid (rsame_refl (M5.out.here W8 (k := after_after a6 (after_after a7 a8))) (M7.out.here W8) W8 inferInstance)
      obtain ⟨q0, q1, q2⟩ := HK8.out W8 inferInstance
      obtain ⟨p0, p1, p2⟩ := HK6.out W8 (after_after a7 a8)
      go_wp2_with fail
      try rw [hW8]
      try rw [hg8]
      clear hW8 hg8
      refine HS.out.mono ?_
      rintro e w9 ⟨rfl, a9⟩
      have aw9 : After w w9 := after_after aw8 a9
      clear q0 q1 q2 p0 p1 p2
      obtain ⟨p0, p1, p2⟩ := HK6.out w9 (after_after a7 (after_after a8 a9))
      by_cases hev : ev = 0
      rotate_left
      · have v1 : (ev == 0) = false := by rw [beq_eq_false_iff_ne]; exact hev
        have v2 : (ev != 0) = true := by rw [bne, v1]; rfl
        go_wp2_with fail
        refine (HL.out _ aw9).mono ?_
        rintro e w1 ⟨rfl, hw1⟩
        go_wp2_with fail
        go_ret
        exact ⟨rfl, hw1⟩
      subst hev
      obtain ⟨hb1, hb2, hb3⟩ := getV_back HV.out
      have hIB : ImB mg := by rw [hb3]; exact imgS_bd _
      have h8 : 8 ≤ n := by
        have h1 := HX.out
        rw [← h1]
        by_cases h : (l1).length < 8
        · have h2 := HV.out
          rw [getV_short h] at h2
          injection h2 with _ h2
          exact absurd h2 (by decide)
        · omega
      have HP := Lib.hid (put_ok (M5.out.here w9 (k := after_after a6 (after_after a7 (after_after a8 a9)))) hIB w9 (hO.here w9) inferInstance hC hb2)
      rw [hb1, HX.out] at HP
      clear hb1 hb2 hb3 hIB
      go_wp2_with fail
      refine HP.out.mono ?_
      rintro e w10 ⟨Ab, cb, rfl, xb_, nb_, a10⟩
      have aw10 : After w w10 := after_after aw9 a10
      have kc1 := conv_b xb_ HX.out (by omega)
      have kc2 := conv_b (X.out.here w10 (k := after_after a5 (after_after a6 (after_after a7 (after_after a8 (after_after a9 a10)))))) HX.out (by omega)
      clear xb_ nb_ HP
      go_wp2_with fail
      refine (HL.out _ aw10).mono ?_
      rintro e w1 ⟨rfl, hw1⟩
      go_wp2_with fail
      go_ret
      exact ⟨rfl, hw1⟩
    | true =>
      clear aU
      go_enter Tryd.func3, Tryd.ntmps3
      obtain ⟨g1, hg1⟩ : ∃ g1, w.heap.size = g1 := ⟨_, rfl⟩
      obtain ⟨W1, hW1, O1, a1⟩ : ∃ W1, w.alloc (.cells #[] 5) = W1 ∧ Hid (OL W1 g1 (some ⟨g1, 0, none⟩) 0 0 []) ∧ After w W1 := ⟨_, rfl, by have h := OL.lit w #[] [] rfl (by decide); rw [hg1] at h; exact h, inferInstance⟩
      have hs1 := a1.below.size
      have X1 := Lib.hid (X0.out.here W1)
      go_wp2_with (at_builtin; (try rw [hW1]); (try rw [hg1]); refine wpList_ol rfl (.tmp 17) (.tmp 18) rfl g1 (some ⟨g1, 0, none⟩) 0 0 [] rfl O1.out A n c l1 rfl HX0.out X1.out hb0.out (by omega) ?_)
      intro A2 n2 c2 w2 o2 k2_
      have a2 : After w w2 := k2_.aft w a1 (by omega)
      have O2 : Hid (OL w2 g1 A2 n2 c2 l1) := o2
      have hs2 := a2.below.size
      clear o2 k2_ O1 X1
      have HSm := Lib.hid (rsum_any X0.out w2 a2)
      rw [HX0.out] at HSm
      obtain ⟨sm, hsm, hsl⟩ : ∃ sm, sumB l1 = sm ∧ sm < 4294967296 := ⟨_, rfl, sumB_lt _⟩
      rw [hsm] at HSm
      clear hsm
      have HNm := Lib.hid (rnum_own (sm : Int) w2)
      go_wp2_with fail
      refine HSm.out.mono ?_
      rintro e w3 ⟨rfl, hw3⟩
      rw [hw3]
      clear hw3 w3
      go_wp2_with fail
      refine HNm.out.mono ?_
      rintro e w3 ⟨A3, rfl, o3, a3⟩
      have Oz := Lib.hid o3
      have O3 := Lib.hid (O2.out.here w3)
      have a03 : After w w3 := after_after a2 a3
      have hs3 := a03.below.size
      clear o3
      go_wp2_with (at_builtin; refine wpList_ol rfl (.tmp 19) (.tmp 23) rfl g1 A2 n2 c2 l1 rfl O3.out A3 4 4 (enc (sm : Int)) rfl (enc_length _) Oz.out.bytes hb4.out (by omega) ?_)
      intro A4 n4 c4 w4 o4 k4_
      have aU : After w w4 := k4_.aft w a03 (by omega)
      obtain ⟨LL, hLL⟩ : ∃ LL, l1 ++ enc (sm : Int) = LL := ⟨_, rfl⟩
      rw [hLL] at o4
      have X := Lib.hid o4.bytes
      have HX : Hid (LL.length = n4) := o4.len
      clear o4 k4_ hLL O3 Oz O2
      have HG1 := Lib.hid (get_any w4 X.out inferInstance hC (hO.here w4))
      have HR1 := Lib.hid (fun (V : World) (hV : After w4 V) => rget_any V X.out hV)
      obtain ⟨q, hq⟩ : ∃ q, getV LL = q := ⟨_, rfl⟩
      rw [HX.out, hq] at HG1 HR1
      have HV := Lib.hid hq
      clear hq
      obtain ⟨mg, ev⟩ := q
      simp only [] at HG1 HR1
      go_wp2_with fail
      refine HG1.out.mono ?_
      rintro e w5 ⟨A5, c5, B5, d5, rfl, m5, a5⟩
      have aw5 : After w w5 := after_after aU a5
      have M5 := Lib.hid m5
      clear m5 HG1
      obtain ⟨g6, hg6⟩ : ∃ g6, w5.heap.size = g6 := ⟨_, rfl⟩
      obtain ⟨W6, hW6, HK6, a6⟩ : ∃ W6, w5.alloc (.cells #[.slice A5 mg.enums.length c5, .slice B5 mg.rts.length d5] 29) = W6 ∧ Hid (∀ V : World, After W6 V → V.cell? ⟨g6, 0, none⟩ = some (.slice A5 mg.enums.length c5) ∧ V.cell? ⟨g6, 1, none⟩ = some (.slice B5 mg.rts.length d5) ∧ Le (g6 + 1) V) ∧ After w5 W6 := by
        refine ⟨_, rfl, fun V hV => ?_, inferInstance⟩
        have y0 := (Blk.new w5 29 #[.slice A5 mg.enums.length c5, .slice B5 mg.rts.length d5]).after (w' := V)
        rw [hg6] at y0
        exact ⟨by rw [y0.cell]; rfl, by rw [y0.cell]; rfl, y0.is_le⟩
      have aw6 : After w W6 := after_after aw5 a6
      go_wp2_with fail
      try rw [hW6]
      try rw [hg6]
      clear hW6 hg6
      refine (HR1.out W6 (after_after a5 a6)).mono ?_
      rintro e w7 ⟨A7, c7, B7, d7, rfl, m7, a7⟩
      have aw7 : After w w7 := after_after aw6 a7
      have M7 := Lib.hid m7
      clear m7 HR1
      obtain ⟨g8, hg8⟩ : ∃ g8, w7.heap.size = g8 := ⟨_, rfl⟩
      obtain ⟨W8, hW8, HK8, a8⟩ : ∃ W8, w7.alloc (.cells #[.slice A7 mg.enums.length c7, .slice B7 mg.rts.length d7] 29) = W8 ∧ Hid (∀ V : World, After W8 V → V.cell? ⟨g8, 0, none⟩ = some (.slice A7 mg.enums.length c7) ∧ V.cell? ⟨g8, 1, none⟩ = some (.slice B7 mg.rts.length d7) ∧ Le (g8 + 1) V) ∧ After w7 W8 := by
        refine ⟨_, rfl, fun V hV => ?_, inferInstance⟩
        have y0 := (Blk.new w7 29 #[.slice A7 mg.enums.length c7, .slice B7 mg.rts.length d7]).after (w' := V)
        rw [hg8] at y0
        exact ⟨by rw [y0.cell]; rfl, by rw [y0.cell]; rfl, y0.is_le⟩
      have aw8 : After w W8 := after_after aw7 a8
      have HS := Lib.hid (rsame_refl (M5.out.here W8 (k := after_after a6 (after_after a7 a8))) (M7.out.here W8) W8 inferInstance)
      obtain ⟨q0, q1, q2⟩ := HK8.out W8 inferInstance
      obtain ⟨p0, p1, p2⟩ := HK6.out W8 (after_after a7 a8)
      go_wp2_with fail
      try rw [hW8]
      try rw [hg8]
      clear hW8 hg8
      refine HS.out.mono ?_
      rintro e w9 ⟨rfl, a9⟩
      have aw9 : After w w9 := after_after aw8 a9
      clear q0 q1 q2 p0 p1 p2
      obtain ⟨p0, p1, p2⟩ := HK6.out w9 (after_after a7 (after_after a8 a9))
      by_cases hev : ev = 0
      rotate_left
      · have v1 : (ev == 0) = false := by rw [beq_eq_false_iff_ne]; exact hev
        have v2 : (ev != 0) = true := by rw [bne, v1]; rfl
        go_wp2_with fail
        refine (HL.out _ aw9).mono ?_
        rintro e w1 ⟨rfl, hw1⟩
        go_wp2_with fail
        go_ret
        exact ⟨rfl, hw1⟩
      subst hev
      obtain ⟨hb1, hb2, hb3⟩ := getV_back HV.out
      have hIB : ImB mg := by rw [hb3]; exact imgS_bd _
      have h8 : 8 ≤ n4 := by
        have h1 := HX.out
        rw [← h1]
        by_cases h : (LL).length < 8
        · have h2 := HV.out
          rw [getV_short h] at h2
          injection h2 with _ h2
          exact absurd h2 (by decide)
        · omega
      have HP := Lib.hid (put_ok (M5.out.here w9 (k := after_after a6 (after_after a7 (after_after a8 a9)))) hIB w9 (hO.here w9) inferInstance hC hb2)
      rw [hb1, HX.out] at HP
      clear hb1 hb2 hb3 hIB
      go_wp2_with fail
      refine HP.out.mono ?_
      rintro e w10 ⟨Ab, cb, rfl, xb_, nb_, a10⟩
      have aw10 : After w w10 := after_after aw9 a10
      have kc1 := conv_b xb_ HX.out (by omega)
      have kc2 := conv_b (X.out.here w10 (k := after_after a5 (after_after a6 (after_after a7 (after_after a8 (after_after a9 a10)))))) HX.out (by omega)
      clear xb_ nb_ HP
      go_wp2_with fail
      refine (HL.out _ aw10).mono ?_
      rintro e w1 ⟨rfl, hw1⟩
      go_wp2_with fail
      go_ret
      exact ⟨rfl, hw1⟩
end Go.Proofs.YtgmojjdojcmnaaaDoor
