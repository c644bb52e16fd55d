/-
  ImageEnds: the walk.
-/
import Derived.Test.YtgmojjdojcmnaaaDoorILives
import Derived.Test.YtgmojjdojcmnaaaDoorIChk
import Derived.Test.YtgmojjdojcmnaaaDoorIInF
import Derived.Test.YtgmojjdojcmnaaaDoorIWeigh
import Derived.Test.YtgmojjdojcmnaaaDoorIApp
set_option linter.unusedVariables false
set_option linter.unusedSimpArgs false
namespace Go.Proofs.YtgmojjdojcmnaaaDoor
open Go.RowKit Go.BigFrame

theorem bodyB_small {m : Img} (h : chk m = 0) : (bodyB m).length ≤ 97000000 := by
  obtain ⟨h1, h2, h3⟩ := chk_lim h
  have h4 := rts_len m.rts h3
  unfold bodyB
  simp only [List.length_append, encL_len, enc_length, List.length_cons, List.length_nil]
  omega
set_option maxRecDepth 100000 in
set_option maxHeartbeats 4000000 in
theorem imageEnds_walk (w : World) (hO : Ops w) {A c A' c' m} (x : RIm w A c A' c' m) (hb : ImB m) (at_ : Int) (hat0 : 0 ≤ at_) (hat1 : at_ ≤ 65535) {A2 c2 l2} (x2 : RY w A2 c2 l2) (n2 : Nat) (hn2 : l2.length = n2) :
    Calls Tryd.prog 6 #[.agg #[.slice A m.enums.length c, .slice A' m.rts.length c'], .int .u16 at_, .slice A2 n2 c2] w fun e w' => e = .returned (.bool true) ∧ After w w' := by
  have hC := check_any
  have HL : Hid (∀ U, After w U → Calls Tryd.prog 13 #[] U fun e w' => e = .returned (.bool true) ∧ After w w') := fun U h => (lives_any hC U (hO.here U)).mono fun e w' he => ⟨he.1, after_after h he.2⟩
  have HH := Lib.hid (fun U (h : After w U) => heavy_any x U h)
  have X := Lib.hid x
  have X2 := Lib.hid x2
  clear x x2
  obtain ⟨W1, hW1, HK, a1⟩ : ∃ W1, w.alloc (.cells #[.slice A m.enums.length c, .slice A' m.rts.length c'] 29) = W1 ∧ Hid (∀ U : World, After W1 U → U.cell? ⟨w.heap.size, 0, none⟩ = some (.slice A m.enums.length c) ∧ U.cell? ⟨w.heap.size, 1, none⟩ = some (.slice A' m.rts.length c') ∧ Le (w.heap.size + 1) U) ∧ After w W1 := by
    refine ⟨_, rfl, fun U hU => ?_, inferInstance⟩
    have y0 := (Blk.new w 29 #[.slice A m.enums.length c, .slice A' m.rts.length c']).after (w' := U)
    exact ⟨by rw [y0.cell]; rfl, by rw [y0.cell]; rfl, y0.is_le⟩
  obtain ⟨k0, k1, k2⟩ := HK.out W1 inferInstance
  go_enter Tryd.func6, Tryd.ntmps6
  go_wp2_with fail
  try rw [hW1]
  clear hW1
  refine (HH.out _ a1).mono ?_
  rintro e w2 ⟨⟨hv, rfl⟩, b2⟩
  clear k0 k1 k2
  obtain ⟨k0, k1, k2⟩ := HK.out w2 b2
  have aw2 : After w w2 := after_after a1 b2
  cases hv with
  | true =>
    go_wp2_with fail
    refine (HL.out _ aw2).mono ?_
    rintro e w1 ⟨rfl, hw1⟩
    go_wp2_with fail
    go_ret
    exact ⟨rfl, hw1⟩
  | false =>
    by_cases hF0 : 20 < n2
    · have hf : (20 : Int) < (n2 : Int) := by omega
      go_wp2_with fail
      refine (HL.out _ aw2).mono ?_
      rintro e w1 ⟨rfl, hw1⟩
      go_wp2_with fail
      go_ret
      exact ⟨rfl, hw1⟩
    · have hf : ¬ ((20 : Int) < (n2 : Int)) := by omega
      by_cases hm : chk m = 0
      · have HP := Lib.hid (put_ok X.out hb w2 hO aw2 hC hm)
        obtain ⟨BB, hBB⟩ : ∃ BB, bodyB m = BB := ⟨_, rfl⟩
        have hin := img_in hm
        obtain ⟨PB, hPB⟩ : ∃ PB, putB m = PB := ⟨_, rfl⟩
        obtain ⟨n, hn⟩ : ∃ n, PB.length = n := ⟨_, rfl⟩
        have hbl : BB.length + 4 = n := by rw [← hn, ← hPB, putB_len, hBB]
        have hbs : BB.length ≤ 97000000 := by rw [← hBB]; exact bodyB_small hm
        have hb12 : 12 ≤ BB.length := by rw [← hBB]; exact bodyB_len m
        have hpt : PB.take (n - 4) = BB := by
          rw [← hPB, ← hBB]
          have : n - 4 = (bodyB m).length := by rw [hBB]; omega
          rw [this]; exact List.take_left' rfl
        rw [hPB, hn] at HP
        have hnI : ¬ ((n : Int) ≤ 8) := by omega
        obtain ⟨r, hr, hrn⟩ : ∃ r : Nat, at_.tmod ((n : Int) - 8) = (r : Int) ∧ r < n - 8 := by
          have h1 := Int.tmod_lt_of_pos at_ (show (0 : Int) < (n : Int) - 8 by omega)
          have h2 := Int.tmod_nonneg ((n : Int) - 8) hat0
          exact ⟨(at_.tmod ((n : Int) - 8)).toNat, by rw [Int.toNat_of_nonneg h2], by omega⟩
        go_wp2_with fail
        refine HP.out.mono ?_
        rintro e w3 ⟨Ab, cb, rfl, xb_, nb_, a3⟩
        have Xb := Lib.hid xb_
        clear xb_ nb_ HP
        have aw3 : After w w3 := after_after aw2 a3
        have hln := Xb.out.len
        rw [hn] at hln
        have hcl := Xb.out.le
        rw [hn] at hcl
        have hccap := Xb.out.cap
        obtain ⟨g, hg⟩ : ∃ g, w3.heap.size = g := ⟨_, rfl⟩
        obtain ⟨W4, hW4, HO4, a4, s4⟩ : ∃ W4, w3.alloc (.cells #[] 5) = W4 ∧ Hid (OB W4 g (.slice (some ⟨g, 0, none⟩) 0 0) []) ∧ After w3 W4 ∧ g ≤ W4.heap.size := ⟨_, rfl, by rw [← hg]; exact OB.new w3, inferInstance, by rw [size_alloc_]; omega⟩
        obtain ⟨j, hj⟩ : ∃ j, 4 + r = j := ⟨_, rfl⟩
        have hjI : (4 : Int) + (r : Int) = (j : Int) := by omega
        have x4_ := Lib.hid ((Xb.out.here W4).cut j (by omega))
        have hl4 : (PB.take j).length = j := by rw [List.length_take]; omega
        obtain ⟨SB, hSB⟩ : ∃ SB, PB.take j = SB := ⟨_, rfl⟩
        rw [hSB] at hl4 x4_
        have hjc : (j : Int) ≤ (cb : Int) := by omega
        go_wp2_with (at_builtin; (try rw [hW4]); refine wpList_app rfl (.tmp 40) (.tmp 49) rfl g (.slice (some ⟨g, 0, none⟩) 0 0) [] rfl HO4.out Ab j cb SB rfl hl4 x4_.out (by rw [List.length_nil]; omega) s4 ?_)
        intro v5 w5 ho5 ha5
        have a5 : After w3 w5 := ha5 w3 a4 (by omega)
        clear ha5
        obtain ⟨A5, c5, rfl, x5_⟩ := ho5.bytes (by omega)
        rw [hl4] at ho5 ⊢
        have O5 := Lib.hid ho5
        have X5 := Lib.hid x5_
        clear ho5 x5_
        have HS5 := Lib.hid (rsum_any X5.out w5 inferInstance)
        obtain ⟨s5, hs5, hs5l⟩ : ∃ s5, sumB SB = s5 ∧ s5 < 4294967296 := ⟨_, rfl, sumB_lt _⟩
        rw [hl4, hs5] at HS5
        clear hW4 HO4 x4_
        have HN5 := Lib.hid (rnumber_any (s5 : Int) w5)
        go_wp2_with fail
        refine HS5.out.mono ?_
        rintro e w6 ⟨rfl, hw6⟩
        rw [hw6]
        clear hw6 w6 HS5
        go_wp2_with fail
        refine HN5.out.mono ?_
        rintro e w6 ⟨A6, rfl, x6_, a6⟩
        have X6 := Lib.hid x6_
        clear x6_ HN5
        have O6 := Lib.hid (O5.out.here w6)
        go_wp2_with (at_builtin; refine wpList_app rfl (.tmp 52) (.tmp 56) rfl g (.slice A5 j c5) SB rfl O6.out A6 4 4 (enc (s5 : Int)) rfl (enc_length _) X6.out (by rw [hl4]; omega) (by have := a6.below.size; have := a5.below.size; omega) ?_)
        intro v7 w7 ho7 ha7
        have a7 : After w3 w7 := ha7 w3 (after_after a5 a6) (by omega)
        clear ha7
        obtain ⟨A7, c7, rfl, x7_⟩ := ho7.bytes (by rw [List.length_append, hl4, enc_length]; omega)
        have hl7 : (SB ++ enc (s5 : Int)).length = j + 4 := by rw [List.length_append, hl4, enc_length]
        have e7 : (getV (SB ++ enc (s5 : Int))).2 = 4 := by
          have h1 := getV_cut hin (k := j) (by omega) (by rw [hBB]; omega)
          have e1 : (bodyB m).take j = SB := by
            rw [hBB, ← hSB, ← hpt, List.take_take, Nat.min_eq_left (by omega)]
          rw [e1] at h1
          have e2 : sealB SB = SB ++ enc (s5 : Int) := by rw [← hs5]; rfl
          rw [e2] at h1
          exact h1
        have HG7 := Lib.hid (get_any w7 x7_ inferInstance hC (hO.here w7 (k := after_after aw3 a7)))
        rw [hl7] at HG7 ⊢
        obtain ⟨q7, hq7⟩ : ∃ q, getV (SB ++ enc (s5 : Int)) = q := ⟨_, rfl⟩
        rw [hq7] at HG7 e7
        obtain ⟨m7, f7⟩ := q7
        simp only [] at e7
        subst e7
        simp only [] at HG7
        clear hq7 hl7 x7_ ho7 O6 X6 O5 X5
        go_wp2_with fail
        refine HG7.out.mono ?_
        rintro e w8 ⟨A8, c8, B8, c8', rfl, m8, a8⟩
        clear m8 HG7
        have aw8 : After w3 w8 := after_after a7 a8
        obtain ⟨W9, hW9, a9, s9⟩ : ∃ W9, w8.alloc (.cells #[.slice A8 m7.enums.length c8, .slice B8 m7.rts.length c8'] 29) = W9 ∧ After w8 W9 ∧ W9.heap.size = w8.heap.size + 1 := ⟨_, rfl, inferInstance, by rw [size_alloc_]⟩
        have aw9 : After w3 W9 := after_after aw8 a9
        obtain ⟨g9, hg9⟩ : ∃ g9, W9.heap.size = g9 := ⟨_, rfl⟩
        obtain ⟨W10, hW10, HO10, a10, s10⟩ : ∃ W10, W9.alloc (.cells #[] 5) = W10 ∧ Hid (OB W10 g9 (.slice (some ⟨g9, 0, none⟩) 0 0) []) ∧ After W9 W10 ∧ g9 ≤ W10.heap.size := ⟨_, rfl, by rw [← hg9]; exact OB.new W9, inferInstance, by rw [size_alloc_]; omega⟩
        have aw10 : After w3 W10 := after_after aw9 a10
        have x10 := Lib.hid ((Xb.out.here W10).cut (n - 4) (by omega))
        rw [hpt] at x10
        have hjc2 : (n : Int) - 4 ≤ (cb : Int) := by omega
        have hn4 : (n : Int) - 4 = ((n - 4 : Nat) : Int) := by omega
        rw [s9] at hg9
        go_wp2_with (at_builtin; (try rw [hW9]); (try rw [hW10]); refine wpList_app rfl (.tmp 61) (.tmp 66) rfl g9 (.slice (some ⟨g9, 0, none⟩) 0 0) [] rfl HO10.out Ab (n - 4) cb BB rfl (by omega) x10.out (by rw [List.length_nil]; omega) s10 ?_)
        intro v11 w11 ho11 ha11
        have a11 : After W9 w11 := ha11 W9 a10 (by omega)
        have aw11 : After w3 w11 := after_after aw9 a11
        clear ha11
        obtain ⟨A11, c11, rfl, x11_⟩ := ho11.bytes (by omega)
        have O11 := Lib.hid ho11
        have X2_ := Lib.hid (X2.out.here w11 (k := after_after aw3 aw11))
        clear x11_ ho11
        have hb11 : g9 ≤ w11.heap.size := by have := a11.below.size; have := (O11.out.own.2); rcases this with ⟨h1, h2⟩ | ⟨g, cap, cur, h1, h2, h3, _⟩
                                             · have : BB.length ≠ 0 := by omega
                                               simp at h1 h2
                                               omega
                                             · have hlt := (O11.out.own.lt g (by rw [h1]; rfl)); omega
        go_wp2_with (at_builtin; refine wpList_app rfl (.tmp 67) (.tmp 68) rfl g9 (.slice A11 BB.length c11) BB rfl O11.out A2 n2 c2 l2 rfl hn2 X2_.out (by omega) hb11 ?_)
        intro v12 w12 ho12 ha12
        have a12 : After W9 w12 := ha12 W9 a11 (by omega)
        have aw12 : After w3 w12 := after_after aw9 a12
        clear ha12
        obtain ⟨LL, hLL⟩ : ∃ LL, BB ++ l2 = LL := ⟨_, rfl⟩
        obtain ⟨n3, hn3⟩ : ∃ n3, LL.length = n3 := ⟨_, rfl⟩
        have hn3' : n3 ≤ 97000100 := by rw [← hn3, ← hLL, List.length_append, hn2]; omega
        rw [hLL] at ho12
        obtain ⟨A12, c12, rfl, x12_⟩ := ho12.bytes (by omega)
        rw [hn3] at ho12 ⊢
        have O12 := Lib.hid ho12
        have X12 := Lib.hid x12_
        clear ho12 x12_ O11
        have HS12 := Lib.hid (rsum_any X12.out w12 inferInstance)
        obtain ⟨s6, hs6, hs6l⟩ : ∃ s6, sumB LL = s6 ∧ s6 < 4294967296 := ⟨_, rfl, sumB_lt _⟩
        rw [hn3, hs6] at HS12
        have HN12 := Lib.hid (rnumber_any (s6 : Int) w12)
        replace hLL := Lib.hid hLL
        replace hn3 := Lib.hid hn3
        replace hs6 := Lib.hid hs6
        go_wp2_with fail
        refine HS12.out.mono ?_
        rintro e w13 ⟨rfl, hw13⟩
        rw [hw13]
        clear hw13 w13 HS12
        go_wp2_with fail
        refine HN12.out.mono ?_
        rintro e w13 ⟨A13, rfl, x13_, a13⟩
        have X13 := Lib.hid x13_
        clear x13_ HN12
        have O13 := Lib.hid (O12.out.here w13)
        have hb13 : g9 ≤ w13.heap.size := by have := a13.below.size; have := a12.below.size; omega
        go_wp2_with (at_builtin; refine wpList_app rfl (.tmp 71) (.tmp 75) rfl g9 (.slice A12 n3 c12) LL rfl O13.out A13 4 4 (enc (s6 : Int)) rfl (enc_length _) X13.out (by rw [hn3.out]; omega) hb13 ?_)
        intro v14 w14 ho14 ha14
        have a14 : After W9 w14 := ha14 W9 (after_after a12 a13) (by omega)
        have aw14 : After w w14 := after_after aw3 (after_after aw9 a14)
        clear ha14
        obtain ⟨A14, c14, rfl, x14_⟩ := ho14.bytes (by rw [List.length_append, hn3.out, enc_length]; omega)
        have hl14 : (LL ++ enc (s6 : Int)).length = n3 + 4 := by rw [List.length_append, hn3.out, enc_length]
        have HG14 := Lib.hid (get_any w14 x14_ inferInstance hC (hO.here w14))
        have e14 : (getV (LL ++ enc (s6 : Int))).2 = if n2 = 0 then 0 else 5 := by
          have e2 : sealB LL = LL ++ enc (s6 : Int) := by rw [← hs6.out]; rfl
          rw [← e2, ← hLL.out, ← hBB]
          by_cases h0 : n2 = 0
          · have hl2 : l2 = [] := List.eq_nil_of_length_eq_zero (by rw [hn2]; exact h0)
            rw [if_pos h0, hl2, List.append_nil]
            show (getV (putB m)).2 = 0
            rw [getV_put hin hm]
          · have hl2 : l2 ≠ [] := fun h => h0 (by rw [← hn2, h]; rfl)
            rw [if_neg h0, getV_long hin hl2]
        rw [hl14] at HG14 ⊢
        obtain ⟨q14, hq14⟩ : ∃ q, getV (LL ++ enc (s6 : Int)) = q := ⟨_, rfl⟩
        rw [hq14] at HG14 e14
        obtain ⟨m14, f14⟩ := q14
        simp only [] at e14
        simp only [] at HG14
        clear hq14 hl14 x14_ ho14 O13 X13 O12 X12
        by_cases h0 : n2 = 0
        · rw [if_pos h0] at e14
          subst e14
          have h0I : (n2 : Int) = 0 := by omega
          go_wp2_with fail
          refine HG14.out.mono ?_
          rintro e w15 ⟨A8, c8, B8, c8', rfl, m15, a15⟩
          clear m15 HG14
          have aw15 : After w w15 := after_after aw14 a15
          go_wp2_with fail
          refine (HL.out _ inferInstance).mono ?_
          rintro e w1 ⟨rfl, hw1⟩
          go_wp2_with fail
          go_ret
          exact ⟨rfl, hw1⟩
        · rw [if_neg h0] at e14
          subst e14
          have h0I : ((n2 : Int) == 0) = false := by simp; omega
          have h1I : (0 : Int) < (n2 : Int) := by omega
          go_wp2_with fail
          refine HG14.out.mono ?_
          rintro e w15 ⟨A8, c8, B8, c8', rfl, m15, a15⟩
          clear m15 HG14
          have aw15 : After w w15 := after_after aw14 a15
          go_wp2_with fail
          refine (HL.out _ inferInstance).mono ?_
          rintro e w1 ⟨rfl, hw1⟩
          go_wp2_with fail
          go_ret
          exact ⟨rfl, hw1⟩
      · have HP := Lib.hid (put_bad X.out hb w2 hO aw2 hC hm)
        obtain ⟨q, hq⟩ : ∃ q, chk m = q := ⟨_, rfl⟩
        rw [hq] at HP hm
        have hq1 : (q == 0) = false := by simp; omega
        have hq2 : (q != 0) = true := by simp; omega
        go_wp2_with fail
        refine HP.out.mono ?_
        rintro e w3 ⟨rfl, a3⟩
        go_wp2_with fail
        refine (HL.out _ (after_after aw2 a3)).mono ?_
        rintro e w1 ⟨rfl, hw1⟩
        go_wp2_with fail
        go_ret
        exact ⟨rfl, hw1⟩
end Go.Proofs.YtgmojjdojcmnaaaDoor
