/-
  Contracts of the reference: autos, Same (printed by gen_srsame.py).
-/
import Derived.Test.YtdghfhnkacfahaaSRa
import Derived.Test.YtdghfhnkacfahaaSQc
set_option linter.unusedVariables false
set_option linter.unusedSimpArgs false
namespace Go.Proofs.Ytdghfhnkacfahaa
open Go.RowKit Go.BigFrame

variable {S : Prop}
set_option maxRecDepth 100000 in
set_option maxHeartbeats 3200000 in
theorem rautos_of {w0 : World} {A1 B1 : Option Addr} {c1 d1 : Nat} {xl yl : List AuT} (x : RowOf 1 (PAu S) w0 ⟨A1, c1, xl⟩) (y : RowOf 1 (PAu S) w0 ⟨B1, d1, yl⟩) (w : World) (aft : After w0 w)
    (HA : ∀ (i k : Nat) (a : AuT) (s t : StT), xl[i]? = some a → a.states[k]? = some s → RSta S w0 s → RSta S w0 t → ∀ U : World, After w0 U → Calls Try.prog 30 #[.slice s.ad s.autos.length s.cap, .slice t.ad t.autos.length t.cap] U fun e w' => e = .returned (.bool (lsame auSame s.autos t.autos)) ∧ After U w') :
    Calls Try.prog 30 #[.slice A1 xl.length c1, .slice B1 yl.length d1] w fun e w' => e = .returned (.bool (lsame auSame xl yl)) ∧ After w w' := by
  have XX := Lib.hid x
  have YY := Lib.hid y
  have hx1 := x.len
  have hy1 := y.len
  simp only [] at hx1 hy1
  clear x y
  replace HA := Lib.hid HA
  obtain ⟨n, hn⟩ : ∃ n, xl.length = n := ⟨_, rfl⟩
  obtain ⟨m, hm⟩ : ∃ m, yl.length = m := ⟨_, rfl⟩
  have HV : Hid (lsame auSame xl yl = (decide (n = m) && all2 auSame xl yl)) := Lib.hid (by unfold lsame; rw [hn, hm])
  rw [hn] at hx1 ⊢
  rw [hm] at hy1 ⊢
  by_cases hnm : n = m
  rotate_left
  · have hnmI : ¬ ((n : Int) = (m : Int)) := by omega
    have HV2 : Hid (lsame auSame xl yl = false) := Lib.hid (by rw [HV.out, decide_eq_false hnm, Bool.false_and])
    go_enter Try.func30, Try.ntmps30
    go_wp2_with fail
    go_ret
    exact ⟨ret_bool (by rw [HV2.out]), inferInstance⟩
  subst hnm
  go_enter Try.func30, Try.ntmps30
  go_wp2_with fail
  go_loopw [5] (fun i wr => ∃ j : Nat, j ≤ n ∧ i = .int .i64 (j : Nat) ∧ Hid (all2 auSame (xl.take j) (yl.take j) = true) ∧ After w wr) (fun i _ => n - (intOf i).toNat)
  case atStart => exact ⟨0, by omega, rfl, Lib.hid (by simp [all2]), inferInstance⟩
  case round =>
    obtain ⟨j, hj, rfl, HJ, ar⟩ := hrel
    have a0r : After w0 wr := after_after aft ar
    by_cases hlt_ : j < n
    rotate_left
    · obtain rfl : j = n := by omega
      have HV2 : Hid (lsame auSame xl yl = true) := Lib.hid (by
        have h_ := HJ.out
        rw [HV.out]
        rw [← hn, List.take_length, hn, ← hm, List.take_length] at h_
        rw [h_]; simp)
      go_wp2_with fail
      go_ret
      exact ⟨ret_bool (by rw [HV2.out]), ar⟩
    have hltI : (j : Int) < (n : Int) := by omega
    obtain ⟨b, p, u1, rfl, hb1, HX1, hP⟩ := (XX.out.aus wr (k := a0r)).part (i := j) (by show j < xl.length; omega)
    obtain ⟨b2, p2, u2, rfl, hb2, HX2, hQ⟩ := (YY.out.aus wr (k := a0r)).part (i := j) (by show j < yl.length; omega)
    simp only [] at HX1 HX2
    have HT : Hid (all2 auSame (xl.take (j + 1)) (yl.take (j + 1)) = auSame u1 u2) := Lib.hid (by rw [all2_take auSame HX1.out HX2.out, HJ.out, Bool.true_and])
    have HF : Hid (auSame u1 u2 = false → lsame auSame xl yl = false) := Lib.hid fun h => by rw [HV.out, all2_false auSame HX1.out HX2.out h, Bool.and_false]
    obtain ⟨_, _, hP0⟩ := XX.out.elem (show _ from HX1.out)
    obtain ⟨_, _, hQ0⟩ := YY.out.elem (show _ from HX2.out)
    obtain ⟨zA, zc, zl⟩ := u1
    obtain ⟨zA', zc', zl'⟩ := u2
    have e0 : wr.cell? ⟨b, p + j, none⟩ = some (.slice zA zl.length zc) := by have := hP.1; rwa [Nat.mul_one] at this
    have g0 : wr.cell? ⟨b2, p2 + j, none⟩ = some (.slice zA' zl'.length zc') := by have := hQ.1; rwa [Nat.mul_one] at this
    have RX1 := Lib.hid hP0.2.rows
    have RY1 := Lib.hid hQ0.2.rows
    have hz1 := RX1.out.len
    have hz2 := RY1.out.len
    simp only [] at hz1 hz2
    have HVa : Hid (auSame (.mk zA zc zl) (.mk zA' zc' zl') = lsame stSame zl zl') := Lib.hid (auSame_is _ _ _ _ _ _)
    obtain ⟨ro, hro⟩ : ∃ r, wr = r := ⟨_, rfl⟩
    rw [hro] at ar a0r e0 g0 hb1 hb2 ⊢
    clear hP hQ hP0 hQ0 hro wr
    by_cases hzn : zl.length = zl'.length
    rotate_left
    · have hznI : ¬ ((zl.length : Int) = (zl'.length : Int)) := by omega
      have hzb : ((zl.length : Int) == (zl'.length : Int)) = false := by rw [beq_eq_false_iff_ne]; omega
      have hzb2 : (zl.length == zl'.length) = false := by rw [beq_eq_false_iff_ne]; omega
      have HW : Hid (lsame auSame xl yl = false) := Lib.hid (HF.out (by rw [HVa.out]; unfold lsame; rw [decide_eq_false hzn, Bool.false_and]))
      go_wp2_with fail
      go_region
      go_wp2_with fail
      go_ret
      exact ⟨ret_bool (by rw [HW.out]), after_after ar inferInstance⟩
    obtain ⟨z, hz⟩ : ∃ z, zl.length = z := ⟨_, rfl⟩
    have hz' : zl'.length = z := by omega
    have HZ := Lib.hid hz
    have HZ' := Lib.hid hz'
    rw [hz] at e0 hz1
    rw [hz'] at g0 hz2
    clear hzn hz hz'
    go_wp2_with fail
    go_region
    go_wp2_with fail
    go_loopw [6] (fun i wr => ∃ k : Nat, k ≤ z ∧ i = .int .i64 (k : Nat) ∧ Hid (all2 stSame (zl.take k) (zl'.take k) = true) ∧ After ro wr) (fun i _ => z - (intOf i).toNat)
    case atStart => exact ⟨0, by omega, rfl, Lib.hid (by simp [all2]), inferInstance⟩
    case round =>
      obtain ⟨k, hk, rfl, HJk, ark⟩ := hrel
      have aw_ : After w wr := after_after ar ark
      have a0w : After w0 wr := after_after a0r ark
      have e0k : wr.cell? ⟨b, p + j, none⟩ = some (.slice zA z zc) := cell_keep ark e0
      have g0k : wr.cell? ⟨b2, p2 + j, none⟩ = some (.slice zA' z zc') := cell_keep ark g0
      have hb1k : Le (b + 1) wr := le_keep ark
      have hb2k : Le (b2 + 1) wr := le_keep ark
      by_cases hltk : k < z
      rotate_left
      · obtain rfl : k = z := by omega
        have HWa : Hid (all2 auSame (xl.take (j + 1)) (yl.take (j + 1)) = true) := Lib.hid (by
          rw [HT.out, HVa.out]
          unfold lsame
          have h_ := HJk.out
          rw [← HZ.out, List.take_length, HZ.out, ← HZ'.out, List.take_length] at h_
          rw [h_, HZ.out, HZ'.out]; simp)
        go_wp2_with fail
        go_roundw
        case rel => exact ⟨j + 1, by omega, by go_num, HWa, after_after ar ark⟩
        case measure => simp only [intOf]; omega
      have hltkI : (k : Int) < (z : Int) := by omega
      obtain ⟨bs, ps, s1, hA1, lbs, HS1, hPs⟩ := (RX1.out.sts wr (k := a0w)).part (i := k) (by show k < zl.length; have := HZ.out; omega)
      obtain ⟨bt, pt, s2, hA2, lbt, HS2, hPt⟩ := (RY1.out.sts wr (k := a0w)).part (i := k) (by show k < zl'.length; have := HZ'.out; omega)
      simp only [] at HS1 HS2 hA1 hA2
      subst hA1
      subst hA2
      obtain ⟨_, _, hR1⟩ := RX1.out.elem (show _ from HS1.out)
      obtain ⟨_, _, hR2⟩ := RY1.out.elem (show _ from HS2.out)
      have HT2 : Hid (all2 stSame (zl.take (k + 1)) (zl'.take (k + 1)) = stSame s1 s2) := Lib.hid (by rw [all2_take stSame HS1.out HS2.out, HJk.out, Bool.true_and])
      have HF2 : Hid (stSame s1 s2 = false → lsame auSame xl yl = false) := Lib.hid fun h => HF.out (by rw [HVa.out]; unfold lsame; rw [all2_false stSame HS1.out HS2.out h, Bool.and_false])
      have HAk := Lib.hid (fun U hU => HA.out j k _ s1 s2 HX1.out HS1.out hR1.2 hR2.2 U hU)
      obtain ⟨nm, ⟨loA, loc, lo⟩, ⟨eqA, eqc, eq⟩, aA, ac, au, ⟨ulA, ulc, ul⟩, ⟨utA, utc, ut⟩⟩ := s1
      obtain ⟨nm', ⟨loA', loc', lo'⟩, ⟨eqA', eqc', eq'⟩, aA', ac', au', ⟨ulA', ulc', ul'⟩, ⟨utA', utc', ut'⟩⟩ := s2
      obtain ⟨f0, f1, f2, f3, f4, f5⟩ : wr.cell? ⟨bs, ps + k * 6, none⟩ = some (.string nm) ∧ wr.cell? ⟨bs, ps + k * 6 + 1, none⟩ = some (.slice loA lo.length loc) ∧ wr.cell? ⟨bs, ps + k * 6 + 2, none⟩ = some (.slice eqA eq.length eqc) ∧ wr.cell? ⟨bs, ps + k * 6 + 3, none⟩ = some (.slice aA au.length ac) ∧ wr.cell? ⟨bs, ps + k * 6 + 4, none⟩ = some (.slice ulA ul.length ulc) ∧ wr.cell? ⟨bs, ps + k * 6 + 5, none⟩ = some (.slice utA ut.length utc) := ⟨hPs.1.c0, hPs.1.c1, hPs.1.c2, hPs.1.c3, hPs.1.c4, hPs.1.c5⟩
      obtain ⟨h0, h1, h2, h3, h4, h5⟩ : wr.cell? ⟨bt, pt + k * 6, none⟩ = some (.string nm') ∧ wr.cell? ⟨bt, pt + k * 6 + 1, none⟩ = some (.slice loA' lo'.length loc') ∧ wr.cell? ⟨bt, pt + k * 6 + 2, none⟩ = some (.slice eqA' eq'.length eqc') ∧ wr.cell? ⟨bt, pt + k * 6 + 3, none⟩ = some (.slice aA' au'.length ac') ∧ wr.cell? ⟨bt, pt + k * 6 + 4, none⟩ = some (.slice ulA' ul'.length ulc') ∧ wr.cell? ⟨bt, pt + k * 6 + 5, none⟩ = some (.slice utA' ut'.length utc') := ⟨hPt.1.c0, hPt.1.c1, hPt.1.c2, hPt.1.c3, hPt.1.c4, hPt.1.c5⟩
      obtain ⟨_, d1_, d2_, d3_, d4_, d5_⟩ := RSta.parts hR1.2
      obtain ⟨_, i1_, i2_, i3_, i4_, i5_⟩ := RSta.parts hR2.2
      have HES1 : Hid (∀ U : World, After w0 U → Calls Try.prog 28 #[.slice loA lo.length loc, .slice loA' lo'.length loc'] U fun e w' => e = .returned (.bool (lsame declSame lo lo')) ∧ After U w') := Lib.hid fun U hU => rdecls_any d1_ i1_ U hU
      have HES2 : Hid (∀ U : World, After w0 U → Calls Try.prog 29 #[.slice eqA eq.length eqc, .slice eqA' eq'.length eqc'] U fun e w' => e = .returned (.bool (lsame eqSame eq eq')) ∧ After U w') := Lib.hid fun U hU => requations_any d2_ i2_ U hU
      have HES3 : Hid (∀ U : World, After w0 U → Calls Try.prog 30 #[.slice aA au.length ac, .slice aA' au'.length ac'] U fun e w' => e = .returned (.bool (lsame auSame au au')) ∧ After U w') := Lib.hid fun U hU => HAk.out U hU
      have HES4 : Hid (∀ U : World, After w0 U → Calls Try.prog 67 #[.slice ulA ul.length ulc, .slice ulA' ul'.length ulc'] U fun e w' => e = .returned (.bool (lsame trSame ul ul')) ∧ After U w') := Lib.hid fun U hU => rsteps_any d3_ i3_ U hU
      have HES5 : Hid (∀ U : World, After w0 U → Calls Try.prog 67 #[.slice utA ut.length utc, .slice utA' ut'.length utc'] U fun e w' => e = .returned (.bool (lsame trSame ut ut')) ∧ After U w') := Lib.hid fun U hU => rsteps_any d4_ i4_ U hU
      obtain ⟨qS0, hqS0⟩ : ∃ q, (nm.toList == nm'.toList) = q := ⟨_, rfl⟩
      have mmS0 : (nm.toList != nm'.toList) = !qS0 := by rw [← hqS0]; rfl
      obtain ⟨qS1, hqS1⟩ : ∃ q, (lsame declSame lo lo') = q := ⟨_, rfl⟩
      obtain ⟨qS2, hqS2⟩ : ∃ q, (lsame eqSame eq eq') = q := ⟨_, rfl⟩
      obtain ⟨qS3, hqS3⟩ : ∃ q, (lsame auSame au au') = q := ⟨_, rfl⟩
      obtain ⟨qS4, hqS4⟩ : ∃ q, (lsame trSame ul ul') = q := ⟨_, rfl⟩
      obtain ⟨qS5, hqS5⟩ : ∃ q, (lsame trSame ut ut') = q := ⟨_, rfl⟩
      have HVfS : Hid (stSame ⟨nm, ⟨loA, loc, lo⟩, ⟨eqA, eqc, eq⟩, aA, ac, au, ⟨ulA, ulc, ul⟩, ⟨utA, utc, ut⟩⟩ ⟨nm', ⟨loA', loc', lo'⟩, ⟨eqA', eqc', eq'⟩, aA', ac', au', ⟨ulA', ulc', ul'⟩, ⟨utA', utc', ut'⟩⟩ = (qS0 && (qS1 && (qS2 && (qS3 && (qS4 && (qS5))))))) := by
        show _ = _
        rw [← hqS0, ← hqS1, ← hqS2, ← hqS3, ← hqS4, ← hqS5]
        exact stSame_is _ _ _ _ _ _ _ _ _ _ _ _ _ _ _ _
      rw [hqS1] at HES1
      rw [hqS2] at HES2
      rw [hqS3] at HES3
      rw [hqS4] at HES4
      rw [hqS5] at HES5
      clear hqS1 hqS2 hqS3 hqS4 hqS5
      clear hPs hPt hR1 hR2 d1_ d2_ d3_ d4_ d5_ i1_ i2_ i3_ i4_ i5_ HAk
      go_wp2_with fail
      go_cut [7, 8] (fun p_ q_ wx => ∃ (g1 g2 : Nat) (W : World), W = wx ∧ p_ = .pointer (some ⟨g1, 0, none⟩) ∧ q_ = .pointer (some ⟨g2, 0, none⟩) ∧ Hid (Blk W g1 80 #[.string nm, .slice loA lo.length loc, .slice eqA eq.length eqc, .slice aA au.length ac, .slice ulA ul.length ulc, .slice utA ut.length utc]) ∧ Hid (Blk W g2 80 #[.string nm', .slice loA' lo'.length loc', .slice eqA' eq'.length eqc', .slice aA' au'.length ac', .slice ulA' ul'.length ulc', .slice utA' ut'.length utc']) ∧ After wr W)
      case first =>
        go_region
        all_goals
          go_wp2_with fail
          go_meet
          first
          | exact ⟨wr.heap.size, wr.heap.size + 1, _, rfl, rfl, rfl, ((Blk.new wr 80 #[.string nm, .slice loA lo.length loc, .slice eqA eq.length eqc, .slice aA au.length ac, .slice ulA ul.length ulc, .slice utA ut.length utc]).alloc _).drew, (Blk.at_' (w := wr.alloc (.cells #[.string nm, .slice loA lo.length loc, .slice eqA eq.length eqc, .slice aA au.length ac, .slice ulA ul.length ulc, .slice utA ut.length utc] 80)) (size_alloc_ _ _) 80 #[.string nm', .slice loA' lo'.length loc', .slice eqA' eq'.length eqc', .slice aA' au'.length ac', .slice ulA' ul'.length ulc', .slice utA' ut'.length utc']).drew, inferInstance⟩
          | exact ⟨wr.heap.size + 1, wr.heap.size, _, rfl, rfl, rfl, (Blk.at_' (w := wr.alloc (.cells #[.string nm', .slice loA' lo'.length loc', .slice eqA' eq'.length eqc', .slice aA' au'.length ac', .slice ulA' ul'.length ulc', .slice utA' ut'.length utc'] 80)) (size_alloc_ _ _) 80 #[.string nm, .slice loA lo.length loc, .slice eqA eq.length eqc, .slice aA au.length ac, .slice ulA ul.length ulc, .slice utA ut.length utc]).drew, ((Blk.new wr 80 #[.string nm', .slice loA' lo'.length loc', .slice eqA' eq'.length eqc', .slice aA' au'.length ac', .slice ulA' ul'.length ulc', .slice utA' ut'.length utc']).alloc _).drew, inferInstance⟩
      case rest =>
        obtain ⟨gSa, gSb, WS, rfl, rfl, rfl, BS1, BS2, aS⟩ := hcut
        have HKS : Hid (∀ U : World, After WS U → U.cell? ⟨gSa, 0, none⟩ = some (.string nm) ∧ U.cell? ⟨gSa, 1, none⟩ = some (.slice loA lo.length loc) ∧ U.cell? ⟨gSa, 2, none⟩ = some (.slice eqA eq.length eqc) ∧ U.cell? ⟨gSa, 3, none⟩ = some (.slice aA au.length ac) ∧ U.cell? ⟨gSa, 4, none⟩ = some (.slice ulA ul.length ulc) ∧ U.cell? ⟨gSa, 5, none⟩ = some (.slice utA ut.length utc) ∧ U.cell? ⟨gSb, 0, none⟩ = some (.string nm') ∧ U.cell? ⟨gSb, 1, none⟩ = some (.slice loA' lo'.length loc') ∧ U.cell? ⟨gSb, 2, none⟩ = some (.slice eqA' eq'.length eqc') ∧ U.cell? ⟨gSb, 3, none⟩ = some (.slice aA' au'.length ac') ∧ U.cell? ⟨gSb, 4, none⟩ = some (.slice ulA' ul'.length ulc') ∧ U.cell? ⟨gSb, 5, none⟩ = some (.slice utA' ut'.length utc') ∧ Le (gSa + 1) U ∧ Le (gSb + 1) U) := fun U hU => by
          have f1 := BS1.out.after (w' := U)
          have f2 := BS2.out.after (w' := U)
          exact ⟨(f1.cell 0).trans rfl, (f1.cell 1).trans rfl, (f1.cell 2).trans rfl, (f1.cell 3).trans rfl, (f1.cell 4).trans rfl, (f1.cell 5).trans rfl, (f2.cell 0).trans rfl, (f2.cell 1).trans rfl, (f2.cell 2).trans rfl, (f2.cell 3).trans rfl, (f2.cell 4).trans rfl, (f2.cell 5).trans rfl, f1.is_le, f2.is_le⟩
        clear BS1 BS2
        obtain ⟨kS0, kS1, kS2, kS3, kS4, kS5, mS0, mS1, mS2, mS3, mS4, mS5, klS, mlS⟩ := HKS.out WS (after_refl _)
        clear f0 f1 f2 f3 f4 f5 h0 h1 h2 h3 h4 h5
        cases qS0 with
        | false =>
          have HW : Hid (lsame auSame xl yl = false) := Lib.hid (HF2.out (by rw [HVfS.out]; simp))
          go_wp2_with fail
          go_ret
          exact ⟨ret_bool (by rw [HW.out]), (after_after aw_ (after_after aS (after_refl WS)))⟩
        | true =>
          go_wp2_with fail
          refine (HES1.out WS (after_after a0w (after_after aS (after_refl WS)))).mono ?_
          rintro e vS1 ⟨rfl, cvS1⟩
          have bvS1 : After WS vS1 := after_after (after_refl WS) cvS1
          clear kS0 kS1 kS2 kS3 kS4 kS5 mS0 mS1 mS2 mS3 mS4 mS5 klS mlS
          obtain ⟨kS0, kS1, kS2, kS3, kS4, kS5, mS0, mS1, mS2, mS3, mS4, mS5, klS, mlS⟩ := HKS.out vS1 bvS1
          cases qS1 with
          | false =>
            have HW : Hid (lsame auSame xl yl = false) := Lib.hid (HF2.out (by rw [HVfS.out]; simp))
            go_wp2_with fail
            go_ret
            exact ⟨ret_bool (by rw [HW.out]), (after_after aw_ (after_after aS bvS1))⟩
          | true =>
            go_wp2_with fail
            refine (HES2.out vS1 (after_after a0w (after_after aS bvS1))).mono ?_
            rintro e vS2 ⟨rfl, cvS2⟩
            have bvS2 : After WS vS2 := after_after bvS1 cvS2
            clear kS0 kS1 kS2 kS3 kS4 kS5 mS0 mS1 mS2 mS3 mS4 mS5 klS mlS
            obtain ⟨kS0, kS1, kS2, kS3, kS4, kS5, mS0, mS1, mS2, mS3, mS4, mS5, klS, mlS⟩ := HKS.out vS2 bvS2
            cases qS2 with
            | false =>
              have HW : Hid (lsame auSame xl yl = false) := Lib.hid (HF2.out (by rw [HVfS.out]; simp))
              go_wp2_with fail
              go_ret
              exact ⟨ret_bool (by rw [HW.out]), (after_after aw_ (after_after aS bvS2))⟩
            | true =>
              go_wp2_with fail
              refine (HES3.out vS2 (after_after a0w (after_after aS bvS2))).mono ?_
              rintro e vS3 ⟨rfl, cvS3⟩
              have bvS3 : After WS vS3 := after_after bvS2 cvS3
              clear kS0 kS1 kS2 kS3 kS4 kS5 mS0 mS1 mS2 mS3 mS4 mS5 klS mlS
              obtain ⟨kS0, kS1, kS2, kS3, kS4, kS5, mS0, mS1, mS2, mS3, mS4, mS5, klS, mlS⟩ := HKS.out vS3 bvS3
              cases qS3 with
              | false =>
                have HW : Hid (lsame auSame xl yl = false) := Lib.hid (HF2.out (by rw [HVfS.out]; simp))
                go_wp2_with fail
                go_ret
                exact ⟨ret_bool (by rw [HW.out]), (after_after aw_ (after_after aS bvS3))⟩
              | true =>
                go_wp2_with fail
                refine (HES4.out vS3 (after_after a0w (after_after aS bvS3))).mono ?_
                rintro e vS4 ⟨rfl, cvS4⟩
                have bvS4 : After WS vS4 := after_after bvS3 cvS4
                clear kS0 kS1 kS2 kS3 kS4 kS5 mS0 mS1 mS2 mS3 mS4 mS5 klS mlS
                obtain ⟨kS0, kS1, kS2, kS3, kS4, kS5, mS0, mS1, mS2, mS3, mS4, mS5, klS, mlS⟩ := HKS.out vS4 bvS4
                cases qS4 with
                | false =>
                  have HW : Hid (lsame auSame xl yl = false) := Lib.hid (HF2.out (by rw [HVfS.out]; simp))
                  go_wp2_with fail
                  go_ret
                  exact ⟨ret_bool (by rw [HW.out]), (after_after aw_ (after_after aS bvS4))⟩
                | true =>
                  go_wp2_with fail
                  refine (HES5.out vS4 (after_after a0w (after_after aS bvS4))).mono ?_
                  rintro e vS5 ⟨rfl, cvS5⟩
                  have bvS5 : After WS vS5 := after_after bvS4 cvS5
                  clear kS0 kS1 kS2 kS3 kS4 kS5 mS0 mS1 mS2 mS3 mS4 mS5 klS mlS
                  obtain ⟨kS0, kS1, kS2, kS3, kS4, kS5, mS0, mS1, mS2, mS3, mS4, mS5, klS, mlS⟩ := HKS.out vS5 bvS5
                  cases qS5 with
                  | false =>
                    have HW : Hid (lsame auSame xl yl = false) := Lib.hid (HF2.out (by rw [HVfS.out]; simp))
                    go_wp2_with fail
                    go_ret
                    exact ⟨ret_bool (by rw [HW.out]), (after_after aw_ (after_after aS bvS5))⟩
                  | true =>
                    have HW : Hid (all2 stSame (zl.take (k + 1)) (zl'.take (k + 1)) = true) := Lib.hid (by rw [HT2.out, HVfS.out]; rfl)
                    go_wp2_with fail
                    go_roundw
                    case rel => exact ⟨k + 1, by omega, by go_num, HW, after_after ark (after_after aS bvS5)⟩
                    case measure => simp only [intOf]; omega
theorem szs_zero : ∀ {l : List AuT}, AuT.szs l = 0 → l = []
  | [], _ => rfl
  | a :: l, h => by
    exfalso
    obtain ⟨A, c, s⟩ := a
    rw [AuT.szs, AuT.sz] at h
    omega
theorem rautos_n (N : Nat) : ∀ (A1 B1 : Option Addr) (c1 d1 : Nat) (xl yl : List AuT) (w0 : World), AuT.szs xl ≤ N → RowOf 1 (PAu S) w0 ⟨A1, c1, xl⟩ → RowOf 1 (PAu S) w0 ⟨B1, d1, yl⟩ → ∀ w, After w0 w →
    Calls Try.prog 30 #[.slice A1 xl.length c1, .slice B1 yl.length d1] w fun e w' => e = .returned (.bool (lsame auSame xl yl)) ∧ After w w' := by
  induction N with
  | zero =>
    intro A1 B1 c1 d1 xl yl w0 hN x y w aft
    have h0 := szs_zero (Nat.le_zero.1 hN)
    subst h0
    refine rautos_of x y w aft ?_
    intro i k a s t h1
    simp at h1
  | succ N ih =>
    intro A1 B1 c1 d1 xl yl w0 hN x y w aft
    refine rautos_of x y w aft ?_
    intro i k a s t h1 h2 hs ht U hU
    have m1 := AuT.szs_mem h1
    obtain ⟨aA, ac, al⟩ := a
    have m2 := StT.szs_mem (show al[k]? = some s from h2)
    rw [AuT.sz] at m1
    obtain ⟨n, l, e, A, c, au, u, v⟩ := s
    obtain ⟨n', l', e', A', c', au', u', v'⟩ := t
    rw [StT.sz] at m2
    obtain ⟨_, _, _, _, _, r1⟩ := RSta.parts hs
    obtain ⟨_, _, _, _, _, r2⟩ := RSta.parts ht
    exact ih A A' c c' au au' w0 (by omega) r1 r2 U hU
theorem rautos_any {w0 : World} {A1 B1 : Option Addr} {c1 d1 : Nat} {xl yl : List AuT} (x : RowOf 1 (PAu S) w0 ⟨A1, c1, xl⟩) (y : RowOf 1 (PAu S) w0 ⟨B1, d1, yl⟩) (w : World) (aft : After w0 w) :
    Calls Try.prog 30 #[.slice A1 xl.length c1, .slice B1 yl.length d1] w fun e w' => e = .returned (.bool (lsame auSame xl yl)) ∧ After w w' := rautos_n _ _ _ _ _ _ _ w0 (Nat.le_refl _) x y w aft
end Go.Proofs.Ytdghfhnkacfahaa
