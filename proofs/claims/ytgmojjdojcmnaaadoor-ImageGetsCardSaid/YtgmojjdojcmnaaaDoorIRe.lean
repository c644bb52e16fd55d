/-
  Contracts of the reference: routine, Check.
-/
import Derived.Test.YtgmojjdojcmnaaaDoorIRc
import Derived.Test.YtgmojjdojcmnaaaDoorIRd
import Derived.Test.YtgmojjdojcmnaaaDoorIChk
set_option linter.unusedVariables false
set_option linter.unusedSimpArgs false
namespace Go.Proofs.YtgmojjdojcmnaaaDoor
open Go.RowKit Go.BigFrame

theorem rtnE_name {m : Img} {k : Nat} {r : Rtn} (h : nameB r.name = false) : rtnE m k r = 6 := by unfold rtnE; rw [h]; rfl
theorem rtnE_big {m : Img} {k : Nat} {r : Rtn} (h : nameB r.name = true) (h1 : limB r = false) : rtnE m k r = 3 := by unfold rtnE; rw [h, h1]; rfl
theorem rtnE_ty {m : Img} {k : Nat} {r : Rtn} (h : nameB r.name = true) (h1 : limB r = true) (h2 : (r.ins.all (validB m.enums.length) && r.outs.all (validB m.enums.length)) = false) : rtnE m k r = 10 := by unfold rtnE; rw [h, h1, h2]; rfl
theorem rtnE_ar {m : Img} {k : Nat} {r : Rtn} (h : nameB r.name = true) (h1 : limB r = true) (h2 : (r.ins.all (validB m.enums.length) && r.outs.all (validB m.enums.length)) = true) (h3 : r.regs < r.ins.length + r.outs.length) : rtnE m k r = 9 := by
  unfold rtnE; rw [h, h1, h2, if_neg (by decide), if_neg (by decide), if_neg (by decide), if_pos h3]
theorem rtnE_rest {m : Img} {k : Nat} {r : Rtn} (h : nameB r.name = true) (h1 : limB r = true) (h2 : (r.ins.all (validB m.enums.length) && r.outs.all (validB m.enums.length)) = true) (h3 : ¬ (r.regs < r.ins.length + r.outs.length)) : rtnE m k r = if r.init.all inB = false then 14 else codeE m r k 0 r.code := by
  unfold rtnE; rw [h, h1, h2, if_neg (by decide), if_neg (by decide), if_neg (by decide), if_neg h3]
  cases r.init.all inB <;> rfl

set_option maxRecDepth 100000 in
set_option maxHeartbeats 16000000 in
theorem rroutine_any {w0 : World} {A c_ A' cm_ m} (x : RIm w0 A c_ A' cm_ m) (w : World) (hw : After w0 w) (k_ : Nat) (hk_ : k_ < m.rts.length) (r : Rtn) (hr : m.rts[k_]? = some r) :
    Calls Tryd.prog 42 #[.agg #[.slice A m.enums.length c_, .slice A' m.rts.length cm_], .int .i64 k_] w fun e w' => e = .returned (.int .i64 (rtnE m k_ r)) ∧ After w w' := by
  have hl_ := x.rts.len
  have hkI : (k_ : Int) < (m.rts.length : Int) := by omega
  have hen_ := x.enums.len
  obtain ⟨bq, pq, s, A1, c1, A2, c2, A3, c3, A4, c4, r9, rfl, hle_, HX, HR, e0, e1, e2, e3, e4, e5⟩ := (x.rts.here w).part hk_
  obtain rfl : r = r9 := by
    have h1 := HX.out
    rw [hr] at h1
    injection h1 with h1
  have hin1 := HR.out.ins.len
  have hin2 := HR.out.outs.len
  have hin3 := HR.out.init.len
  have hin4 := HR.out.code.len
  have hss := HR.out.size
  have HNm : Hid (s.data.toList = r.name) := HR.out.name
  have HRC := Lib.hid (fun (op a b c d : Int) (ho : 1 ≤ op ∧ op ≤ 10) (hreg : r.regs ≤ 32768) (U : World) (hU : After w0 U) => rranges_any x U hU k_ hk_ r hr hreg op a b c d ho)
  obtain ⟨g1, hg1⟩ : ∃ g1, w.heap.size = g1 := ⟨_, rfl⟩
  obtain ⟨W1, hW1, HK, a1⟩ : ∃ W1, ((w.alloc (.cells #[.slice A m.enums.length c_, .slice (some ⟨bq, pq, none⟩) m.rts.length cm_] 29)).alloc (.cells #[.string s, .slice A1 r.ins.length c1, .slice A2 r.outs.length c2, .int .i64 r.regs, .slice A3 r.init.length c3, .slice A4 r.code.length c4] 52)) = W1 ∧ Hid (∀ U : World, After W1 U → U.cell? ⟨g1, 0, none⟩ = some (.slice A m.enums.length c_) ∧ U.cell? ⟨g1, 1, none⟩ = some (.slice (some ⟨bq, pq, none⟩) m.rts.length cm_) ∧ U.cell? ⟨g1 + 1, 0, none⟩ = some (.string s) ∧ U.cell? ⟨g1 + 1, 1, none⟩ = some (.slice A1 r.ins.length c1) ∧ U.cell? ⟨g1 + 1, 2, none⟩ = some (.slice A2 r.outs.length c2) ∧ U.cell? ⟨g1 + 1, 3, none⟩ = some (.int .i64 r.regs) ∧ U.cell? ⟨g1 + 1, 4, none⟩ = some (.slice A3 r.init.length c3) ∧ U.cell? ⟨g1 + 1, 5, none⟩ = some (.slice A4 r.code.length c4) ∧ Le (g1 + 2) U) ∧ After w W1 := by
    refine ⟨_, rfl, fun U hU => ?_, inferInstance⟩
    have y0 := ((Blk.new w 29 #[.slice A m.enums.length c_, .slice (some ⟨bq, pq, none⟩) m.rts.length cm_]).alloc (.cells #[.string s, .slice A1 r.ins.length c1, .slice A2 r.outs.length c2, .int .i64 r.regs, .slice A3 r.init.length c3, .slice A4 r.code.length c4] 52)).after (w' := U)
    have y1 := (Blk.new1 w (.cells #[.slice A m.enums.length c_, .slice (some ⟨bq, pq, none⟩) m.rts.length cm_] 29) 52 #[.string s, .slice A1 r.ins.length c1, .slice A2 r.outs.length c2, .int .i64 r.regs, .slice A3 r.init.length c3, .slice A4 r.code.length c4]).after (w' := U)
    rw [hg1] at y0 y1
    exact ⟨by rw [y0.cell]; rfl, by rw [y0.cell]; rfl, by rw [y1.cell]; rfl, by rw [y1.cell]; rfl, by rw [y1.cell]; rfl, by rw [y1.cell]; rfl, by rw [y1.cell]; rfl, by rw [y1.cell]; rfl, y1.is_le⟩
  obtain ⟨f0_, f1_, f2_, f3_, f4_, f5_, f6_, f7_, f8_⟩ := HK.out W1 inferInstance
  obtain ⟨T, hT⟩ : ∃ T, rtnE m k_ r = T := ⟨_, rfl⟩
  rw [hT]
  have HT := Lib.hid hT
  clear hT
  have HN := Lib.hid (fun U : World => rname_any s hss U)
  rw [HNm.out] at HN
  obtain ⟨q0, hq0⟩ : ∃ q, nameB r.name = q := ⟨_, rfl⟩
  rw [hq0] at HN
  have HQ0 := Lib.hid hq0
  have HT1 := Lib.hid (fun (U : World) (hU : After w U) => rtyped_any HR.out.ins A c_ m.enums.length hen_ U hU)
  have HT2 := Lib.hid (fun (U : World) (hU : After w U) => rtyped_any HR.out.outs A c_ m.enums.length hen_ U hU)
  obtain ⟨q1, hq1⟩ : ∃ q, r.ins.all (validB m.enums.length) = q := ⟨_, rfl⟩
  obtain ⟨q2, hq2⟩ : ∃ q, r.outs.all (validB m.enums.length) = q := ⟨_, rfl⟩
  rw [hq1] at HT1
  rw [hq2] at HT2
  have HQ1 := Lib.hid hq1
  have HQ2 := Lib.hid hq2
  clear hq0 hq1 hq2 HX hr x
  have hwr : IntKind.i64.wrap ((r.ins.length : Int) + (r.outs.length : Int)) = (r.ins.length : Int) + (r.outs.length : Int) := IntWalk.i64_in _ (by omega)
  go_enter Tryd.func42, Tryd.ntmps42
  go_wp2_with fail
  try rw [hW1]
  try rw [hg1]
  clear hW1 hg1
  refine (HN.out _).mono ?_
  rintro e w2 ⟨rfl, hw2⟩
  rw [hw2]
  clear hw2
  cases q0 with
  | false =>
    have HE : Hid (T = 6) := by show _ = _; rw [← HT.out]; exact rtnE_name HQ0.out
    go_wp2_with fail
    go_ret
    exact ⟨by rw [HE.out]; rfl, a1⟩
  | true =>
  by_cases l1 : 64 < r.ins.length
  · have HE : Hid (T = 3) := by show _ = _; rw [← HT.out]; exact rtnE_big HQ0.out (by unfold limB; simp; omega)
    have lI : (64 : Int) < (r.ins.length : Int) := by omega
    go_wp2_with fail
    go_ret
    exact ⟨by rw [HE.out]; rfl, a1⟩
  have lI1 : ¬ ((64 : Int) < (r.ins.length : Int)) := by omega
  by_cases l2 : 64 < r.outs.length
  · have HE : Hid (T = 3) := by show _ = _; rw [← HT.out]; exact rtnE_big HQ0.out (by unfold limB; simp; omega)
    have lI : (64 : Int) < (r.outs.length : Int) := by omega
    go_wp2_with fail
    go_ret
    exact ⟨by rw [HE.out]; rfl, a1⟩
  have lI2 : ¬ ((64 : Int) < (r.outs.length : Int)) := by omega
  by_cases l3 : 16384 < r.init.length
  · have HE : Hid (T = 3) := by show _ = _; rw [← HT.out]; exact rtnE_big HQ0.out (by unfold limB; simp; omega)
    have lI : (16384 : Int) < (r.init.length : Int) := by omega
    go_wp2_with fail
    go_ret
    exact ⟨by rw [HE.out]; rfl, a1⟩
  have lI3 : ¬ ((16384 : Int) < (r.init.length : Int)) := by omega
  by_cases l4 : 32768 < r.code.length
  · have HE : Hid (T = 3) := by show _ = _; rw [← HT.out]; exact rtnE_big HQ0.out (by unfold limB; simp; omega)
    have lI : (32768 : Int) < (r.code.length : Int) := by omega
    go_wp2_with fail
    go_ret
    exact ⟨by rw [HE.out]; rfl, a1⟩
  have lI4 : ¬ ((32768 : Int) < (r.code.length : Int)) := by omega
  by_cases l5 : 32768 < r.regs
  · have HE : Hid (T = 3) := by show _ = _; rw [← HT.out]; exact rtnE_big HQ0.out (by unfold limB; simp; omega)
    go_wp2_with fail
    go_ret
    exact ⟨by rw [HE.out]; rfl, a1⟩
  have HLm : Hid (limB r = true) := by show _ = _; unfold limB; simp; omega
  have hreg : Hid (r.regs ≤ 32768) := by show _ ≤ _; omega
  clear l1 l2 l3 l4
  go_wp2_with fail
  refine (HT1.out W1 a1).mono ?_
  rintro e w3 ⟨rfl, a3⟩
  have d3 : After w w3 := after_after a1 a3
  clear f0_ f1_ f2_ f3_ f4_ f5_ f6_ f7_ f8_
  obtain ⟨f0_, f1_, f2_, f3_, f4_, f5_, f6_, f7_, f8_⟩ := HK.out w3 a3
  cases q1 with
  | false =>
    have HE : Hid (T = 10) := by show _ = _; rw [← HT.out]; exact rtnE_ty HQ0.out HLm.out (by rw [HQ1.out]; rfl)
    go_wp2_with fail
    go_ret
    exact ⟨by rw [HE.out]; rfl, d3⟩
  | true =>
  go_wp2_with fail
  refine (HT2.out w3 d3).mono ?_
  rintro e w4 ⟨rfl, a4⟩
  have b4 : After W1 w4 := after_after a3 a4
  have d4 : After w w4 := after_after d3 a4
  clear f0_ f1_ f2_ f3_ f4_ f5_ f6_ f7_ f8_
  obtain ⟨f0_, f1_, f2_, f3_, f4_, f5_, f6_, f7_, f8_⟩ := HK.out w4 b4
  cases q2 with
  | false =>
    have HE : Hid (T = 10) := by show _ = _; rw [← HT.out]; exact rtnE_ty HQ0.out HLm.out (by rw [HQ1.out, HQ2.out]; rfl)
    go_wp2_with fail
    go_ret
    exact ⟨by rw [HE.out]; rfl, d4⟩
  | true =>
  have HTy : Hid ((r.ins.all (validB m.enums.length) && r.outs.all (validB m.enums.length)) = true) := by show _ = _; rw [HQ1.out, HQ2.out]; rfl
  by_cases har : r.regs < (r.ins.length : Int) + (r.outs.length : Int)
  · have HE : Hid (T = 9) := by show _ = _; rw [← HT.out]; exact rtnE_ar HQ0.out HLm.out HTy.out har
    go_wp2_with fail
    go_ret
    exact ⟨by rw [HE.out]; rfl, d4⟩
  have HRs : Hid (T = if r.init.all inB = false then 14 else codeE m r k_ 0 r.code) := by show _ = _; rw [← HT.out]; exact rtnE_rest HQ0.out HLm.out HTy.out har
  go_wp2_with fail
  go_loop [6] (fun i => ∃ j : Nat, j ≤ r.init.length ∧ i = .int .i64 (j : Nat) ∧ Hid ((r.init.take j).all inB = true)) (fun i => r.init.length - (intOf i).toNat)
  case atStart => exact ⟨0, by omega, rfl, Lib.hid (by simp)⟩
  case round =>
    obtain ⟨j, hj, rfl, HJ⟩ := hrel
    by_cases hlt : j < r.init.length
    · have hltI : (j : Int) < (r.init.length : Int) := by omega
      obtain ⟨ad, z, rfl, hbk, hc, HZ⟩ := (HR.out.init.here w4).int hlt
      have HT_ := Lib.hid (all_take (p := inB) hlt HZ.out)
      have HH := Lib.hid (all_hit (p := inB) hlt HZ.out)
      have hcs : z < -32768 ∨ (-32768 ≤ z ∧ 32767 < z) ∨ (-32768 ≤ z ∧ z ≤ 32767) := by omega
      have hv : ∀ q : Bool, (decide (-32768 ≤ z) && decide (z ≤ 32767)) = q → inB z = q := fun q h => by unfold inB; exact h
      rcases hcs with h | ⟨h1, h2⟩ | ⟨h1, h2⟩
      · have HE : Hid (T = 14) := by show _ = _; rw [HRs.out, if_pos (HH.out (hv _ (by simp; omega)))]
        clear hv
        go_wp2_with fail
        go_ret
        exact ⟨by rw [HE.out]; rfl, d4⟩
      · have h1' : ¬ (z < -32768) := by omega
        have HE : Hid (T = 14) := by show _ = _; rw [HRs.out, if_pos (HH.out (hv _ (by simp; omega)))]
        clear hv
        go_wp2_with fail
        go_ret
        exact ⟨by rw [HE.out]; rfl, d4⟩
      · have h1' : ¬ (z < -32768) := by omega
        have h2' : ¬ (32767 < z) := by omega
        have HA : Hid ((r.init.take (j + 1)).all inB = true) := by show _ = _; rw [HT_.out, HJ.out, hv true (by simp; omega)]; rfl
        clear hv
        go_wp2_with fail
        go_round
        case rel => exact ⟨j + 1, by omega, by go_num, HA⟩
        case measure => simp only [intOf]; omega
    · have HTc : Hid (codeE m r k_ 0 (r.code.drop 0) = T) := by
        show _ = _
        have h_ := HJ.out
        rw [List.take_of_length_le (by omega)] at h_
        rw [HRs.out, h_, if_neg (by decide)]; rfl
      go_wp2_with fail
      go_loopw [7] (fun i wr => ∃ j : Nat, j ≤ r.code.length ∧ i = .int .i64 (j : Nat) ∧ Hid (codeE m r k_ j (r.code.drop j) = T) ∧ After w4 wr) (fun i _ => r.code.length - (intOf i).toNat)
      case atStart => exact ⟨0, by omega, rfl, HTc, inferInstance⟩
      case round =>
        clear hj HJ hlt
        obtain ⟨j, hj, rfl, HJ, ar⟩ := hrel
        have br : After W1 wr := after_after b4 ar
        have dr : After w wr := after_after a1 br
        clear f0_ f1_ f2_ f3_ f4_ f5_ f6_ f7_ f8_
        obtain ⟨f0_, f1_, f2_, f3_, f4_, f5_, f6_, f7_, f8_⟩ := HK.out wr br
        by_cases hlt : j < r.code.length
        · have hltI : (j : Int) < (r.code.length : Int) := by omega
          obtain ⟨bc, pc, op, a, b, c, d, rfl, hlc, HC, i0, i1, i2, i3, i4⟩ := (HR.out.code.here wr).part (i := j) hlt
          have HS := Lib.hid (codeE_step (m := m) (k := k_) HC.out)
          have HF := Lib.hid (fun (U : World) => rform_any U op a b c d (j : Nat) r.code.length)
          have HFo : Hid (formB ⟨op, a, b, c, d⟩ (j : Nat) r.code.length = true → 1 ≤ op ∧ op ≤ 10) := fun h => formB_op h
          obtain ⟨p1, hp1⟩ : ∃ q, formB ⟨op, a, b, c, d⟩ (j : Nat) r.code.length = q := ⟨_, rfl⟩
          rw [hp1] at HF HS HFo
          clear hp1 HC
          replace HF : Hid (∀ U : World, Calls Tryd.prog 54 #[.agg #[.int .i64 op, .int .i64 a, .int .i64 b, .int .i64 c, .int .i64 d], .int .i64 (j : Nat), .int .i64 (r.code.length : Nat)] U fun e w' => e = .returned (.bool p1) ∧ ∃ z, w' = U.more z) := fun U => (HF.out U).mono fun e w_ h_ => ⟨h_.1, have := h_.2; After.is_more _ _⟩
          go_wp2_with fail
          refine wp_region_more (by kernel_rfl) (by kernel_rfl) ?_
          repeat (go_big_quiet_step ((go_at_call 54; exact Calls.more_of (HF.out _))))
          refine wpQuiet_nil ?_
          rintro _ ⟨y5, rfl⟩
          obtain ⟨v5, hv5⟩ : ∃ v, wr.more y5 = v := ⟨_, rfl⟩
          have av5 : After wr v5 := by rw [← hv5]; infer_instance
          rw [hv5]
          clear hv5
          have b5 : After W1 v5 := after_after br av5
          have d5 : After w v5 := after_after a1 b5
          have e5_ : After w4 v5 := after_after ar av5
          cases p1 with
          | false =>
            have HE : Hid (T = 5) := by
              show T = 5
              have h_ := HS.out
              rw [HJ.out] at h_
              simpa using h_
            go_wp2_with fail
            go_ret
            exact ⟨by rw [HE.out]; rfl, d5⟩
          | true =>
            have kk : ∀ j v, wr.cell? ⟨bc, j, none⟩ = some v → v5.cell? ⟨bc, j, none⟩ = some v := fun j v hv => (av5.below.cell (p := ⟨bc, j, none⟩) hlc.le).trans hv
            have hlc5 : Le (bc + 1) v5 := ⟨Nat.le_trans hlc.le av5.below.size⟩
            replace i0 := kk _ _ i0
            replace i1 := kk _ _ i1
            replace i2 := kk _ _ i2
            replace i3 := kk _ _ i3
            replace i4 := kk _ _ i4
            clear f0_ f1_ f2_ f3_ f4_ f5_ f6_ f7_ f8_ kk
            obtain ⟨f0_, f1_, f2_, f3_, f4_, f5_, f6_, f7_, f8_⟩ := HK.out v5 b5
            obtain ⟨p2, hp2⟩ : ∃ q, rangeB m r k_ ⟨op, a, b, c, d⟩ = q := ⟨_, rfl⟩
            have aw5 : After w0 v5 := after_after hw d5
            have le1 : Le (g1 + 1) v5 := ⟨by have := f8_.le; omega⟩
            have le2 : Le (g1 + 1 + 1) v5 := ⟨by have := f8_.le; omega⟩
            have HG : Hid (∀ U : World, After w0 U → Calls Tryd.prog 55 #[.agg #[.slice A m.enums.length c_, .slice (some ⟨bq, pq, none⟩) m.rts.length cm_], .int .i64 k_, .agg #[.int .i64 op, .int .i64 a, .int .i64 b, .int .i64 c, .int .i64 d]] U fun e w' => e = .returned (.bool p2) ∧ ∃ z, w' = U.more z) := fun U hU => (HRC.out op a b c d (HFo.out rfl) hreg.out U hU).mono fun e w_ h_ => ⟨by rw [← hp2]; exact h_.1, have := h_.2; After.is_more _ _⟩
            rw [hp2] at HS
            clear hp2
            go_wp2_with fail
            refine wp_region_more (by kernel_rfl) (by kernel_rfl) ?_
            repeat (go_big_quiet_step ((go_at_call 55; exact Calls.more_of (HG.out _ inferInstance))))
            refine wpQuiet_nil ?_
            rintro _ ⟨y6, rfl⟩
            obtain ⟨v6, hv6⟩ : ∃ v, v5.more y6 = v := ⟨_, rfl⟩
            have av6 : After v5 v6 := by rw [← hv6]; infer_instance
            rw [hv6]
            clear hv6
            have d6 : After w v6 := after_after d5 av6
            have e6_ : After w4 v6 := after_after e5_ av6
            cases p2 with
            | false =>
              have HE : Hid (T = 14) := by
                show T = 14
                have h_ := HS.out
                rw [HJ.out] at h_
                simpa using h_
              go_wp2_with fail
              go_ret
              exact ⟨by rw [HE.out]; rfl, d6⟩
            | true =>
              have HE : Hid (codeE m r k_ (j + 1) (r.code.drop (j + 1)) = T) := by
                show codeE m r k_ (j + 1) (r.code.drop (j + 1)) = T
                have h_ := HS.out
                rw [HJ.out] at h_
                simpa using h_.symm
              go_wp2_with fail
              go_roundw
              case rel => exact ⟨j + 1, by omega, by go_num, HE, e6_⟩
              case measure => simp only [intOf]; omega
        · have HE : Hid (T = 0) := by
            have h_ := codeE_end (m := m) (r := r) (k := k_) (j := j) (by omega)
            rw [HJ.out] at h_
            exact h_
          go_wp2_with fail
          go_ret
          exact ⟨by rw [HE.out]; rfl, dr⟩

theorem chk_big {m : Img} (h : 24 < m.enums.length ∨ 96 < m.rts.length) : chk m = 3 := by unfold chk; rw [if_pos h]
theorem chk_tag {m : Img} (h : ¬ (24 < m.enums.length ∨ 96 < m.rts.length)) (h1 : m.enums.all tagB = false) : chk m = 14 := by unfold chk; rw [if_neg h, h1]; rfl
theorem chk_none {m : Img} (h : ¬ (24 < m.enums.length ∨ 96 < m.rts.length)) (h1 : m.enums.all tagB = true) (h2 : m.rts.length = 0) : chk m = 5 := by unfold chk; rw [if_neg h, h1, if_neg (by decide), if_pos h2]
theorem chk_rts {m : Img} (h : ¬ (24 < m.enums.length ∨ 96 < m.rts.length)) (h1 : m.enums.all tagB = true) (h2 : ¬ (m.rts.length = 0)) : chk m = rtsE m 0 m.rts := by unfold chk; rw [if_neg h, h1, if_neg (by decide), if_neg h2]

set_option maxRecDepth 100000 in
set_option maxHeartbeats 16000000 in
theorem rcheck_any {w0 : World} {A c A' c' m} (x : RIm w0 A c A' c' m) (w : World) (hw : After w0 w) :
    Calls Tryd.prog 29 #[.agg #[.slice A m.enums.length c, .slice A' m.rts.length c']] w fun e w' => e = .returned (.int .i64 (chk m)) ∧ After w w' := by
  obtain ⟨T, hT⟩ : ∃ T, chk m = T := ⟨_, rfl⟩
  rw [hT]
  have HT := Lib.hid hT
  clear hT
  have X := Lib.hid x
  have hen_ := x.enums.len
  have hrt_ := x.rts.len
  clear x
  obtain ⟨g1, hg1⟩ : ∃ g1, w.heap.size = g1 := ⟨_, rfl⟩
  obtain ⟨W1, hW1, HK, a1⟩ : ∃ W1, w.alloc (.cells #[.slice A m.enums.length c, .slice A' m.rts.length c'] 29) = W1 ∧ Hid (∀ U : World, After W1 U → U.cell? ⟨g1, 0, none⟩ = some (.slice A m.enums.length c) ∧ U.cell? ⟨g1, 1, none⟩ = some (.slice A' m.rts.length c') ∧ Le (g1 + 1) U) ∧ After w W1 := by
    refine ⟨_, rfl, fun U hU => ?_, inferInstance⟩
    have y0 := (Blk.new w 29 #[.slice A m.enums.length c, .slice A' m.rts.length c']).after (w' := U)
    rw [hg1] at y0
    exact ⟨by rw [y0.cell]; rfl, by rw [y0.cell]; rfl, y0.is_le⟩
  obtain ⟨k0, k1, k2⟩ := HK.out W1 inferInstance
  by_cases l1 : 24 < m.enums.length
  · have HE : Hid (T = 3) := by show _ = _; rw [← HT.out]; exact chk_big (.inl l1)
    have lI : (24 : Int) < (m.enums.length : Int) := by omega
    clear l1
    go_enter Tryd.func29, Tryd.ntmps29
    go_wp2_with fail
    go_ret
    exact ⟨by rw [HE.out]; rfl, inferInstance⟩
  have lI1 : ¬ ((24 : Int) < (m.enums.length : Int)) := by omega
  by_cases l2 : 96 < m.rts.length
  · have HE : Hid (T = 3) := by show _ = _; rw [← HT.out]; exact chk_big (.inr l2)
    have lI : (96 : Int) < (m.rts.length : Int) := by omega
    clear l1 l2
    go_enter Tryd.func29, Tryd.ntmps29
    go_wp2_with fail
    go_ret
    exact ⟨by rw [HE.out]; rfl, inferInstance⟩
  have lI2 : ¬ ((96 : Int) < (m.rts.length : Int)) := by omega
  have HL : Hid (¬ (24 < m.enums.length ∨ 96 < m.rts.length)) := by show ¬ _; omega
  clear l1 l2
  go_enter Tryd.func29, Tryd.ntmps29
  go_wp2_with fail
  try rw [hW1]
  try rw [hg1]
  clear hW1 hg1
  go_loop [3] (fun i => ∃ j : Nat, j ≤ m.enums.length ∧ i = .int .i64 (j : Nat) ∧ Hid ((m.enums.take j).all tagB = true)) (fun i => m.enums.length - (intOf i).toNat)
  case atStart => exact ⟨0, by omega, rfl, Lib.hid (by simp)⟩
  case round =>
    obtain ⟨j, hj, rfl, HJ⟩ := hrel
    by_cases hlt : j < m.enums.length
    · have hltI : (j : Int) < (m.enums.length : Int) := by omega
      obtain ⟨ad, z, rfl, hbk, hc, HZ⟩ := (X.out.enums.here W1 (k := after_after hw a1)).int hlt
      have HT_ := Lib.hid (all_take (p := tagB) hlt HZ.out)
      have HH := Lib.hid (all_hit (p := tagB) hlt HZ.out)
      have hcs : z < 1 ∨ (1 ≤ z ∧ 16 < z) ∨ (1 ≤ z ∧ z ≤ 16) := by omega
      have hv : ∀ q : Bool, (decide (1 ≤ z) && decide (z ≤ 16)) = q → tagB z = q := fun q h => by unfold tagB; exact h
      rcases hcs with h | ⟨h1, h2⟩ | ⟨h1, h2⟩
      · have HE : Hid (T = 14) := by show _ = _; rw [← HT.out]; exact chk_tag HL.out (HH.out (hv _ (by simp; omega)))
        clear hv
        go_wp2_with fail
        go_ret
        exact ⟨by rw [HE.out]; rfl, a1⟩
      · have h1' : ¬ (z < 1) := by omega
        have HE : Hid (T = 14) := by show _ = _; rw [← HT.out]; exact chk_tag HL.out (HH.out (hv _ (by simp; omega)))
        clear hv
        go_wp2_with fail
        go_ret
        exact ⟨by rw [HE.out]; rfl, a1⟩
      · have h1' : ¬ (z < 1) := by omega
        have h2' : ¬ (16 < z) := by omega
        have HA : Hid ((m.enums.take (j + 1)).all tagB = true) := by show _ = _; rw [HT_.out, HJ.out, hv true (by simp; omega)]; rfl
        clear hv
        go_wp2_with fail
        go_round
        case rel => exact ⟨j + 1, by omega, by go_num, HA⟩
        case measure => simp only [intOf]; omega
    · have HA : Hid (m.enums.all tagB = true) := by
        show _ = _
        have h_ := HJ.out
        rwa [List.take_of_length_le (by omega)] at h_
      clear HJ hj
      by_cases h0 : m.rts.length = 0
      · have HE : Hid (T = 5) := by show _ = _; rw [← HT.out]; exact chk_none HL.out HA.out h0
        have hI3 : ((m.rts.length : Int) == 0) = true := by rw [beq_iff_eq]; omega
        clear h0
        go_wp2_with fail
        go_ret
        exact ⟨by rw [HE.out]; rfl, a1⟩
      · have HTc : Hid (rtsE m 0 (m.rts.drop 0) = T) := by show _ = _; rw [← HT.out]; exact (chk_rts HL.out HA.out h0).symm
        have hI3 : ((m.rts.length : Int) == 0) = false := by rw [beq_eq_false_iff_ne]; omega
        clear h0
        go_wp2_with fail
        go_loopw [4] (fun i wr => ∃ k : Nat, k ≤ m.rts.length ∧ i = .int .i64 (k : Nat) ∧ Hid (rtsE m k (m.rts.drop k) = T) ∧ After W1 wr) (fun i _ => m.rts.length - (intOf i).toNat)
        case atStart => exact ⟨0, by omega, rfl, HTc, inferInstance⟩
        case round =>
          clear hlt
          obtain ⟨k, hk, rfl, HJ, ar⟩ := hrel
          have dr : After w wr := after_after a1 ar
          clear k0 k1 k2
          obtain ⟨k0, k1, k2⟩ := HK.out wr ar
          by_cases hlt : k < m.rts.length
          · have hltI : (k : Int) < (m.rts.length : Int) := by omega
            have hr : m.rts[k]? = some m.rts[k] := List.getElem?_eq_getElem hlt
            obtain ⟨r, hr'⟩ : ∃ r, m.rts[k] = r := ⟨_, rfl⟩
            rw [hr'] at hr
            have HO := Lib.hid (rroutine_any X.out wr (after_after hw dr) k hlt r hr)
            have HS := Lib.hid (rtsE_step hr)
            obtain ⟨ev, hev⟩ : ∃ ev, rtnE m k r = ev := ⟨_, rfl⟩
            rw [hev] at HO HS
            clear hev hr hr'
            go_wp2_with fail
            refine HO.out.mono ?_
            rintro e w3 ⟨rfl, a3⟩
            have d3 : After w w3 := after_after dr a3
            have e3 : After W1 w3 := after_after ar a3
            by_cases he : ev = 0
            · have HE : Hid (rtsE m (k + 1) (m.rts.drop (k + 1)) = T) := by
                show _ = _
                have h_ := HS.out
                rw [HJ.out, if_pos he] at h_
                exact h_.symm
              have z1 : (ev == 0) = true := by rw [beq_iff_eq]; exact he
              have z2 : (ev != 0) = false := by rw [bne, z1]; rfl
              go_wp2_with fail
              go_roundw
              case rel => exact ⟨k + 1, by omega, by go_num, HE, e3⟩
              case measure => simp only [intOf]; omega
            · have HE : Hid (T = ev) := by
                show _ = _
                have h_ := HS.out
                rw [HJ.out, if_neg he] at h_
                exact h_
              have z1 : (ev == 0) = false := by rw [beq_eq_false_iff_ne]; exact he
              have z2 : (ev != 0) = true := by rw [bne, z1]; rfl
              go_wp2_with fail
              go_ret
              exact ⟨by rw [HE.out]; rfl, d3⟩
          · have HE : Hid (T = 0) := by
              show _ = _
              have h_ := rtsE_end (m := m) (k := k) (by omega)
              rw [HJ.out] at h_
              exact h_
            go_wp2_with fail
            go_ret
            exact ⟨by rw [HE.out]; rfl, dr⟩
end Go.Proofs.YtgmojjdojcmnaaaDoor
