/-
  Contract of the reference: Same, of two images that read alike.
-/
import Derived.Test.YtgmojjdojcmnaaaDoorISame
import Derived.BigRegion
import Derived.BigQuiet
set_option linter.unusedVariables false
set_option linter.unusedSimpArgs false
namespace Go.Proofs.YtgmojjdojcmnaaaDoor
open Go.RowKit Go.BigFrame

set_option maxRecDepth 100000 in
set_option maxHeartbeats 8000000 in
theorem rsame_refl {w0 : World} {A c A' c' B d B' d' m} (x : RIm w0 A c A' c' m) (y : RIm w0 B d B' d' m) (w : World) (hw : After w0 w) :
    Calls Tryd.prog 12 #[.agg #[.slice A m.enums.length c, .slice A' m.rts.length c'], .agg #[.slice B m.enums.length d, .slice B' m.rts.length d']] w fun e w' => e = .returned (.bool true) ∧ After w w' := by
  have hrl := x.rts.len
  have H1 := Lib.hid (fun (U : World) (hU : After w0 U) => rints_refl x.enums y.enums U hU)
  have X := Lib.hid x
  have Y := Lib.hid y
  clear x y
  obtain ⟨g1, hg1⟩ : ∃ g1, w.heap.size = g1 := ⟨_, rfl⟩
  obtain ⟨W1, hW1, HK, a1⟩ : ∃ W1, ((w.alloc (.cells #[.slice A m.enums.length c, .slice A' m.rts.length c'] 29)).alloc (.cells #[.slice B m.enums.length d, .slice B' m.rts.length d'] 29)) = W1 ∧ Hid (∀ U : World, After W1 U → (U.cell? ⟨g1, 0, none⟩ = some (.slice A m.enums.length c) ∧ U.cell? ⟨g1, 1, none⟩ = some (.slice A' m.rts.length c')) ∧ (U.cell? ⟨g1 + 1, 0, none⟩ = some (.slice B m.enums.length d) ∧ U.cell? ⟨g1 + 1, 1, none⟩ = some (.slice B' m.rts.length d')) ∧ Le (g1 + 1) U ∧ Le (g1 + 1 + 1) U) ∧ After w W1 := by
    refine ⟨_, rfl, fun U hU => ?_, inferInstance⟩
    have y0 := ((Blk.new w 29 #[.slice A m.enums.length c, .slice A' m.rts.length c']).alloc (.cells #[.slice B m.enums.length d, .slice B' m.rts.length d'] 29)).after (w' := U)
    have y1 := (Blk.new1 w (.cells #[.slice A m.enums.length c, .slice A' m.rts.length c'] 29) 29 #[.slice B m.enums.length d, .slice B' m.rts.length d']).after (w' := U)
    rw [hg1] at y0 y1
    refine ⟨⟨?_, ?_⟩, ⟨?_, ?_⟩, y0.is_le, y1.is_le⟩
    all_goals first | (rw [y0.cell]; rfl) | (rw [y1.cell]; rfl)
  obtain ⟨⟨f0_, f1_⟩, ⟨h0_, h1_⟩, l0_, l1_⟩ := HK.out W1 inferInstance
  go_enter Tryd.func12, Tryd.ntmps12
  go_wp2_with fail
  try rw [hW1]
  try rw [hg1]
  clear hW1 hg1
  refine (H1.out W1 (after_after hw a1)).mono ?_
  rintro e w2 ⟨rfl, a2⟩
  clear f0_ f1_ h0_ h1_ l0_ l1_
  obtain ⟨⟨f0_, f1_⟩, ⟨h0_, h1_⟩, l0_, l1_⟩ := HK.out w2 a2
  have d2 : After w w2 := after_after a1 a2
  go_wp2_with fail
  go_loopw [5] (fun i wr => ∃ k : Nat, k ≤ m.rts.length ∧ i = .int .i64 (k : Nat) ∧ After w2 wr) (fun i _ => m.rts.length - (intOf i).toNat)
  case atStart => exact ⟨0, by omega, rfl, inferInstance⟩
  case round =>
    obtain ⟨k, hk, rfl, ar⟩ := hrel
    have dr : After w wr := after_after d2 ar
    have a0 : After w0 wr := after_after hw dr
    clear f0_ f1_ h0_ h1_ l0_ l1_
    obtain ⟨⟨f0_, f1_⟩, ⟨h0_, h1_⟩, l0_, l1_⟩ := HK.out wr (after_after a2 ar)
    by_cases hlt : k < m.rts.length
    · have hltI : (k : Int) < (m.rts.length : Int) := by omega
      have hltI0 : (0 : Int) ≤ (k : Int) := by omega
      obtain ⟨b1, p1, s, A1, c1, A2, c2, A3, c3, A4, c4, r, rfl, hle1, HX1, HR1, e0, e1, e2, e3, e4, e5⟩ := (X.out.rts.here wr).part hlt
      obtain ⟨b2, p2, s', A1', c1', A2', c2', A3', c3', A4', c4', r', rfl, hle2, HX2, HR2, u0, u1, u2, u3, u4, u5⟩ := (Y.out.rts.here wr).part hlt
      obtain rfl : r = r' := by
        have he := HX1.out
        rw [HX2.out] at he
        injection he with he
        exact he.symm
      obtain rfl : s = s' := bytes_eq (by rw [HR1.out.name, HR2.out.name])
      have J1 := Lib.hid (fun (U : World) (hU : After wr U) => rints_refl HR1.out.ins HR2.out.ins U hU)
      have J2 := Lib.hid (fun (U : World) (hU : After wr U) => rints_refl HR1.out.outs HR2.out.outs U hU)
      have J3 := Lib.hid (fun (U : World) (hU : After wr U) => rints_refl HR1.out.init HR2.out.init U hU)
      have hcl := HR1.out.code.len
      clear HX1 HX2
      go_wp2_with fail
      go_cut [6, 7] (fun p q wx => ∃ (gx gy : Nat) (W : World), W = wx ∧ p = .pointer (some ⟨gx, 0, none⟩) ∧ q = .pointer (some ⟨gy, 0, none⟩) ∧ Hid (Blk W gx 52 #[.string s, .slice A1 r.ins.length c1, .slice A2 r.outs.length c2, .int .i64 r.regs, .slice A3 r.init.length c3, .slice A4 r.code.length c4]) ∧ Hid (Blk W gy 52 #[.string s, .slice A1' r.ins.length c1', .slice A2' r.outs.length c2', .int .i64 r.regs, .slice A3' r.init.length c3', .slice A4' r.code.length c4']) ∧ After wr W)
      case first =>
        go_region
        all_goals
          go_wp2_with fail
          go_meet
          first
          | exact ⟨wr.heap.size, wr.heap.size + 1, _, rfl, rfl, rfl, ((Blk.new wr 52 #[.string s, .slice A1 r.ins.length c1, .slice A2 r.outs.length c2, .int .i64 r.regs, .slice A3 r.init.length c3, .slice A4 r.code.length c4]).alloc _).drew, (Blk.new1 wr (.cells #[.string s, .slice A1 r.ins.length c1, .slice A2 r.outs.length c2, .int .i64 r.regs, .slice A3 r.init.length c3, .slice A4 r.code.length c4] 52) 52 #[.string s, .slice A1' r.ins.length c1', .slice A2' r.outs.length c2', .int .i64 r.regs, .slice A3' r.init.length c3', .slice A4' r.code.length c4']).drew, inferInstance⟩
          | exact ⟨wr.heap.size + 1, wr.heap.size, _, rfl, rfl, rfl, (Blk.new1 wr (.cells #[.string s, .slice A1' r.ins.length c1', .slice A2' r.outs.length c2', .int .i64 r.regs, .slice A3' r.init.length c3', .slice A4' r.code.length c4'] 52) 52 #[.string s, .slice A1 r.ins.length c1, .slice A2 r.outs.length c2, .int .i64 r.regs, .slice A3 r.init.length c3, .slice A4 r.code.length c4]).drew, ((Blk.new wr 52 #[.string s, .slice A1' r.ins.length c1', .slice A2' r.outs.length c2', .int .i64 r.regs, .slice A3' r.init.length c3', .slice A4' r.code.length c4']).alloc _).drew, inferInstance⟩
      case rest =>
        obtain ⟨gx, gy, W5, rfl, rfl, rfl, Bx, By, a5⟩ := hcut
        have HK5 : Hid (∀ U : World, After W5 U → U.cell? ⟨gx, 0, none⟩ = some (.string s) ∧ U.cell? ⟨gx, 1, none⟩ = some (.slice A1 r.ins.length c1) ∧ U.cell? ⟨gx, 2, none⟩ = some (.slice A2 r.outs.length c2) ∧ U.cell? ⟨gx, 3, none⟩ = some (.int .i64 r.regs) ∧ U.cell? ⟨gx, 4, none⟩ = some (.slice A3 r.init.length c3) ∧ U.cell? ⟨gx, 5, none⟩ = some (.slice A4 r.code.length c4) ∧ U.cell? ⟨gy, 0, none⟩ = some (.string s) ∧ U.cell? ⟨gy, 1, none⟩ = some (.slice A1' r.ins.length c1') ∧ U.cell? ⟨gy, 2, none⟩ = some (.slice A2' r.outs.length c2') ∧ U.cell? ⟨gy, 3, none⟩ = some (.int .i64 r.regs) ∧ U.cell? ⟨gy, 4, none⟩ = some (.slice A3' r.init.length c3') ∧ U.cell? ⟨gy, 5, none⟩ = some (.slice A4' r.code.length c4') ∧ Le (gx + 1) U ∧ Le (gy + 1) U) := fun U hU => by
          have y0 := Bx.out.after (w' := U)
          have y1 := By.out.after (w' := U)
          exact ⟨by rw [y0.cell]; rfl, by rw [y0.cell]; rfl, by rw [y0.cell]; rfl, by rw [y0.cell]; rfl, by rw [y0.cell]; rfl, by rw [y0.cell]; rfl, by rw [y1.cell]; rfl, by rw [y1.cell]; rfl, by rw [y1.cell]; rfl, by rw [y1.cell]; rfl, by rw [y1.cell]; rfl, by rw [y1.cell]; rfl, y0.is_le, y1.is_le⟩
        obtain ⟨v0_, v1_, v2_, v3_, v4_, v5_, z0_, z1_, z2_, z3_, z4_, z5_, lx_, ly_⟩ := HK5.out W5 inferInstance
        go_wp2_with fail
        refine (J1.out W5 a5).mono ?_
        rintro e w6 ⟨rfl, a6⟩
        clear v0_ v1_ v2_ v3_ v4_ v5_ z0_ z1_ z2_ z3_ z4_ z5_ lx_ ly_
        obtain ⟨v0_, v1_, v2_, v3_, v4_, v5_, z0_, z1_, z2_, z3_, z4_, z5_, lx_, ly_⟩ := HK5.out w6 a6
        have r6 : After wr w6 := after_after a5 a6
        go_wp2_with fail
        refine (J2.out w6 r6).mono ?_
        rintro e w7 ⟨rfl, a7⟩
        have b7 : After W5 w7 := after_after a6 a7
        have r7 : After wr w7 := after_after r6 a7
        clear v0_ v1_ v2_ v3_ v4_ v5_ z0_ z1_ z2_ z3_ z4_ z5_ lx_ ly_
        obtain ⟨v0_, v1_, v2_, v3_, v4_, v5_, z0_, z1_, z2_, z3_, z4_, z5_, lx_, ly_⟩ := HK5.out w7 b7
        go_wp2_with fail
        refine (J3.out w7 r7).mono ?_
        rintro e w8 ⟨rfl, a8⟩
        have b8 : After W5 w8 := after_after b7 a8
        have r8 : After wr w8 := after_after r7 a8
        clear v0_ v1_ v2_ v3_ v4_ v5_ z0_ z1_ z2_ z3_ z4_ z5_ lx_ ly_
        obtain ⟨v0_, v1_, v2_, v3_, v4_, v5_, z0_, z1_, z2_, z3_, z4_, z5_, lx_, ly_⟩ := HK5.out w8 b8
        go_wp2_with fail
        go_loopw [8] (fun i wv => ∃ j : Nat, j ≤ r.code.length ∧ i = .int .i64 (j : Nat) ∧ After w8 wv) (fun i _ => r.code.length - (intOf i).toNat)
        case atStart => exact ⟨0, by omega, rfl, inferInstance⟩
        case round =>
          obtain ⟨wv, rfl⟩ : ∃ wv, wv = wr := ⟨wr, rfl⟩
          obtain ⟨j, hj, rfl, av⟩ := hrel
          clear v0_ v1_ v2_ v3_ v4_ v5_ z0_ z1_ z2_ z3_ z4_ z5_ lx_ ly_
          obtain ⟨v0_, v1_, v2_, v3_, v4_, v5_, z0_, z1_, z2_, z3_, z4_, z5_, lx_, ly_⟩ := HK5.out wv (after_after b8 av)
          have rv : After wr wv := after_after r8 av
          by_cases hlt2 : j < r.code.length
          · have hltI2 : (j : Int) < (r.code.length : Int) := by omega
            obtain ⟨b3, p3, op, a, b_, c_, d_, rfl, hle3, HC1, i0, i1, i2, i3, i4⟩ := (HR1.out.code.here wv).part hlt2
            obtain ⟨b4, p4, op', a', b_', c_', d_', rfl, hle4, HC2, j0, j1, j2, j3, j4⟩ := (HR2.out.code.here wv).part hlt2
            have he := HC1.out
            rw [HC2.out] at he
            injection he with he
            injection he with q0 q1 q2 q3 q4
            subst q0 q1 q2 q3 q4
            go_wp2_with fail
            go_quiet (fail)
            go_wp2_with fail
            go_roundw
            case rel => exact ⟨j + 1, by omega, by go_num, after_after av inferInstance⟩
            case measure => simp only [intOf]; omega
          · go_wp2_with fail
            go_roundw
            case rel => exact ⟨k + 1, by omega, by go_num, after_after ar rv⟩
            case measure => simp only [intOf]; omega
    · go_wp2_with fail
      go_ret
      exact ⟨rfl, dr⟩
end Go.Proofs.YtgmojjdojcmnaaaDoor
