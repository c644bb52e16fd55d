/-
  Contracts: equality of two images that read alike: R26.Ints, slices.Equal, EqualFunc, sameRoutine, asm.Same.
-/
import Derived.Test.YtgmojjdojcmnaaaDoorIMem
import Derived.BigQuiet
import Derived.Shelf.Abstract
set_option linter.unusedVariables false
set_option linter.unusedSimpArgs false
namespace Go.Proofs.YtgmojjdojcmnaaaDoor
open Go.RowKit Go.BigFrame

set_option maxRecDepth 100000 in
set_option maxHeartbeats 1600000 in
theorem rints_refl {w0 : World} {A1 c1 A2 c2 l} (x1 : RI w0 A1 c1 l) (x2 : RI w0 A2 c2 l) (w : World) (hw : After w0 w) :
    Calls Tryd.prog 30 #[.slice A1 l.length c1, .slice A2 l.length c2] w fun e w' => e = .returned (.bool true) ∧ After w w' := by
  have hl_ := x1.len
  have X1 := Lib.hid x1
  have X2 := Lib.hid x2
  clear x1 x2
  go_enter Tryd.func30, Tryd.ntmps30
  go_wp2_with fail
  go_loopw [5] (fun i wr => ∃ k : Nat, k ≤ l.length ∧ i = .int .i64 (k : Nat) ∧ After w wr) (fun i _ => l.length - (intOf i).toNat)
  case atStart => exact ⟨0, by omega, rfl, inferInstance⟩
  case round =>
    obtain ⟨k, hk, rfl, ar⟩ := hrel
    by_cases hlt : k < l.length
    · have hltI : (k : Int) < (l.length : Int) := by omega
      obtain ⟨ad1, z, rfl, hb1, hc1, HZ1⟩ := (X1.out.here wr (k := after_after hw ar)).int hlt
      obtain ⟨ad2, z2, rfl, hb2, hc2, HZ2⟩ := (X2.out.here wr (k := after_after hw ar)).int hlt
      obtain rfl : z = z2 := by rw [← HZ1.out, ← HZ2.out]
      go_wp2_with fail
      go_quiet (fail)
      go_wp2_with fail
      go_roundw
      case rel => exact ⟨k + 1, by omega, by go_num, after_after ar inferInstance⟩
      case measure => simp only [intOf]; omega
    · go_wp2_with fail
      go_ret
      exact ⟨rfl, ar⟩
set_option maxRecDepth 100000 in
set_option maxHeartbeats 1600000 in
theorem eqi_refl {w0 : World} {A1 c1 A2 c2 l} (x1 : RI w0 A1 c1 l) (x2 : RI w0 A2 c2 l) (w : World) (hw : After w0 w) :
    Calls Tryd.prog 35 #[.slice A1 l.length c1, .slice A2 l.length c2] w fun e w' => e = .returned (.bool true) ∧ After w w' := by
  have hl_ := x1.len
  have X1 := Lib.hid x1
  have X2 := Lib.hid x2
  clear x1 x2
  go_enter Tryd.func35, Tryd.ntmps35
  go_wp2_with fail
  go_loopw [13] (fun i wr => ∃ k : Nat, k ≤ l.length ∧ i = .int .i64 (k : Nat) ∧ After w wr) (fun i _ => l.length - (intOf i).toNat)
  case atStart => exact ⟨0, by omega, rfl, inferInstance⟩
  case round =>
    obtain ⟨k, hk, rfl, ar⟩ := hrel
    by_cases hlt : k < l.length
    · have hltI : (k : Int) < (l.length : Int) := by omega
      obtain ⟨ad1, z, rfl, hb1, hc1, HZ1⟩ := (X1.out.here wr (k := after_after hw ar)).int hlt
      obtain ⟨ad2, z2, rfl, hb2, hc2, HZ2⟩ := (X2.out.here wr (k := after_after hw ar)).int hlt
      obtain rfl : z = z2 := by rw [← HZ1.out, ← HZ2.out]
      go_wp2_with fail
      go_quiet (fail)
      go_wp2_with fail
      go_roundw
      case rel => exact ⟨k + 1, by omega, by go_num, after_after ar inferInstance⟩
      case measure => simp only [intOf]; omega
    · go_wp2_with fail
      go_ret
      exact ⟨rfl, ar⟩
set_option maxRecDepth 100000 in
set_option maxHeartbeats 1600000 in
theorem eqc_refl {w0 : World} {A1 c1 A2 c2 l} (x1 : RC w0 A1 c1 l) (x2 : RC w0 A2 c2 l) (w : World) (hw : After w0 w) :
    Calls Tryd.prog 43 #[.slice A1 l.length c1, .slice A2 l.length c2] w fun e w' => e = .returned (.bool true) ∧ After w w' := by
  have hl_ := x1.len
  have X1 := Lib.hid x1
  have X2 := Lib.hid x2
  clear x1 x2
  go_enter Tryd.func43, Tryd.ntmps43
  go_wp2_with fail
  go_loopw [13] (fun i wr => ∃ k : Nat, k ≤ l.length ∧ i = .int .i64 (k : Nat) ∧ After w wr) (fun i _ => l.length - (intOf i).toNat)
  case atStart => exact ⟨0, by omega, rfl, inferInstance⟩
  case round =>
    obtain ⟨k, hk, rfl, ar⟩ := hrel
    by_cases hlt : k < l.length
    · have hltI : (k : Int) < (l.length : Int) := by omega
      obtain ⟨b1, p1, op, a, b_, c_, d, rfl, hle1, HC1, i0, i1, i2, i3, i4⟩ := (X1.out.here wr (k := after_after hw ar)).part hlt
      obtain ⟨b2, p2, op', a', b_', c_', d', rfl, hle2, HC2, j0, j1, j2, j3, j4⟩ := (X2.out.here wr (k := after_after hw ar)).part hlt
      have he := HC1.out
      rw [HC2.out] at he
      injection he with he
      injection he with q0 q1 q2 q3 q4
      subst q0 q1 q2 q3 q4
      go_wp2_with fail
      go_quiet (fail)
      go_wp2_with fail
      go_roundw
      case rel => exact ⟨k + 1, by omega, by go_num, after_after ar inferInstance⟩
      case measure => simp only [intOf]; omega
    · go_wp2_with fail
      go_ret
      exact ⟨rfl, ar⟩
theorem bytes_eq {s t : ByteArray} (h : s.data.toList = t.data.toList) : s = t := by
  cases s; cases t
  simp at h
  rw [h]
set_option maxRecDepth 100000 in
set_option maxHeartbeats 3200000 in
theorem samer_refl {w0 : World} {s A1 c1 A2 c2 A3 c3 A4 c4 s' A1' c1' A2' c2' A3' c3' A4' c4' r} (x : RRt w0 s A1 c1 A2 c2 A3 c3 A4 c4 r) (y : RRt w0 s' A1' c1' A2' c2' A3' c3' A4' c4' r) (w : World) (hw : After w0 w) :
    Calls Tryd.prog 37 #[.agg #[.string s, .slice A1 r.ins.length c1, .slice A2 r.outs.length c2, .int .i64 r.regs, .slice A3 r.init.length c3, .slice A4 r.code.length c4], .agg #[.string s', .slice A1' r.ins.length c1', .slice A2' r.outs.length c2', .int .i64 r.regs, .slice A3' r.init.length c3', .slice A4' r.code.length c4']] w fun e w' => e = .returned (.bool true) ∧ After w w' := by
  obtain rfl : s = s' := bytes_eq (by rw [x.name, y.name])
  have H1 := Lib.hid (fun (U : World) (hU : After w0 U) => eqi_refl x.ins y.ins U hU)
  have H2 := Lib.hid (fun (U : World) (hU : After w0 U) => eqi_refl x.outs y.outs U hU)
  have H3 := Lib.hid (fun (U : World) (hU : After w0 U) => eqi_refl x.init y.init U hU)
  have H4 := Lib.hid (fun (U : World) (hU : After w0 U) => eqc_refl x.code y.code U hU)
  clear x y
  obtain ⟨g1, hg1⟩ : ∃ g1, w.heap.size = g1 := ⟨_, rfl⟩
  obtain ⟨W1, hW1, HK, a1⟩ : ∃ W1, ((w.alloc (.cells #[.string s, .slice A1 r.ins.length c1, .slice A2 r.outs.length c2, .int .i64 r.regs, .slice A3 r.init.length c3, .slice A4 r.code.length c4] 52)).alloc (.cells #[.string s, .slice A1' r.ins.length c1', .slice A2' r.outs.length c2', .int .i64 r.regs, .slice A3' r.init.length c3', .slice A4' r.code.length c4'] 52)) = W1 ∧ Hid (∀ U : World, After W1 U → (U.cell? ⟨g1, 0, none⟩ = some (.string s) ∧ U.cell? ⟨g1, 1, none⟩ = some (.slice A1 r.ins.length c1) ∧ U.cell? ⟨g1, 2, none⟩ = some (.slice A2 r.outs.length c2) ∧ U.cell? ⟨g1, 3, none⟩ = some (.int .i64 r.regs) ∧ U.cell? ⟨g1, 4, none⟩ = some (.slice A3 r.init.length c3) ∧ U.cell? ⟨g1, 5, none⟩ = some (.slice A4 r.code.length c4)) ∧ (U.cell? ⟨g1 + 1, 0, none⟩ = some (.string s) ∧ U.cell? ⟨g1 + 1, 1, none⟩ = some (.slice A1' r.ins.length c1') ∧ U.cell? ⟨g1 + 1, 2, none⟩ = some (.slice A2' r.outs.length c2') ∧ U.cell? ⟨g1 + 1, 3, none⟩ = some (.int .i64 r.regs) ∧ U.cell? ⟨g1 + 1, 4, none⟩ = some (.slice A3' r.init.length c3') ∧ U.cell? ⟨g1 + 1, 5, none⟩ = some (.slice A4' r.code.length c4')) ∧ Le (g1 + 1) U ∧ Le (g1 + 1 + 1) U) ∧ After w W1 := by
    refine ⟨_, rfl, fun U hU => ?_, inferInstance⟩
    have y0 := ((Blk.new w 52 #[.string s, .slice A1 r.ins.length c1, .slice A2 r.outs.length c2, .int .i64 r.regs, .slice A3 r.init.length c3, .slice A4 r.code.length c4]).alloc (.cells #[.string s, .slice A1' r.ins.length c1', .slice A2' r.outs.length c2', .int .i64 r.regs, .slice A3' r.init.length c3', .slice A4' r.code.length c4'] 52)).after (w' := U)
    have y1 := (Blk.new1 w (.cells #[.string s, .slice A1 r.ins.length c1, .slice A2 r.outs.length c2, .int .i64 r.regs, .slice A3 r.init.length c3, .slice A4 r.code.length c4] 52) 52 #[.string s, .slice A1' r.ins.length c1', .slice A2' r.outs.length c2', .int .i64 r.regs, .slice A3' r.init.length c3', .slice A4' r.code.length c4']).after (w' := U)
    rw [hg1] at y0 y1
    refine ⟨⟨?_, ?_, ?_, ?_, ?_, ?_⟩, ⟨?_, ?_, ?_, ?_, ?_, ?_⟩, y0.is_le, y1.is_le⟩
    all_goals first | (rw [y0.cell]; rfl) | (rw [y1.cell]; rfl)
  obtain ⟨⟨f0_, f1_, f2_, f3_, f4_, f5_⟩, ⟨h0_, h1_, h2_, h3_, h4_, h5_⟩, l0_, l1_⟩ := HK.out W1 inferInstance
  go_enter Tryd.func37, Tryd.ntmps37
  go_wp2_with fail
  try rw [hW1]
  try rw [hg1]
  clear hW1 hg1
  refine (H1.out W1 (after_after hw a1)).mono ?_
  rintro e w2 ⟨rfl, a2⟩
  clear f0_ f1_ f2_ f3_ f4_ f5_ h0_ h1_ h2_ h3_ h4_ h5_ l0_ l1_
  obtain ⟨⟨f0_, f1_, f2_, f3_, f4_, f5_⟩, ⟨h0_, h1_, h2_, h3_, h4_, h5_⟩, l0_, l1_⟩ := HK.out w2 a2
  have d2 : After w w2 := after_after a1 a2
  go_wp2_with fail
  refine (H2.out w2 (after_after hw d2)).mono ?_
  rintro e w3 ⟨rfl, a3⟩
  have b3 : After W1 w3 := after_after a2 a3
  have d3 : After w w3 := after_after d2 a3
  clear f0_ f1_ f2_ f3_ f4_ f5_ h0_ h1_ h2_ h3_ h4_ h5_ l0_ l1_
  obtain ⟨⟨f0_, f1_, f2_, f3_, f4_, f5_⟩, ⟨h0_, h1_, h2_, h3_, h4_, h5_⟩, l0_, l1_⟩ := HK.out w3 b3
  go_wp2_with fail
  refine (H3.out w3 (after_after hw d3)).mono ?_
  rintro e w4 ⟨rfl, a4⟩
  have b4 : After W1 w4 := after_after b3 a4
  have d4 : After w w4 := after_after d3 a4
  clear f0_ f1_ f2_ f3_ f4_ f5_ h0_ h1_ h2_ h3_ h4_ h5_ l0_ l1_
  obtain ⟨⟨f0_, f1_, f2_, f3_, f4_, f5_⟩, ⟨h0_, h1_, h2_, h3_, h4_, h5_⟩, l0_, l1_⟩ := HK.out w4 b4
  go_wp2_with fail
  refine (H4.out w4 (after_after hw d4)).mono ?_
  rintro e w5 ⟨rfl, a5⟩
  have d5 : After w w5 := after_after d4 a5
  go_wp2_with fail
  go_ret
  exact ⟨rfl, d5⟩
set_option maxRecDepth 100000 in
set_option maxHeartbeats 3200000 in
theorem eqf_refl {w0 : World} {A1 c1 A2 c2 l} (x1 : RRs w0 A1 c1 l) (x2 : RRs w0 A2 c2 l) (w : World) (hw : After w0 w) :
    Calls Tryd.prog 36 #[.slice A1 l.length c1, .slice A2 l.length c2, .func (.func 37) #[] #[]] w fun e w' => e = .returned (.bool true) ∧ After w w' := by
  have hl_ := x1.len
  have X1 := Lib.hid x1
  have X2 := Lib.hid x2
  clear x1 x2
  go_enter Tryd.func36, Tryd.ntmps36
  go_wp2_with fail
  go_loopw [17] (fun i wr => ∃ k : Nat, k ≤ l.length ∧ i = .int .i64 (k : Nat) ∧ After w wr) (fun i _ => l.length - (intOf i).toNat)
  case atStart => exact ⟨0, by omega, rfl, inferInstance⟩
  case round =>
    obtain ⟨k, hk, rfl, ar⟩ := hrel
    have a0 : After w0 wr := after_after hw ar
    by_cases hlt : k < l.length
    · have hltI : (k : Int) < (l.length : Int) := by omega
      obtain ⟨b1, p1, s, A1, c1, A2, c2, A3, c3, A4, c4, r, rfl, hle1, HX1, HR1, e0, e1, e2, e3, e4, e5⟩ := (X1.out.here wr).part hlt
      obtain ⟨b2, p2, s', A1', c1', A2', c2', A3', c3', A4', c4', r', rfl, hle2, HX2, HR2, u0, u1, u2, u3, u4, u5⟩ := (X2.out.here wr).part hlt
      obtain rfl : r = r' := by
        have he := HX1.out
        rw [HX2.out] at he
        injection he with he
        exact he.symm
      have HS := Lib.hid (fun (U : World) (hU : After wr U) => samer_refl HR1.out HR2.out U hU)
      clear HX1 HX2 HR1 HR2
      obtain ⟨W5, hW5, HK5, a5⟩ : ∃ W5, (wr.alloc (.cells #[.string s, .slice A1 r.ins.length c1, .slice A2 r.outs.length c2, .int .i64 r.regs, .slice A3 r.init.length c3, .slice A4 r.code.length c4] 52)).alloc (.cells #[.string s', .slice A1' r.ins.length c1', .slice A2' r.outs.length c2', .int .i64 r.regs, .slice A3' r.init.length c3', .slice A4' r.code.length c4'] 52) = W5 ∧ (W5.cell? ⟨wr.heap.size, 0, none⟩ = some (.string s) ∧ W5.cell? ⟨wr.heap.size, 1, none⟩ = some (.slice A1 r.ins.length c1) ∧ W5.cell? ⟨wr.heap.size, 2, none⟩ = some (.slice A2 r.outs.length c2) ∧ W5.cell? ⟨wr.heap.size, 3, none⟩ = some (.int .i64 r.regs) ∧ W5.cell? ⟨wr.heap.size, 4, none⟩ = some (.slice A3 r.init.length c3) ∧ W5.cell? ⟨wr.heap.size, 5, none⟩ = some (.slice A4 r.code.length c4) ∧ W5.cell? ⟨wr.heap.size + 1, 0, none⟩ = some (.string s') ∧ W5.cell? ⟨wr.heap.size + 1, 1, none⟩ = some (.slice A1' r.ins.length c1') ∧ W5.cell? ⟨wr.heap.size + 1, 2, none⟩ = some (.slice A2' r.outs.length c2') ∧ W5.cell? ⟨wr.heap.size + 1, 3, none⟩ = some (.int .i64 r.regs) ∧ W5.cell? ⟨wr.heap.size + 1, 4, none⟩ = some (.slice A3' r.init.length c3') ∧ W5.cell? ⟨wr.heap.size + 1, 5, none⟩ = some (.slice A4' r.code.length c4') ∧ Le (wr.heap.size + 1) W5 ∧ Le (wr.heap.size + 1 + 1) W5) ∧ After wr W5 := by
        refine ⟨_, rfl, ?_, inferInstance⟩
        have y0 := (Blk.new wr 52 #[.string s, .slice A1 r.ins.length c1, .slice A2 r.outs.length c2, .int .i64 r.regs, .slice A3 r.init.length c3, .slice A4 r.code.length c4]).alloc (.cells #[.string s', .slice A1' r.ins.length c1', .slice A2' r.outs.length c2', .int .i64 r.regs, .slice A3' r.init.length c3', .slice A4' r.code.length c4'] 52)
        have y1 := Blk.new1 wr (.cells #[.string s, .slice A1 r.ins.length c1, .slice A2 r.outs.length c2, .int .i64 r.regs, .slice A3 r.init.length c3, .slice A4 r.code.length c4] 52) 52 #[.string s', .slice A1' r.ins.length c1', .slice A2' r.outs.length c2', .int .i64 r.regs, .slice A3' r.init.length c3', .slice A4' r.code.length c4']
        exact ⟨by rw [y0.cell]; rfl, by rw [y0.cell]; rfl, by rw [y0.cell]; rfl, by rw [y0.cell]; rfl, by rw [y0.cell]; rfl, by rw [y0.cell]; rfl, by rw [y1.cell]; rfl, by rw [y1.cell]; rfl, by rw [y1.cell]; rfl, by rw [y1.cell]; rfl, by rw [y1.cell]; rfl, by rw [y1.cell]; rfl, y0.is_le, y1.is_le⟩
      obtain ⟨h0_, h1_, h2_, h3_, h4_, h5_, h6_, h7_, h8_, h9_, h10_, h11_, l0_, l1_⟩ := HK5
      go_wp2_with fail
      try rw [hW5]
      refine (HS.out _ inferInstance).mono ?_
      rintro e w2 ⟨rfl, a2⟩
      have a3 : After wr w2 := after_after inferInstance a2
      clear a2
      go_wp2_with fail
      go_roundw
      case rel => exact ⟨k + 1, by omega, by go_num, after_after ar a3⟩
      case measure => simp only [intOf]; omega
    · go_wp2_with fail
      go_ret
      exact ⟨rfl, ar⟩
set_option maxRecDepth 100000 in
set_option maxHeartbeats 1600000 in
theorem same_refl {w0 : World} {A c A' c' B d B' d' m} (x : RIm w0 A c A' c' m) (y : RIm w0 B d B' d' m) (w : World) (hw : After w0 w) :
    Calls Tryd.prog 18 #[.agg #[.slice A m.enums.length c, .slice A' m.rts.length c'], .agg #[.slice B m.enums.length d, .slice B' m.rts.length d']] w fun e w' => e = .returned (.bool true) ∧ After w w' := by
  have H1 := Lib.hid (fun (U : World) (hU : After w0 U) => eqi_refl x.enums y.enums U hU)
  have H2 := Lib.hid (fun (U : World) (hU : After w0 U) => eqf_refl x.rts y.rts U hU)
  clear x y
  obtain ⟨g1, hg1⟩ : ∃ g1, w.heap.size = g1 := ⟨_, rfl⟩
  obtain ⟨W1, hW1, HK, a1⟩ : ∃ W1, ((w.alloc (.cells #[.slice A m.enums.length c, .slice A' m.rts.length c'] 29)).alloc (.cells #[.slice B m.enums.length d, .slice B' m.rts.length d'] 29)) = W1 ∧ Hid (∀ U : World, After W1 U → (U.cell? ⟨g1, 0, none⟩ = some (.slice A m.enums.length c) ∧ U.cell? ⟨g1, 1, none⟩ = some (.slice A' m.rts.length c')) ∧ (U.cell? ⟨g1 + 1, 0, none⟩ = some (.slice B m.enums.length d) ∧ U.cell? ⟨g1 + 1, 1, none⟩ = some (.slice B' m.rts.length d')) ∧ Le (g1 + 1) U ∧ Le (g1 + 1 + 1) U) ∧ After w W1 := by
    refine ⟨_, rfl, fun U hU => ?_, inferInstance⟩
    have y0 := ((Blk.new w 29 #[.slice A m.enums.length c, .slice A' m.rts.length c']).alloc (.cells #[.slice B m.enums.length d, .slice B' m.rts.length d'] 29)).after (w' := U)
    have y1 := (Blk.new1 w (.cells #[.slice A m.enums.length c, .slice A' m.rts.length c'] 29) 29 #[.slice B m.enums.length d, .slice B' m.rts.length d']).after (w' := U)
    rw [hg1] at y0 y1
    refine ⟨⟨?_, ?_⟩, ⟨?_, ?_⟩, y0.is_le, y1.is_le⟩
    all_goals first | (rw [y0.cell]; rfl) | (rw [y1.cell]; rfl)
  obtain ⟨⟨f0_, f1_⟩, ⟨h0_, h1_⟩, l0_, l1_⟩ := HK.out W1 inferInstance
  go_enter Tryd.func18, Tryd.ntmps18
  go_wp2_with fail
  try rw [hW1]
  try rw [hg1]
  clear hW1 hg1
  refine (H1.out W1 (after_after hw a1)).mono ?_
  rintro e w2 ⟨rfl, a2⟩
  clear f0_ f1_ h0_ h1_ l0_ l1_
  obtain ⟨⟨f0_, f1_⟩, ⟨h0_, h1_⟩, l0_, l1_⟩ := HK.out w2 a2
  have d2 : After w w2 := after_after a1 a2
  go_wp2_with fail
  refine (H2.out w2 (after_after hw d2)).mono ?_
  rintro e w3 ⟨rfl, a3⟩
  have d3 : After w w3 := after_after d2 a3
  go_wp2_with fail
  go_ret
  exact ⟨rfl, d3⟩
end Go.Proofs.YtgmojjdojcmnaaaDoor
