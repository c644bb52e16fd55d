/-
  Contracts of the reference: ranges (printed by gen_rrange.py).
-/
import Derived.Test.YtgmojjdojcmnaaaDoorIRb
import Derived.Test.YtgmojjdojcmnaaaDoorIRangeL
import Derived.BigQuiet
set_option linter.unusedVariables false
set_option linter.unusedSimpArgs false
namespace Go.Proofs.YtgmojjdojcmnaaaDoor
open Go.RowKit Go.BigFrame

theorem Blk.new3 (w : World) (o o2 o3 : Obj) (t : TypeId) (cs : Array Value) : Blk ((((w.alloc o).alloc o2).alloc o3).alloc (.cells cs t)) (w.heap.size + 3) t cs := by
  have h := Blk.new (((w.alloc o).alloc o2).alloc o3) t cs
  rwa [size_alloc_, size_alloc_, size_alloc_] at h

set_option maxRecDepth 100000 in
set_option maxHeartbeats 8000000 in
theorem rranges_1 {w0 : World} {A c_ A' cm_ m} (x : RIm w0 A c_ A' cm_ m) (w : World) (hw : After w0 w) (k_ : Nat) (hk_ : k_ < m.rts.length) (r : Rtn) (hr : m.rts[k_]? = some r) (hreg : r.regs ≤ 32768) (a b c d : Int) :
    Calls Tryd.prog 55 #[.agg #[.slice A m.enums.length c_, .slice A' m.rts.length cm_], .int .i64 k_, .agg #[.int .i64 1, .int .i64 a, .int .i64 b, .int .i64 c, .int .i64 d]] w fun e w' => e = .returned (.bool (rangeB m r k_ ⟨1, a, b, c, d⟩)) ∧ After w w' := by
  rw [rangeB_1]
  have hl_ := x.rts.len
  have hkI : (k_ : Int) < (m.rts.length : Int) := by omega
  obtain ⟨b0, p0, s, A1, c1, A2, c2, A3, c3, A4, c4, r9, rfl, hle_, HX, HR, e0, e1, e2, e3, e4, e5⟩ := (x.rts.here w).part hk_
  obtain rfl : r = r9 := by
    have h1 := HX.out
    rw [hr] at h1
    injection h1 with h1
  have hin3 := HR.out.init.len
  have HW := Lib.hid (fun (q n v : Int) (hv : v ≤ 9223372036854775807) (U : World) => rwithin_any q n v U hv)
  obtain ⟨g1, hg1⟩ : ∃ g1, w.heap.size = g1 := ⟨_, rfl⟩
  obtain ⟨W1, hW1, HK, a1⟩ : ∃ W1, (((w.alloc (.cells #[.slice A m.enums.length c_, .slice (some ⟨b0, p0, none⟩) m.rts.length cm_] 29)).alloc (.cells #[.int .i64 1, .int .i64 a, .int .i64 b, .int .i64 c, .int .i64 d] 61)).alloc (.cells #[.string s, .slice A1 r.ins.length c1, .slice A2 r.outs.length c2, .int .i64 r.regs, .slice A3 r.init.length c3, .slice A4 r.code.length c4] 52)) = W1 ∧ Hid (∀ U : World, After W1 U → U.cell? ⟨g1, 0, none⟩ = some (.slice A m.enums.length c_) ∧ U.cell? ⟨g1, 1, none⟩ = some (.slice (some ⟨b0, p0, none⟩) m.rts.length cm_) ∧ U.cell? ⟨g1 + 1, 0, none⟩ = some (.int .i64 1) ∧ U.cell? ⟨g1 + 1, 1, none⟩ = some (.int .i64 a) ∧ U.cell? ⟨g1 + 1, 2, none⟩ = some (.int .i64 b) ∧ U.cell? ⟨g1 + 1, 3, none⟩ = some (.int .i64 c) ∧ U.cell? ⟨g1 + 1, 4, none⟩ = some (.int .i64 d) ∧ U.cell? ⟨g1 + 2, 0, none⟩ = some (.string s) ∧ U.cell? ⟨g1 + 2, 1, none⟩ = some (.slice A1 r.ins.length c1) ∧ U.cell? ⟨g1 + 2, 2, none⟩ = some (.slice A2 r.outs.length c2) ∧ U.cell? ⟨g1 + 2, 3, none⟩ = some (.int .i64 r.regs) ∧ U.cell? ⟨g1 + 2, 4, none⟩ = some (.slice A3 r.init.length c3) ∧ U.cell? ⟨g1 + 2, 5, none⟩ = some (.slice A4 r.code.length c4) ∧ Le (g1 + 3) U) ∧ After w W1 := by
    refine ⟨_, rfl, fun U hU => ?_, inferInstance⟩
    have y0 := (((Blk.new w 29 #[.slice A m.enums.length c_, .slice (some ⟨b0, p0, none⟩) m.rts.length cm_]).alloc (.cells #[.int .i64 1, .int .i64 a, .int .i64 b, .int .i64 c, .int .i64 d] 61)).alloc (.cells #[.string s, .slice A1 r.ins.length c1, .slice A2 r.outs.length c2, .int .i64 r.regs, .slice A3 r.init.length c3, .slice A4 r.code.length c4] 52)).after (w' := U)
    have y1 := ((Blk.new1 w (.cells #[.slice A m.enums.length c_, .slice (some ⟨b0, p0, none⟩) m.rts.length cm_] 29) 61 #[.int .i64 1, .int .i64 a, .int .i64 b, .int .i64 c, .int .i64 d]).alloc (.cells #[.string s, .slice A1 r.ins.length c1, .slice A2 r.outs.length c2, .int .i64 r.regs, .slice A3 r.init.length c3, .slice A4 r.code.length c4] 52)).after (w' := U)
    have y2 := (Blk.new2 w (.cells #[.slice A m.enums.length c_, .slice (some ⟨b0, p0, none⟩) m.rts.length cm_] 29) (.cells #[.int .i64 1, .int .i64 a, .int .i64 b, .int .i64 c, .int .i64 d] 61) 52 #[.string s, .slice A1 r.ins.length c1, .slice A2 r.outs.length c2, .int .i64 r.regs, .slice A3 r.init.length c3, .slice A4 r.code.length c4]).after (w' := U)
    rw [hg1] at y0 y1 y2
    exact ⟨by rw [y0.cell]; rfl, by rw [y0.cell]; rfl, by rw [y1.cell]; rfl, by rw [y1.cell]; rfl, by rw [y1.cell]; rfl, by rw [y1.cell]; rfl, by rw [y1.cell]; rfl, by rw [y2.cell]; rfl, by rw [y2.cell]; rfl, by rw [y2.cell]; rfl, by rw [y2.cell]; rfl, by rw [y2.cell]; rfl, by rw [y2.cell]; rfl, y2.is_le⟩
  obtain ⟨f0_, f1_, f2_, f3_, f4_, f5_, f6_, f7_, f8_, f9_, f10_, f11_, f12_, f13_⟩ := HK.out W1 inferInstance
  have X := Lib.hid x
  clear x HX hr
  have H0 := Lib.hid (fun U : World => HW.out a 1 r.regs (by omega) U)
  obtain ⟨q0, hq0⟩ : ∃ q, withinB a 1 r.regs = q := ⟨_, rfl⟩
  rw [hq0] at H0
  rw [hq0]
  clear hq0
  clear HW
  cases q0 with
  | false =>
    go_enter Tryd.func55, Tryd.ntmps55
    go_wp2_with fail
    try rw [hW1]
    try rw [hg1]
    clear hW1 hg1
    go_quiet (fail)
    go_wp2_with fail
    refine (H0.out _).mono ?_
    rintro e w2 ⟨rfl, rfl⟩
    go_wp2_with fail
    go_ret
    exact ⟨rfl, by first | exact a1 | exact after_after a1 inferInstance | exact aw5 | exact after_after aw5 inferInstance⟩
  | true =>
    by_cases h1 : -32768 ≤ b
    rotate_left
    · have dd : decide (-32768 ≤ b) = false := by simpa using h1
      rw [dd]
      go_enter Tryd.func55, Tryd.ntmps55
      go_wp2_with fail
      try rw [hW1]
      try rw [hg1]
      clear hW1 hg1
      go_quiet (fail)
      go_wp2_with fail
      refine (H0.out _).mono ?_
      rintro e w2 ⟨rfl, rfl⟩
      go_wp2_with fail
      go_ret
      exact ⟨rfl, by first | exact a1 | exact after_after a1 inferInstance | exact aw5 | exact after_after aw5 inferInstance⟩
    have d1 : decide (-32768 ≤ b) = true := by simpa using h1
    rw [d1]
    by_cases h2 : b ≤ 32767
    rotate_left
    · have dd : decide (b ≤ 32767) = false := by simpa using h2
      rw [dd]
      go_enter Tryd.func55, Tryd.ntmps55
      go_wp2_with fail
      try rw [hW1]
      try rw [hg1]
      clear hW1 hg1
      go_quiet (fail)
      go_wp2_with fail
      refine (H0.out _).mono ?_
      rintro e w2 ⟨rfl, rfl⟩
      go_wp2_with fail
      go_ret
      exact ⟨rfl, by first | exact a1 | exact after_after a1 inferInstance | exact aw5 | exact after_after aw5 inferInstance⟩
    have d2 : decide (b ≤ 32767) = true := by simpa using h2
    rw [d2]
    go_enter Tryd.func55, Tryd.ntmps55
    go_wp2_with fail
    try rw [hW1]
    try rw [hg1]
    clear hW1 hg1
    go_quiet (fail)
    go_wp2_with fail
    refine (H0.out _).mono ?_
    rintro e w2 ⟨rfl, rfl⟩
    go_wp2_with fail
    go_ret
    exact ⟨rfl, by first | exact a1 | exact after_after a1 inferInstance | exact aw5 | exact after_after aw5 inferInstance⟩

set_option maxRecDepth 100000 in
set_option maxHeartbeats 8000000 in
theorem rranges_2 {w0 : World} {A c_ A' cm_ m} (x : RIm w0 A c_ A' cm_ m) (w : World) (hw : After w0 w) (k_ : Nat) (hk_ : k_ < m.rts.length) (r : Rtn) (hr : m.rts[k_]? = some r) (hreg : r.regs ≤ 32768) (a b c d : Int) :
    Calls Tryd.prog 55 #[.agg #[.slice A m.enums.length c_, .slice A' m.rts.length cm_], .int .i64 k_, .agg #[.int .i64 2, .int .i64 a, .int .i64 b, .int .i64 c, .int .i64 d]] w fun e w' => e = .returned (.bool (rangeB m r k_ ⟨2, a, b, c, d⟩)) ∧ After w w' := by
  rw [rangeB_2]
  have hl_ := x.rts.len
  have hkI : (k_ : Int) < (m.rts.length : Int) := by omega
  obtain ⟨b0, p0, s, A1, c1, A2, c2, A3, c3, A4, c4, r9, rfl, hle_, HX, HR, e0, e1, e2, e3, e4, e5⟩ := (x.rts.here w).part hk_
  obtain rfl : r = r9 := by
    have h1 := HX.out
    rw [hr] at h1
    injection h1 with h1
  have hin3 := HR.out.init.len
  have HW := Lib.hid (fun (q n v : Int) (hv : v ≤ 9223372036854775807) (U : World) => rwithin_any q n v U hv)
  obtain ⟨g1, hg1⟩ : ∃ g1, w.heap.size = g1 := ⟨_, rfl⟩
  obtain ⟨W1, hW1, HK, a1⟩ : ∃ W1, (((w.alloc (.cells #[.slice A m.enums.length c_, .slice (some ⟨b0, p0, none⟩) m.rts.length cm_] 29)).alloc (.cells #[.int .i64 2, .int .i64 a, .int .i64 b, .int .i64 c, .int .i64 d] 61)).alloc (.cells #[.string s, .slice A1 r.ins.length c1, .slice A2 r.outs.length c2, .int .i64 r.regs, .slice A3 r.init.length c3, .slice A4 r.code.length c4] 52)) = W1 ∧ Hid (∀ U : World, After W1 U → U.cell? ⟨g1, 0, none⟩ = some (.slice A m.enums.length c_) ∧ U.cell? ⟨g1, 1, none⟩ = some (.slice (some ⟨b0, p0, none⟩) m.rts.length cm_) ∧ U.cell? ⟨g1 + 1, 0, none⟩ = some (.int .i64 2) ∧ U.cell? ⟨g1 + 1, 1, none⟩ = some (.int .i64 a) ∧ U.cell? ⟨g1 + 1, 2, none⟩ = some (.int .i64 b) ∧ U.cell? ⟨g1 + 1, 3, none⟩ = some (.int .i64 c) ∧ U.cell? ⟨g1 + 1, 4, none⟩ = some (.int .i64 d) ∧ U.cell? ⟨g1 + 2, 0, none⟩ = some (.string s) ∧ U.cell? ⟨g1 + 2, 1, none⟩ = some (.slice A1 r.ins.length c1) ∧ U.cell? ⟨g1 + 2, 2, none⟩ = some (.slice A2 r.outs.length c2) ∧ U.cell? ⟨g1 + 2, 3, none⟩ = some (.int .i64 r.regs) ∧ U.cell? ⟨g1 + 2, 4, none⟩ = some (.slice A3 r.init.length c3) ∧ U.cell? ⟨g1 + 2, 5, none⟩ = some (.slice A4 r.code.length c4) ∧ Le (g1 + 3) U) ∧ After w W1 := by
    refine ⟨_, rfl, fun U hU => ?_, inferInstance⟩
    have y0 := (((Blk.new w 29 #[.slice A m.enums.length c_, .slice (some ⟨b0, p0, none⟩) m.rts.length cm_]).alloc (.cells #[.int .i64 2, .int .i64 a, .int .i64 b, .int .i64 c, .int .i64 d] 61)).alloc (.cells #[.string s, .slice A1 r.ins.length c1, .slice A2 r.outs.length c2, .int .i64 r.regs, .slice A3 r.init.length c3, .slice A4 r.code.length c4] 52)).after (w' := U)
    have y1 := ((Blk.new1 w (.cells #[.slice A m.enums.length c_, .slice (some ⟨b0, p0, none⟩) m.rts.length cm_] 29) 61 #[.int .i64 2, .int .i64 a, .int .i64 b, .int .i64 c, .int .i64 d]).alloc (.cells #[.string s, .slice A1 r.ins.length c1, .slice A2 r.outs.length c2, .int .i64 r.regs, .slice A3 r.init.length c3, .slice A4 r.code.length c4] 52)).after (w' := U)
    have y2 := (Blk.new2 w (.cells #[.slice A m.enums.length c_, .slice (some ⟨b0, p0, none⟩) m.rts.length cm_] 29) (.cells #[.int .i64 2, .int .i64 a, .int .i64 b, .int .i64 c, .int .i64 d] 61) 52 #[.string s, .slice A1 r.ins.length c1, .slice A2 r.outs.length c2, .int .i64 r.regs, .slice A3 r.init.length c3, .slice A4 r.code.length c4]).after (w' := U)
    rw [hg1] at y0 y1 y2
    exact ⟨by rw [y0.cell]; rfl, by rw [y0.cell]; rfl, by rw [y1.cell]; rfl, by rw [y1.cell]; rfl, by rw [y1.cell]; rfl, by rw [y1.cell]; rfl, by rw [y1.cell]; rfl, by rw [y2.cell]; rfl, by rw [y2.cell]; rfl, by rw [y2.cell]; rfl, by rw [y2.cell]; rfl, by rw [y2.cell]; rfl, by rw [y2.cell]; rfl, y2.is_le⟩
  obtain ⟨f0_, f1_, f2_, f3_, f4_, f5_, f6_, f7_, f8_, f9_, f10_, f11_, f12_, f13_⟩ := HK.out W1 inferInstance
  have X := Lib.hid x
  clear x HX hr
  have H0 := Lib.hid (fun U : World => HW.out a 1 r.regs (by omega) U)
  obtain ⟨q0, hq0⟩ : ∃ q, withinB a 1 r.regs = q := ⟨_, rfl⟩
  rw [hq0] at H0
  rw [hq0]
  clear hq0
  have H1 := Lib.hid (fun U : World => HW.out b 1 r.regs (by omega) U)
  obtain ⟨q1, hq1⟩ : ∃ q, withinB b 1 r.regs = q := ⟨_, rfl⟩
  rw [hq1] at H1
  rw [hq1]
  clear hq1
  clear HW
  cases q0 with
  | false =>
    go_enter Tryd.func55, Tryd.ntmps55
    go_wp2_with fail
    try rw [hW1]
    try rw [hg1]
    clear hW1 hg1
    go_quiet (fail)
    go_wp2_with fail
    refine (H0.out _).mono ?_
    rintro e w2 ⟨rfl, rfl⟩
    go_wp2_with fail
    go_ret
    exact ⟨rfl, by first | exact a1 | exact after_after a1 inferInstance | exact aw5 | exact after_after aw5 inferInstance⟩
  | true =>
    cases q1 with
    | false =>
      go_enter Tryd.func55, Tryd.ntmps55
      go_wp2_with fail
      try rw [hW1]
      try rw [hg1]
      clear hW1 hg1
      go_quiet (fail)
      go_wp2_with fail
      refine (H0.out _).mono ?_
      rintro e w2 ⟨rfl, rfl⟩
      go_wp2_with fail
      refine (H1.out _).mono ?_
      rintro e w2 ⟨rfl, rfl⟩
      go_wp2_with fail
      go_ret
      exact ⟨rfl, by first | exact a1 | exact after_after a1 inferInstance | exact aw5 | exact after_after aw5 inferInstance⟩
    | true =>
      go_enter Tryd.func55, Tryd.ntmps55
      go_wp2_with fail
      try rw [hW1]
      try rw [hg1]
      clear hW1 hg1
      go_quiet (fail)
      go_wp2_with fail
      refine (H0.out _).mono ?_
      rintro e w2 ⟨rfl, rfl⟩
      go_wp2_with fail
      refine (H1.out _).mono ?_
      rintro e w2 ⟨rfl, rfl⟩
      go_wp2_with fail
      go_ret
      exact ⟨rfl, by first | exact a1 | exact after_after a1 inferInstance | exact aw5 | exact after_after aw5 inferInstance⟩

set_option maxRecDepth 100000 in
set_option maxHeartbeats 8000000 in
theorem rranges_3 {w0 : World} {A c_ A' cm_ m} (x : RIm w0 A c_ A' cm_ m) (w : World) (hw : After w0 w) (k_ : Nat) (hk_ : k_ < m.rts.length) (r : Rtn) (hr : m.rts[k_]? = some r) (hreg : r.regs ≤ 32768) (a b c d : Int) :
    Calls Tryd.prog 55 #[.agg #[.slice A m.enums.length c_, .slice A' m.rts.length cm_], .int .i64 k_, .agg #[.int .i64 3, .int .i64 a, .int .i64 b, .int .i64 c, .int .i64 d]] w fun e w' => e = .returned (.bool (rangeB m r k_ ⟨3, a, b, c, d⟩)) ∧ After w w' := by
  rw [rangeB_3]
  have hl_ := x.rts.len
  have hkI : (k_ : Int) < (m.rts.length : Int) := by omega
  obtain ⟨b0, p0, s, A1, c1, A2, c2, A3, c3, A4, c4, r9, rfl, hle_, HX, HR, e0, e1, e2, e3, e4, e5⟩ := (x.rts.here w).part hk_
  obtain rfl : r = r9 := by
    have h1 := HX.out
    rw [hr] at h1
    injection h1 with h1
  have hin3 := HR.out.init.len
  have HW := Lib.hid (fun (q n v : Int) (hv : v ≤ 9223372036854775807) (U : World) => rwithin_any q n v U hv)
  obtain ⟨g1, hg1⟩ : ∃ g1, w.heap.size = g1 := ⟨_, rfl⟩
  obtain ⟨W1, hW1, HK, a1⟩ : ∃ W1, (((w.alloc (.cells #[.slice A m.enums.length c_, .slice (some ⟨b0, p0, none⟩) m.rts.length cm_] 29)).alloc (.cells #[.int .i64 3, .int .i64 a, .int .i64 b, .int .i64 c, .int .i64 d] 61)).alloc (.cells #[.string s, .slice A1 r.ins.length c1, .slice A2 r.outs.length c2, .int .i64 r.regs, .slice A3 r.init.length c3, .slice A4 r.code.length c4] 52)) = W1 ∧ Hid (∀ U : World, After W1 U → U.cell? ⟨g1, 0, none⟩ = some (.slice A m.enums.length c_) ∧ U.cell? ⟨g1, 1, none⟩ = some (.slice (some ⟨b0, p0, none⟩) m.rts.length cm_) ∧ U.cell? ⟨g1 + 1, 0, none⟩ = some (.int .i64 3) ∧ U.cell? ⟨g1 + 1, 1, none⟩ = some (.int .i64 a) ∧ U.cell? ⟨g1 + 1, 2, none⟩ = some (.int .i64 b) ∧ U.cell? ⟨g1 + 1, 3, none⟩ = some (.int .i64 c) ∧ U.cell? ⟨g1 + 1, 4, none⟩ = some (.int .i64 d) ∧ U.cell? ⟨g1 + 2, 0, none⟩ = some (.string s) ∧ U.cell? ⟨g1 + 2, 1, none⟩ = some (.slice A1 r.ins.length c1) ∧ U.cell? ⟨g1 + 2, 2, none⟩ = some (.slice A2 r.outs.length c2) ∧ U.cell? ⟨g1 + 2, 3, none⟩ = some (.int .i64 r.regs) ∧ U.cell? ⟨g1 + 2, 4, none⟩ = some (.slice A3 r.init.length c3) ∧ U.cell? ⟨g1 + 2, 5, none⟩ = some (.slice A4 r.code.length c4) ∧ Le (g1 + 3) U) ∧ After w W1 := by
    refine ⟨_, rfl, fun U hU => ?_, inferInstance⟩
    have y0 := (((Blk.new w 29 #[.slice A m.enums.length c_, .slice (some ⟨b0, p0, none⟩) m.rts.length cm_]).alloc (.cells #[.int .i64 3, .int .i64 a, .int .i64 b, .int .i64 c, .int .i64 d] 61)).alloc (.cells #[.string s, .slice A1 r.ins.length c1, .slice A2 r.outs.length c2, .int .i64 r.regs, .slice A3 r.init.length c3, .slice A4 r.code.length c4] 52)).after (w' := U)
    have y1 := ((Blk.new1 w (.cells #[.slice A m.enums.length c_, .slice (some ⟨b0, p0, none⟩) m.rts.length cm_] 29) 61 #[.int .i64 3, .int .i64 a, .int .i64 b, .int .i64 c, .int .i64 d]).alloc (.cells #[.string s, .slice A1 r.ins.length c1, .slice A2 r.outs.length c2, .int .i64 r.regs, .slice A3 r.init.length c3, .slice A4 r.code.length c4] 52)).after (w' := U)
    have y2 := (Blk.new2 w (.cells #[.slice A m.enums.length c_, .slice (some ⟨b0, p0, none⟩) m.rts.length cm_] 29) (.cells #[.int .i64 3, .int .i64 a, .int .i64 b, .int .i64 c, .int .i64 d] 61) 52 #[.string s, .slice A1 r.ins.length c1, .slice A2 r.outs.length c2, .int .i64 r.regs, .slice A3 r.init.length c3, .slice A4 r.code.length c4]).after (w' := U)
    rw [hg1] at y0 y1 y2
    exact ⟨by rw [y0.cell]; rfl, by rw [y0.cell]; rfl, by rw [y1.cell]; rfl, by rw [y1.cell]; rfl, by rw [y1.cell]; rfl, by rw [y1.cell]; rfl, by rw [y1.cell]; rfl, by rw [y2.cell]; rfl, by rw [y2.cell]; rfl, by rw [y2.cell]; rfl, by rw [y2.cell]; rfl, by rw [y2.cell]; rfl, by rw [y2.cell]; rfl, y2.is_le⟩
  obtain ⟨f0_, f1_, f2_, f3_, f4_, f5_, f6_, f7_, f8_, f9_, f10_, f11_, f12_, f13_⟩ := HK.out W1 inferInstance
  have X := Lib.hid x
  clear x HX hr
  have H0 := Lib.hid (fun U : World => HW.out a 1 r.regs (by omega) U)
  obtain ⟨q0, hq0⟩ : ∃ q, withinB a 1 r.regs = q := ⟨_, rfl⟩
  rw [hq0] at H0
  rw [hq0]
  clear hq0
  have H1 := Lib.hid (fun U : World => HW.out b 1 (r.init.length : Int) (by omega) U)
  obtain ⟨q1, hq1⟩ : ∃ q, withinB b 1 (r.init.length : Int) = q := ⟨_, rfl⟩
  rw [hq1] at H1
  rw [hq1]
  clear hq1
  clear HW
  cases q0 with
  | false =>
    go_enter Tryd.func55, Tryd.ntmps55
    go_wp2_with fail
    try rw [hW1]
    try rw [hg1]
    clear hW1 hg1
    go_quiet (fail)
    go_wp2_with fail
    refine (H0.out _).mono ?_
    rintro e w2 ⟨rfl, rfl⟩
    go_wp2_with fail
    go_ret
    exact ⟨rfl, by first | exact a1 | exact after_after a1 inferInstance | exact aw5 | exact after_after aw5 inferInstance⟩
  | true =>
    cases q1 with
    | false =>
      go_enter Tryd.func55, Tryd.ntmps55
      go_wp2_with fail
      try rw [hW1]
      try rw [hg1]
      clear hW1 hg1
      go_quiet (fail)
      go_wp2_with fail
      refine (H0.out _).mono ?_
      rintro e w2 ⟨rfl, rfl⟩
      go_wp2_with fail
      refine (H1.out _).mono ?_
      rintro e w2 ⟨rfl, rfl⟩
      go_wp2_with fail
      go_ret
      exact ⟨rfl, by first | exact a1 | exact after_after a1 inferInstance | exact aw5 | exact after_after aw5 inferInstance⟩
    | true =>
      go_enter Tryd.func55, Tryd.ntmps55
      go_wp2_with fail
      try rw [hW1]
      try rw [hg1]
      clear hW1 hg1
      go_quiet (fail)
      go_wp2_with fail
      refine (H0.out _).mono ?_
      rintro e w2 ⟨rfl, rfl⟩
      go_wp2_with fail
      refine (H1.out _).mono ?_
      rintro e w2 ⟨rfl, rfl⟩
      go_wp2_with fail
      go_ret
      exact ⟨rfl, by first | exact a1 | exact after_after a1 inferInstance | exact aw5 | exact after_after aw5 inferInstance⟩

set_option maxRecDepth 100000 in
set_option maxHeartbeats 8000000 in
theorem rranges_4 {w0 : World} {A c_ A' cm_ m} (x : RIm w0 A c_ A' cm_ m) (w : World) (hw : After w0 w) (k_ : Nat) (hk_ : k_ < m.rts.length) (r : Rtn) (hr : m.rts[k_]? = some r) (hreg : r.regs ≤ 32768) (a b c d : Int) :
    Calls Tryd.prog 55 #[.agg #[.slice A m.enums.length c_, .slice A' m.rts.length cm_], .int .i64 k_, .agg #[.int .i64 4, .int .i64 a, .int .i64 b, .int .i64 c, .int .i64 d]] w fun e w' => e = .returned (.bool (rangeB m r k_ ⟨4, a, b, c, d⟩)) ∧ After w w' := by
  rw [rangeB_4]
  have hl_ := x.rts.len
  have hkI : (k_ : Int) < (m.rts.length : Int) := by omega
  obtain ⟨b0, p0, s, A1, c1, A2, c2, A3, c3, A4, c4, r9, rfl, hle_, HX, HR, e0, e1, e2, e3, e4, e5⟩ := (x.rts.here w).part hk_
  obtain rfl : r = r9 := by
    have h1 := HX.out
    rw [hr] at h1
    injection h1 with h1
  have hin3 := HR.out.init.len
  have HW := Lib.hid (fun (q n v : Int) (hv : v ≤ 9223372036854775807) (U : World) => rwithin_any q n v U hv)
  obtain ⟨g1, hg1⟩ : ∃ g1, w.heap.size = g1 := ⟨_, rfl⟩
  obtain ⟨W1, hW1, HK, a1⟩ : ∃ W1, (((w.alloc (.cells #[.slice A m.enums.length c_, .slice (some ⟨b0, p0, none⟩) m.rts.length cm_] 29)).alloc (.cells #[.int .i64 4, .int .i64 a, .int .i64 b, .int .i64 c, .int .i64 d] 61)).alloc (.cells #[.string s, .slice A1 r.ins.length c1, .slice A2 r.outs.length c2, .int .i64 r.regs, .slice A3 r.init.length c3, .slice A4 r.code.length c4] 52)) = W1 ∧ Hid (∀ U : World, After W1 U → U.cell? ⟨g1, 0, none⟩ = some (.slice A m.enums.length c_) ∧ U.cell? ⟨g1, 1, none⟩ = some (.slice (some ⟨b0, p0, none⟩) m.rts.length cm_) ∧ U.cell? ⟨g1 + 1, 0, none⟩ = some (.int .i64 4) ∧ U.cell? ⟨g1 + 1, 1, none⟩ = some (.int .i64 a) ∧ U.cell? ⟨g1 + 1, 2, none⟩ = some (.int .i64 b) ∧ U.cell? ⟨g1 + 1, 3, none⟩ = some (.int .i64 c) ∧ U.cell? ⟨g1 + 1, 4, none⟩ = some (.int .i64 d) ∧ U.cell? ⟨g1 + 2, 0, none⟩ = some (.string s) ∧ U.cell? ⟨g1 + 2, 1, none⟩ = some (.slice A1 r.ins.length c1) ∧ U.cell? ⟨g1 + 2, 2, none⟩ = some (.slice A2 r.outs.length c2) ∧ U.cell? ⟨g1 + 2, 3, none⟩ = some (.int .i64 r.regs) ∧ U.cell? ⟨g1 + 2, 4, none⟩ = some (.slice A3 r.init.length c3) ∧ U.cell? ⟨g1 + 2, 5, none⟩ = some (.slice A4 r.code.length c4) ∧ Le (g1 + 3) U) ∧ After w W1 := by
    refine ⟨_, rfl, fun U hU => ?_, inferInstance⟩
    have y0 := (((Blk.new w 29 #[.slice A m.enums.length c_, .slice (some ⟨b0, p0, none⟩) m.rts.length cm_]).alloc (.cells #[.int .i64 4, .int .i64 a, .int .i64 b, .int .i64 c, .int .i64 d] 61)).alloc (.cells #[.string s, .slice A1 r.ins.length c1, .slice A2 r.outs.length c2, .int .i64 r.regs, .slice A3 r.init.length c3, .slice A4 r.code.length c4] 52)).after (w' := U)
    have y1 := ((Blk.new1 w (.cells #[.slice A m.enums.length c_, .slice (some ⟨b0, p0, none⟩) m.rts.length cm_] 29) 61 #[.int .i64 4, .int .i64 a, .int .i64 b, .int .i64 c, .int .i64 d]).alloc (.cells #[.string s, .slice A1 r.ins.length c1, .slice A2 r.outs.length c2, .int .i64 r.regs, .slice A3 r.init.length c3, .slice A4 r.code.length c4] 52)).after (w' := U)
    have y2 := (Blk.new2 w (.cells #[.slice A m.enums.length c_, .slice (some ⟨b0, p0, none⟩) m.rts.length cm_] 29) (.cells #[.int .i64 4, .int .i64 a, .int .i64 b, .int .i64 c, .int .i64 d] 61) 52 #[.string s, .slice A1 r.ins.length c1, .slice A2 r.outs.length c2, .int .i64 r.regs, .slice A3 r.init.length c3, .slice A4 r.code.length c4]).after (w' := U)
    rw [hg1] at y0 y1 y2
    exact ⟨by rw [y0.cell]; rfl, by rw [y0.cell]; rfl, by rw [y1.cell]; rfl, by rw [y1.cell]; rfl, by rw [y1.cell]; rfl, by rw [y1.cell]; rfl, by rw [y1.cell]; rfl, by rw [y2.cell]; rfl, by rw [y2.cell]; rfl, by rw [y2.cell]; rfl, by rw [y2.cell]; rfl, by rw [y2.cell]; rfl, by rw [y2.cell]; rfl, y2.is_le⟩
  obtain ⟨f0_, f1_, f2_, f3_, f4_, f5_, f6_, f7_, f8_, f9_, f10_, f11_, f12_, f13_⟩ := HK.out W1 inferInstance
  have X := Lib.hid x
  clear x HX hr
  have H0 := Lib.hid (fun U : World => HW.out a 1 (r.init.length : Int) (by omega) U)
  obtain ⟨q0, hq0⟩ : ∃ q, withinB a 1 (r.init.length : Int) = q := ⟨_, rfl⟩
  rw [hq0] at H0
  rw [hq0]
  clear hq0
  have H1 := Lib.hid (fun U : World => HW.out b 1 r.regs (by omega) U)
  obtain ⟨q1, hq1⟩ : ∃ q, withinB b 1 r.regs = q := ⟨_, rfl⟩
  rw [hq1] at H1
  rw [hq1]
  clear hq1
  clear HW
  cases q0 with
  | false =>
    go_enter Tryd.func55, Tryd.ntmps55
    go_wp2_with fail
    try rw [hW1]
    try rw [hg1]
    clear hW1 hg1
    go_quiet (fail)
    go_wp2_with fail
    refine (H0.out _).mono ?_
    rintro e w2 ⟨rfl, rfl⟩
    go_wp2_with fail
    go_ret
    exact ⟨rfl, by first | exact a1 | exact after_after a1 inferInstance | exact aw5 | exact after_after aw5 inferInstance⟩
  | true =>
    cases q1 with
    | false =>
      go_enter Tryd.func55, Tryd.ntmps55
      go_wp2_with fail
      try rw [hW1]
      try rw [hg1]
      clear hW1 hg1
      go_quiet (fail)
      go_wp2_with fail
      refine (H0.out _).mono ?_
      rintro e w2 ⟨rfl, rfl⟩
      go_wp2_with fail
      refine (H1.out _).mono ?_
      rintro e w2 ⟨rfl, rfl⟩
      go_wp2_with fail
      go_ret
      exact ⟨rfl, by first | exact a1 | exact after_after a1 inferInstance | exact aw5 | exact after_after aw5 inferInstance⟩
    | true =>
      go_enter Tryd.func55, Tryd.ntmps55
      go_wp2_with fail
      try rw [hW1]
      try rw [hg1]
      clear hW1 hg1
      go_quiet (fail)
      go_wp2_with fail
      refine (H0.out _).mono ?_
      rintro e w2 ⟨rfl, rfl⟩
      go_wp2_with fail
      refine (H1.out _).mono ?_
      rintro e w2 ⟨rfl, rfl⟩
      go_wp2_with fail
      go_ret
      exact ⟨rfl, by first | exact a1 | exact after_after a1 inferInstance | exact aw5 | exact after_after aw5 inferInstance⟩

set_option maxRecDepth 100000 in
set_option maxHeartbeats 8000000 in
theorem rranges_5 {w0 : World} {A c_ A' cm_ m} (x : RIm w0 A c_ A' cm_ m) (w : World) (hw : After w0 w) (k_ : Nat) (hk_ : k_ < m.rts.length) (r : Rtn) (hr : m.rts[k_]? = some r) (hreg : r.regs ≤ 32768) (a b c d : Int) :
    Calls Tryd.prog 55 #[.agg #[.slice A m.enums.length c_, .slice A' m.rts.length cm_], .int .i64 k_, .agg #[.int .i64 5, .int .i64 a, .int .i64 b, .int .i64 c, .int .i64 d]] w fun e w' => e = .returned (.bool (rangeB m r k_ ⟨5, a, b, c, d⟩)) ∧ After w w' := by
  rw [rangeB_5]
  have hl_ := x.rts.len
  have hkI : (k_ : Int) < (m.rts.length : Int) := by omega
  obtain ⟨b0, p0, s, A1, c1, A2, c2, A3, c3, A4, c4, r9, rfl, hle_, HX, HR, e0, e1, e2, e3, e4, e5⟩ := (x.rts.here w).part hk_
  obtain rfl : r = r9 := by
    have h1 := HX.out
    rw [hr] at h1
    injection h1 with h1
  have hin3 := HR.out.init.len
  have HW := Lib.hid (fun (q n v : Int) (hv : v ≤ 9223372036854775807) (U : World) => rwithin_any q n v U hv)
  obtain ⟨g1, hg1⟩ : ∃ g1, w.heap.size = g1 := ⟨_, rfl⟩
  obtain ⟨W1, hW1, HK, a1⟩ : ∃ W1, (((w.alloc (.cells #[.slice A m.enums.length c_, .slice (some ⟨b0, p0, none⟩) m.rts.length cm_] 29)).alloc (.cells #[.int .i64 5, .int .i64 a, .int .i64 b, .int .i64 c, .int .i64 d] 61)).alloc (.cells #[.string s, .slice A1 r.ins.length c1, .slice A2 r.outs.length c2, .int .i64 r.regs, .slice A3 r.init.length c3, .slice A4 r.code.length c4] 52)) = W1 ∧ Hid (∀ U : World, After W1 U → U.cell? ⟨g1, 0, none⟩ = some (.slice A m.enums.length c_) ∧ U.cell? ⟨g1, 1, none⟩ = some (.slice (some ⟨b0, p0, none⟩) m.rts.length cm_) ∧ U.cell? ⟨g1 + 1, 0, none⟩ = some (.int .i64 5) ∧ U.cell? ⟨g1 + 1, 1, none⟩ = some (.int .i64 a) ∧ U.cell? ⟨g1 + 1, 2, none⟩ = some (.int .i64 b) ∧ U.cell? ⟨g1 + 1, 3, none⟩ = some (.int .i64 c) ∧ U.cell? ⟨g1 + 1, 4, none⟩ = some (.int .i64 d) ∧ U.cell? ⟨g1 + 2, 0, none⟩ = some (.string s) ∧ U.cell? ⟨g1 + 2, 1, none⟩ = some (.slice A1 r.ins.length c1) ∧ U.cell? ⟨g1 + 2, 2, none⟩ = some (.slice A2 r.outs.length c2) ∧ U.cell? ⟨g1 + 2, 3, none⟩ = some (.int .i64 r.regs) ∧ U.cell? ⟨g1 + 2, 4, none⟩ = some (.slice A3 r.init.length c3) ∧ U.cell? ⟨g1 + 2, 5, none⟩ = some (.slice A4 r.code.length c4) ∧ Le (g1 + 3) U) ∧ After w W1 := by
    refine ⟨_, rfl, fun U hU => ?_, inferInstance⟩
    have y0 := (((Blk.new w 29 #[.slice A m.enums.length c_, .slice (some ⟨b0, p0, none⟩) m.rts.length cm_]).alloc (.cells #[.int .i64 5, .int .i64 a, .int .i64 b, .int .i64 c, .int .i64 d] 61)).alloc (.cells #[.string s, .slice A1 r.ins.length c1, .slice A2 r.outs.length c2, .int .i64 r.regs, .slice A3 r.init.length c3, .slice A4 r.code.length c4] 52)).after (w' := U)
    have y1 := ((Blk.new1 w (.cells #[.slice A m.enums.length c_, .slice (some ⟨b0, p0, none⟩) m.rts.length cm_] 29) 61 #[.int .i64 5, .int .i64 a, .int .i64 b, .int .i64 c, .int .i64 d]).alloc (.cells #[.string s, .slice A1 r.ins.length c1, .slice A2 r.outs.length c2, .int .i64 r.regs, .slice A3 r.init.length c3, .slice A4 r.code.length c4] 52)).after (w' := U)
    have y2 := (Blk.new2 w (.cells #[.slice A m.enums.length c_, .slice (some ⟨b0, p0, none⟩) m.rts.length cm_] 29) (.cells #[.int .i64 5, .int .i64 a, .int .i64 b, .int .i64 c, .int .i64 d] 61) 52 #[.string s, .slice A1 r.ins.length c1, .slice A2 r.outs.length c2, .int .i64 r.regs, .slice A3 r.init.length c3, .slice A4 r.code.length c4]).after (w' := U)
    rw [hg1] at y0 y1 y2
    exact ⟨by rw [y0.cell]; rfl, by rw [y0.cell]; rfl, by rw [y1.cell]; rfl, by rw [y1.cell]; rfl, by rw [y1.cell]; rfl, by rw [y1.cell]; rfl, by rw [y1.cell]; rfl, by rw [y2.cell]; rfl, by rw [y2.cell]; rfl, by rw [y2.cell]; rfl, by rw [y2.cell]; rfl, by rw [y2.cell]; rfl, by rw [y2.cell]; rfl, y2.is_le⟩
  obtain ⟨f0_, f1_, f2_, f3_, f4_, f5_, f6_, f7_, f8_, f9_, f10_, f11_, f12_, f13_⟩ := HK.out W1 inferInstance
  have X := Lib.hid x
  clear x HX hr
  have H0 := Lib.hid (fun U : World => HW.out a 1 r.regs (by omega) U)
  obtain ⟨q0, hq0⟩ : ∃ q, withinB a 1 r.regs = q := ⟨_, rfl⟩
  rw [hq0] at H0
  rw [hq0]
  clear hq0
  have H1 := Lib.hid (fun U : World => HW.out b 1 r.regs (by omega) U)
  obtain ⟨q1, hq1⟩ : ∃ q, withinB b 1 r.regs = q := ⟨_, rfl⟩
  rw [hq1] at H1
  rw [hq1]
  clear hq1
  clear HW
  cases q0 with
  | false =>
    go_enter Tryd.func55, Tryd.ntmps55
    go_wp2_with fail
    try rw [hW1]
    try rw [hg1]
    clear hW1 hg1
    go_quiet (fail)
    go_wp2_with fail
    refine (H0.out _).mono ?_
    rintro e w2 ⟨rfl, rfl⟩
    go_wp2_with fail
    go_ret
    exact ⟨rfl, by first | exact a1 | exact after_after a1 inferInstance | exact aw5 | exact after_after aw5 inferInstance⟩
  | true =>
    cases q1 with
    | false =>
      go_enter Tryd.func55, Tryd.ntmps55
      go_wp2_with fail
      try rw [hW1]
      try rw [hg1]
      clear hW1 hg1
      go_quiet (fail)
      go_wp2_with fail
      refine (H0.out _).mono ?_
      rintro e w2 ⟨rfl, rfl⟩
      go_wp2_with fail
      refine (H1.out _).mono ?_
      rintro e w2 ⟨rfl, rfl⟩
      go_wp2_with fail
      go_ret
      exact ⟨rfl, by first | exact a1 | exact after_after a1 inferInstance | exact aw5 | exact after_after aw5 inferInstance⟩
    | true =>
      go_enter Tryd.func55, Tryd.ntmps55
      go_wp2_with fail
      try rw [hW1]
      try rw [hg1]
      clear hW1 hg1
      go_quiet (fail)
      go_wp2_with fail
      refine (H0.out _).mono ?_
      rintro e w2 ⟨rfl, rfl⟩
      go_wp2_with fail
      refine (H1.out _).mono ?_
      rintro e w2 ⟨rfl, rfl⟩
      go_wp2_with fail
      go_ret
      exact ⟨rfl, by first | exact a1 | exact after_after a1 inferInstance | exact aw5 | exact after_after aw5 inferInstance⟩

set_option maxRecDepth 100000 in
set_option maxHeartbeats 8000000 in
theorem rranges_6 {w0 : World} {A c_ A' cm_ m} (x : RIm w0 A c_ A' cm_ m) (w : World) (hw : After w0 w) (k_ : Nat) (hk_ : k_ < m.rts.length) (r : Rtn) (hr : m.rts[k_]? = some r) (hreg : r.regs ≤ 32768) (a b c d : Int) :
    Calls Tryd.prog 55 #[.agg #[.slice A m.enums.length c_, .slice A' m.rts.length cm_], .int .i64 k_, .agg #[.int .i64 6, .int .i64 a, .int .i64 b, .int .i64 c, .int .i64 d]] w fun e w' => e = .returned (.bool (rangeB m r k_ ⟨6, a, b, c, d⟩)) ∧ After w w' := by
  rw [rangeB_6]
  have hl_ := x.rts.len
  have hkI : (k_ : Int) < (m.rts.length : Int) := by omega
  obtain ⟨b0, p0, s, A1, c1, A2, c2, A3, c3, A4, c4, r9, rfl, hle_, HX, HR, e0, e1, e2, e3, e4, e5⟩ := (x.rts.here w).part hk_
  obtain rfl : r = r9 := by
    have h1 := HX.out
    rw [hr] at h1
    injection h1 with h1
  have hin3 := HR.out.init.len
  have HW := Lib.hid (fun (q n v : Int) (hv : v ≤ 9223372036854775807) (U : World) => rwithin_any q n v U hv)
  obtain ⟨g1, hg1⟩ : ∃ g1, w.heap.size = g1 := ⟨_, rfl⟩
  obtain ⟨W1, hW1, HK, a1⟩ : ∃ W1, (((w.alloc (.cells #[.slice A m.enums.length c_, .slice (some ⟨b0, p0, none⟩) m.rts.length cm_] 29)).alloc (.cells #[.int .i64 6, .int .i64 a, .int .i64 b, .int .i64 c, .int .i64 d] 61)).alloc (.cells #[.string s, .slice A1 r.ins.length c1, .slice A2 r.outs.length c2, .int .i64 r.regs, .slice A3 r.init.length c3, .slice A4 r.code.length c4] 52)) = W1 ∧ Hid (∀ U : World, After W1 U → U.cell? ⟨g1, 0, none⟩ = some (.slice A m.enums.length c_) ∧ U.cell? ⟨g1, 1, none⟩ = some (.slice (some ⟨b0, p0, none⟩) m.rts.length cm_) ∧ U.cell? ⟨g1 + 1, 0, none⟩ = some (.int .i64 6) ∧ U.cell? ⟨g1 + 1, 1, none⟩ = some (.int .i64 a) ∧ U.cell? ⟨g1 + 1, 2, none⟩ = some (.int .i64 b) ∧ U.cell? ⟨g1 + 1, 3, none⟩ = some (.int .i64 c) ∧ U.cell? ⟨g1 + 1, 4, none⟩ = some (.int .i64 d) ∧ U.cell? ⟨g1 + 2, 0, none⟩ = some (.string s) ∧ U.cell? ⟨g1 + 2, 1, none⟩ = some (.slice A1 r.ins.length c1) ∧ U.cell? ⟨g1 + 2, 2, none⟩ = some (.slice A2 r.outs.length c2) ∧ U.cell? ⟨g1 + 2, 3, none⟩ = some (.int .i64 r.regs) ∧ U.cell? ⟨g1 + 2, 4, none⟩ = some (.slice A3 r.init.length c3) ∧ U.cell? ⟨g1 + 2, 5, none⟩ = some (.slice A4 r.code.length c4) ∧ Le (g1 + 3) U) ∧ After w W1 := by
    refine ⟨_, rfl, fun U hU => ?_, inferInstance⟩
    have y0 := (((Blk.new w 29 #[.slice A m.enums.length c_, .slice (some ⟨b0, p0, none⟩) m.rts.length cm_]).alloc (.cells #[.int .i64 6, .int .i64 a, .int .i64 b, .int .i64 c, .int .i64 d] 61)).alloc (.cells #[.string s, .slice A1 r.ins.length c1, .slice A2 r.outs.length c2, .int .i64 r.regs, .slice A3 r.init.length c3, .slice A4 r.code.length c4] 52)).after (w' := U)
    have y1 := ((Blk.new1 w (.cells #[.slice A m.enums.length c_, .slice (some ⟨b0, p0, none⟩) m.rts.length cm_] 29) 61 #[.int .i64 6, .int .i64 a, .int .i64 b, .int .i64 c, .int .i64 d]).alloc (.cells #[.string s, .slice A1 r.ins.length c1, .slice A2 r.outs.length c2, .int .i64 r.regs, .slice A3 r.init.length c3, .slice A4 r.code.length c4] 52)).after (w' := U)
    have y2 := (Blk.new2 w (.cells #[.slice A m.enums.length c_, .slice (some ⟨b0, p0, none⟩) m.rts.length cm_] 29) (.cells #[.int .i64 6, .int .i64 a, .int .i64 b, .int .i64 c, .int .i64 d] 61) 52 #[.string s, .slice A1 r.ins.length c1, .slice A2 r.outs.length c2, .int .i64 r.regs, .slice A3 r.init.length c3, .slice A4 r.code.length c4]).after (w' := U)
    rw [hg1] at y0 y1 y2
    exact ⟨by rw [y0.cell]; rfl, by rw [y0.cell]; rfl, by rw [y1.cell]; rfl, by rw [y1.cell]; rfl, by rw [y1.cell]; rfl, by rw [y1.cell]; rfl, by rw [y1.cell]; rfl, by rw [y2.cell]; rfl, by rw [y2.cell]; rfl, by rw [y2.cell]; rfl, by rw [y2.cell]; rfl, by rw [y2.cell]; rfl, by rw [y2.cell]; rfl, y2.is_le⟩
  obtain ⟨f0_, f1_, f2_, f3_, f4_, f5_, f6_, f7_, f8_, f9_, f10_, f11_, f12_, f13_⟩ := HK.out W1 inferInstance
  have X := Lib.hid x
  clear x HX hr
  have H0 := Lib.hid (fun U : World => HW.out a 1 r.regs (by omega) U)
  obtain ⟨q0, hq0⟩ : ∃ q, withinB a 1 r.regs = q := ⟨_, rfl⟩
  rw [hq0] at H0
  rw [hq0]
  clear hq0
  have H1 := Lib.hid (fun U : World => HW.out b 1 r.regs (by omega) U)
  obtain ⟨q1, hq1⟩ : ∃ q, withinB b 1 r.regs = q := ⟨_, rfl⟩
  rw [hq1] at H1
  rw [hq1]
  clear hq1
  have H2 := Lib.hid (fun U : World => HW.out c 1 r.regs (by omega) U)
  obtain ⟨q2, hq2⟩ : ∃ q, withinB c 1 r.regs = q := ⟨_, rfl⟩
  rw [hq2] at H2
  rw [hq2]
  clear hq2
  clear HW
  cases q0 with
  | false =>
    go_enter Tryd.func55, Tryd.ntmps55
    go_wp2_with fail
    try rw [hW1]
    try rw [hg1]
    clear hW1 hg1
    go_quiet (fail)
    go_wp2_with fail
    refine (H0.out _).mono ?_
    rintro e w2 ⟨rfl, rfl⟩
    go_wp2_with fail
    go_ret
    exact ⟨rfl, by first | exact a1 | exact after_after a1 inferInstance | exact aw5 | exact after_after aw5 inferInstance⟩
  | true =>
    cases q1 with
    | false =>
      go_enter Tryd.func55, Tryd.ntmps55
      go_wp2_with fail
      try rw [hW1]
      try rw [hg1]
      clear hW1 hg1
      go_quiet (fail)
      go_wp2_with fail
      refine (H0.out _).mono ?_
      rintro e w2 ⟨rfl, rfl⟩
      go_wp2_with fail
      refine (H1.out _).mono ?_
      rintro e w2 ⟨rfl, rfl⟩
      go_wp2_with fail
      go_ret
      exact ⟨rfl, by first | exact a1 | exact after_after a1 inferInstance | exact aw5 | exact after_after aw5 inferInstance⟩
    | true =>
      cases q2 with
      | false =>
        go_enter Tryd.func55, Tryd.ntmps55
        go_wp2_with fail
        try rw [hW1]
        try rw [hg1]
        clear hW1 hg1
        go_quiet (fail)
        go_wp2_with fail
        refine (H0.out _).mono ?_
        rintro e w2 ⟨rfl, rfl⟩
        go_wp2_with fail
        refine (H1.out _).mono ?_
        rintro e w2 ⟨rfl, rfl⟩
        go_wp2_with fail
        refine (H2.out _).mono ?_
        rintro e w2 ⟨rfl, rfl⟩
        go_wp2_with fail
        go_ret
        exact ⟨rfl, by first | exact a1 | exact after_after a1 inferInstance | exact aw5 | exact after_after aw5 inferInstance⟩
      | true =>
        go_enter Tryd.func55, Tryd.ntmps55
        go_wp2_with fail
        try rw [hW1]
        try rw [hg1]
        clear hW1 hg1
        go_quiet (fail)
        go_wp2_with fail
        refine (H0.out _).mono ?_
        rintro e w2 ⟨rfl, rfl⟩
        go_wp2_with fail
        refine (H1.out _).mono ?_
        rintro e w2 ⟨rfl, rfl⟩
        go_wp2_with fail
        refine (H2.out _).mono ?_
        rintro e w2 ⟨rfl, rfl⟩
        go_wp2_with fail
        go_ret
        exact ⟨rfl, by first | exact a1 | exact after_after a1 inferInstance | exact aw5 | exact after_after aw5 inferInstance⟩

set_option maxRecDepth 100000 in
set_option maxHeartbeats 8000000 in
theorem rranges_7 {w0 : World} {A c_ A' cm_ m} (x : RIm w0 A c_ A' cm_ m) (w : World) (hw : After w0 w) (k_ : Nat) (hk_ : k_ < m.rts.length) (r : Rtn) (hr : m.rts[k_]? = some r) (hreg : r.regs ≤ 32768) (a b c d : Int) :
    Calls Tryd.prog 55 #[.agg #[.slice A m.enums.length c_, .slice A' m.rts.length cm_], .int .i64 k_, .agg #[.int .i64 7, .int .i64 a, .int .i64 b, .int .i64 c, .int .i64 d]] w fun e w' => e = .returned (.bool (rangeB m r k_ ⟨7, a, b, c, d⟩)) ∧ After w w' := by
  rw [rangeB_7]
  have hl_ := x.rts.len
  have hkI : (k_ : Int) < (m.rts.length : Int) := by omega
  obtain ⟨b0, p0, s, A1, c1, A2, c2, A3, c3, A4, c4, r9, rfl, hle_, HX, HR, e0, e1, e2, e3, e4, e5⟩ := (x.rts.here w).part hk_
  obtain rfl : r = r9 := by
    have h1 := HX.out
    rw [hr] at h1
    injection h1 with h1
  have hin3 := HR.out.init.len
  have HW := Lib.hid (fun (q n v : Int) (hv : v ≤ 9223372036854775807) (U : World) => rwithin_any q n v U hv)
  obtain ⟨g1, hg1⟩ : ∃ g1, w.heap.size = g1 := ⟨_, rfl⟩
  obtain ⟨W1, hW1, HK, a1⟩ : ∃ W1, (((w.alloc (.cells #[.slice A m.enums.length c_, .slice (some ⟨b0, p0, none⟩) m.rts.length cm_] 29)).alloc (.cells #[.int .i64 7, .int .i64 a, .int .i64 b, .int .i64 c, .int .i64 d] 61)).alloc (.cells #[.string s, .slice A1 r.ins.length c1, .slice A2 r.outs.length c2, .int .i64 r.regs, .slice A3 r.init.length c3, .slice A4 r.code.length c4] 52)) = W1 ∧ Hid (∀ U : World, After W1 U → U.cell? ⟨g1, 0, none⟩ = some (.slice A m.enums.length c_) ∧ U.cell? ⟨g1, 1, none⟩ = some (.slice (some ⟨b0, p0, none⟩) m.rts.length cm_) ∧ U.cell? ⟨g1 + 1, 0, none⟩ = some (.int .i64 7) ∧ U.cell? ⟨g1 + 1, 1, none⟩ = some (.int .i64 a) ∧ U.cell? ⟨g1 + 1, 2, none⟩ = some (.int .i64 b) ∧ U.cell? ⟨g1 + 1, 3, none⟩ = some (.int .i64 c) ∧ U.cell? ⟨g1 + 1, 4, none⟩ = some (.int .i64 d) ∧ U.cell? ⟨g1 + 2, 0, none⟩ = some (.string s) ∧ U.cell? ⟨g1 + 2, 1, none⟩ = some (.slice A1 r.ins.length c1) ∧ U.cell? ⟨g1 + 2, 2, none⟩ = some (.slice A2 r.outs.length c2) ∧ U.cell? ⟨g1 + 2, 3, none⟩ = some (.int .i64 r.regs) ∧ U.cell? ⟨g1 + 2, 4, none⟩ = some (.slice A3 r.init.length c3) ∧ U.cell? ⟨g1 + 2, 5, none⟩ = some (.slice A4 r.code.length c4) ∧ Le (g1 + 3) U) ∧ After w W1 := by
    refine ⟨_, rfl, fun U hU => ?_, inferInstance⟩
    have y0 := (((Blk.new w 29 #[.slice A m.enums.length c_, .slice (some ⟨b0, p0, none⟩) m.rts.length cm_]).alloc (.cells #[.int .i64 7, .int .i64 a, .int .i64 b, .int .i64 c, .int .i64 d] 61)).alloc (.cells #[.string s, .slice A1 r.ins.length c1, .slice A2 r.outs.length c2, .int .i64 r.regs, .slice A3 r.init.length c3, .slice A4 r.code.length c4] 52)).after (w' := U)
    have y1 := ((Blk.new1 w (.cells #[.slice A m.enums.length c_, .slice (some ⟨b0, p0, none⟩) m.rts.length cm_] 29) 61 #[.int .i64 7, .int .i64 a, .int .i64 b, .int .i64 c, .int .i64 d]).alloc (.cells #[.string s, .slice A1 r.ins.length c1, .slice A2 r.outs.length c2, .int .i64 r.regs, .slice A3 r.init.length c3, .slice A4 r.code.length c4] 52)).after (w' := U)
    have y2 := (Blk.new2 w (.cells #[.slice A m.enums.length c_, .slice (some ⟨b0, p0, none⟩) m.rts.length cm_] 29) (.cells #[.int .i64 7, .int .i64 a, .int .i64 b, .int .i64 c, .int .i64 d] 61) 52 #[.string s, .slice A1 r.ins.length c1, .slice A2 r.outs.length c2, .int .i64 r.regs, .slice A3 r.init.length c3, .slice A4 r.code.length c4]).after (w' := U)
    rw [hg1] at y0 y1 y2
    exact ⟨by rw [y0.cell]; rfl, by rw [y0.cell]; rfl, by rw [y1.cell]; rfl, by rw [y1.cell]; rfl, by rw [y1.cell]; rfl, by rw [y1.cell]; rfl, by rw [y1.cell]; rfl, by rw [y2.cell]; rfl, by rw [y2.cell]; rfl, by rw [y2.cell]; rfl, by rw [y2.cell]; rfl, by rw [y2.cell]; rfl, by rw [y2.cell]; rfl, y2.is_le⟩
  obtain ⟨f0_, f1_, f2_, f3_, f4_, f5_, f6_, f7_, f8_, f9_, f10_, f11_, f12_, f13_⟩ := HK.out W1 inferInstance
  have X := Lib.hid x
  clear x HX hr
  clear HW
  go_enter Tryd.func55, Tryd.ntmps55
  go_wp2_with fail
  try rw [hW1]
  try rw [hg1]
  clear hW1 hg1
  go_quiet (fail)
  go_wp2_with fail
  go_ret
  exact ⟨rfl, by first | exact a1 | exact after_after a1 inferInstance | exact aw5 | exact after_after aw5 inferInstance⟩

set_option maxRecDepth 100000 in
set_option maxHeartbeats 8000000 in
theorem rranges_8 {w0 : World} {A c_ A' cm_ m} (x : RIm w0 A c_ A' cm_ m) (w : World) (hw : After w0 w) (k_ : Nat) (hk_ : k_ < m.rts.length) (r : Rtn) (hr : m.rts[k_]? = some r) (hreg : r.regs ≤ 32768) (a b c d : Int) :
    Calls Tryd.prog 55 #[.agg #[.slice A m.enums.length c_, .slice A' m.rts.length cm_], .int .i64 k_, .agg #[.int .i64 8, .int .i64 a, .int .i64 b, .int .i64 c, .int .i64 d]] w fun e w' => e = .returned (.bool (rangeB m r k_ ⟨8, a, b, c, d⟩)) ∧ After w w' := by
  rw [rangeB_8]
  have hl_ := x.rts.len
  have hkI : (k_ : Int) < (m.rts.length : Int) := by omega
  obtain ⟨b0, p0, s, A1, c1, A2, c2, A3, c3, A4, c4, r9, rfl, hle_, HX, HR, e0, e1, e2, e3, e4, e5⟩ := (x.rts.here w).part hk_
  obtain rfl : r = r9 := by
    have h1 := HX.out
    rw [hr] at h1
    injection h1 with h1
  have hin3 := HR.out.init.len
  have HW := Lib.hid (fun (q n v : Int) (hv : v ≤ 9223372036854775807) (U : World) => rwithin_any q n v U hv)
  obtain ⟨g1, hg1⟩ : ∃ g1, w.heap.size = g1 := ⟨_, rfl⟩
  obtain ⟨W1, hW1, HK, a1⟩ : ∃ W1, (((w.alloc (.cells #[.slice A m.enums.length c_, .slice (some ⟨b0, p0, none⟩) m.rts.length cm_] 29)).alloc (.cells #[.int .i64 8, .int .i64 a, .int .i64 b, .int .i64 c, .int .i64 d] 61)).alloc (.cells #[.string s, .slice A1 r.ins.length c1, .slice A2 r.outs.length c2, .int .i64 r.regs, .slice A3 r.init.length c3, .slice A4 r.code.length c4] 52)) = W1 ∧ Hid (∀ U : World, After W1 U → U.cell? ⟨g1, 0, none⟩ = some (.slice A m.enums.length c_) ∧ U.cell? ⟨g1, 1, none⟩ = some (.slice (some ⟨b0, p0, none⟩) m.rts.length cm_) ∧ U.cell? ⟨g1 + 1, 0, none⟩ = some (.int .i64 8) ∧ U.cell? ⟨g1 + 1, 1, none⟩ = some (.int .i64 a) ∧ U.cell? ⟨g1 + 1, 2, none⟩ = some (.int .i64 b) ∧ U.cell? ⟨g1 + 1, 3, none⟩ = some (.int .i64 c) ∧ U.cell? ⟨g1 + 1, 4, none⟩ = some (.int .i64 d) ∧ U.cell? ⟨g1 + 2, 0, none⟩ = some (.string s) ∧ U.cell? ⟨g1 + 2, 1, none⟩ = some (.slice A1 r.ins.length c1) ∧ U.cell? ⟨g1 + 2, 2, none⟩ = some (.slice A2 r.outs.length c2) ∧ U.cell? ⟨g1 + 2, 3, none⟩ = some (.int .i64 r.regs) ∧ U.cell? ⟨g1 + 2, 4, none⟩ = some (.slice A3 r.init.length c3) ∧ U.cell? ⟨g1 + 2, 5, none⟩ = some (.slice A4 r.code.length c4) ∧ Le (g1 + 3) U) ∧ After w W1 := by
    refine ⟨_, rfl, fun U hU => ?_, inferInstance⟩
    have y0 := (((Blk.new w 29 #[.slice A m.enums.length c_, .slice (some ⟨b0, p0, none⟩) m.rts.length cm_]).alloc (.cells #[.int .i64 8, .int .i64 a, .int .i64 b, .int .i64 c, .int .i64 d] 61)).alloc (.cells #[.string s, .slice A1 r.ins.length c1, .slice A2 r.outs.length c2, .int .i64 r.regs, .slice A3 r.init.length c3, .slice A4 r.code.length c4] 52)).after (w' := U)
    have y1 := ((Blk.new1 w (.cells #[.slice A m.enums.length c_, .slice (some ⟨b0, p0, none⟩) m.rts.length cm_] 29) 61 #[.int .i64 8, .int .i64 a, .int .i64 b, .int .i64 c, .int .i64 d]).alloc (.cells #[.string s, .slice A1 r.ins.length c1, .slice A2 r.outs.length c2, .int .i64 r.regs, .slice A3 r.init.length c3, .slice A4 r.code.length c4] 52)).after (w' := U)
    have y2 := (Blk.new2 w (.cells #[.slice A m.enums.length c_, .slice (some ⟨b0, p0, none⟩) m.rts.length cm_] 29) (.cells #[.int .i64 8, .int .i64 a, .int .i64 b, .int .i64 c, .int .i64 d] 61) 52 #[.string s, .slice A1 r.ins.length c1, .slice A2 r.outs.length c2, .int .i64 r.regs, .slice A3 r.init.length c3, .slice A4 r.code.length c4]).after (w' := U)
    rw [hg1] at y0 y1 y2
    exact ⟨by rw [y0.cell]; rfl, by rw [y0.cell]; rfl, by rw [y1.cell]; rfl, by rw [y1.cell]; rfl, by rw [y1.cell]; rfl, by rw [y1.cell]; rfl, by rw [y1.cell]; rfl, by rw [y2.cell]; rfl, by rw [y2.cell]; rfl, by rw [y2.cell]; rfl, by rw [y2.cell]; rfl, by rw [y2.cell]; rfl, by rw [y2.cell]; rfl, y2.is_le⟩
  obtain ⟨f0_, f1_, f2_, f3_, f4_, f5_, f6_, f7_, f8_, f9_, f10_, f11_, f12_, f13_⟩ := HK.out W1 inferInstance
  have X := Lib.hid x
  clear x HX hr
  have H0 := Lib.hid (fun U : World => HW.out a 1 r.regs (by omega) U)
  obtain ⟨q0, hq0⟩ : ∃ q, withinB a 1 r.regs = q := ⟨_, rfl⟩
  rw [hq0] at H0
  rw [hq0]
  clear hq0
  clear HW
  cases q0 with
  | false =>
    go_enter Tryd.func55, Tryd.ntmps55
    go_wp2_with fail
    try rw [hW1]
    try rw [hg1]
    clear hW1 hg1
    go_quiet (fail)
    go_wp2_with fail
    refine (H0.out _).mono ?_
    rintro e w2 ⟨rfl, rfl⟩
    go_wp2_with fail
    go_ret
    exact ⟨rfl, by first | exact a1 | exact after_after a1 inferInstance | exact aw5 | exact after_after aw5 inferInstance⟩
  | true =>
    go_enter Tryd.func55, Tryd.ntmps55
    go_wp2_with fail
    try rw [hW1]
    try rw [hg1]
    clear hW1 hg1
    go_quiet (fail)
    go_wp2_with fail
    refine (H0.out _).mono ?_
    rintro e w2 ⟨rfl, rfl⟩
    go_wp2_with fail
    go_ret
    exact ⟨rfl, by first | exact a1 | exact after_after a1 inferInstance | exact aw5 | exact after_after aw5 inferInstance⟩

set_option maxRecDepth 100000 in
set_option maxHeartbeats 8000000 in
theorem rranges_9 {w0 : World} {A c_ A' cm_ m} (x : RIm w0 A c_ A' cm_ m) (w : World) (hw : After w0 w) (k_ : Nat) (hk_ : k_ < m.rts.length) (r : Rtn) (hr : m.rts[k_]? = some r) (hreg : r.regs ≤ 32768) (a b c d : Int) :
    Calls Tryd.prog 55 #[.agg #[.slice A m.enums.length c_, .slice A' m.rts.length cm_], .int .i64 k_, .agg #[.int .i64 9, .int .i64 a, .int .i64 b, .int .i64 c, .int .i64 d]] w fun e w' => e = .returned (.bool (rangeB m r k_ ⟨9, a, b, c, d⟩)) ∧ After w w' := by
  rw [rangeB_9]
  have hl_ := x.rts.len
  have hkI : (k_ : Int) < (m.rts.length : Int) := by omega
  obtain ⟨b0, p0, s, A1, c1, A2, c2, A3, c3, A4, c4, r9, rfl, hle_, HX, HR, e0, e1, e2, e3, e4, e5⟩ := (x.rts.here w).part hk_
  obtain rfl : r = r9 := by
    have h1 := HX.out
    rw [hr] at h1
    injection h1 with h1
  have hin3 := HR.out.init.len
  have HW := Lib.hid (fun (q n v : Int) (hv : v ≤ 9223372036854775807) (U : World) => rwithin_any q n v U hv)
  obtain ⟨g1, hg1⟩ : ∃ g1, w.heap.size = g1 := ⟨_, rfl⟩
  obtain ⟨W1, hW1, HK, a1⟩ : ∃ W1, (((w.alloc (.cells #[.slice A m.enums.length c_, .slice (some ⟨b0, p0, none⟩) m.rts.length cm_] 29)).alloc (.cells #[.int .i64 9, .int .i64 a, .int .i64 b, .int .i64 c, .int .i64 d] 61)).alloc (.cells #[.string s, .slice A1 r.ins.length c1, .slice A2 r.outs.length c2, .int .i64 r.regs, .slice A3 r.init.length c3, .slice A4 r.code.length c4] 52)) = W1 ∧ Hid (∀ U : World, After W1 U → U.cell? ⟨g1, 0, none⟩ = some (.slice A m.enums.length c_) ∧ U.cell? ⟨g1, 1, none⟩ = some (.slice (some ⟨b0, p0, none⟩) m.rts.length cm_) ∧ U.cell? ⟨g1 + 1, 0, none⟩ = some (.int .i64 9) ∧ U.cell? ⟨g1 + 1, 1, none⟩ = some (.int .i64 a) ∧ U.cell? ⟨g1 + 1, 2, none⟩ = some (.int .i64 b) ∧ U.cell? ⟨g1 + 1, 3, none⟩ = some (.int .i64 c) ∧ U.cell? ⟨g1 + 1, 4, none⟩ = some (.int .i64 d) ∧ U.cell? ⟨g1 + 2, 0, none⟩ = some (.string s) ∧ U.cell? ⟨g1 + 2, 1, none⟩ = some (.slice A1 r.ins.length c1) ∧ U.cell? ⟨g1 + 2, 2, none⟩ = some (.slice A2 r.outs.length c2) ∧ U.cell? ⟨g1 + 2, 3, none⟩ = some (.int .i64 r.regs) ∧ U.cell? ⟨g1 + 2, 4, none⟩ = some (.slice A3 r.init.length c3) ∧ U.cell? ⟨g1 + 2, 5, none⟩ = some (.slice A4 r.code.length c4) ∧ Le (g1 + 3) U) ∧ After w W1 := by
    refine ⟨_, rfl, fun U hU => ?_, inferInstance⟩
    have y0 := (((Blk.new w 29 #[.slice A m.enums.length c_, .slice (some ⟨b0, p0, none⟩) m.rts.length cm_]).alloc (.cells #[.int .i64 9, .int .i64 a, .int .i64 b, .int .i64 c, .int .i64 d] 61)).alloc (.cells #[.string s, .slice A1 r.ins.length c1, .slice A2 r.outs.length c2, .int .i64 r.regs, .slice A3 r.init.length c3, .slice A4 r.code.length c4] 52)).after (w' := U)
    have y1 := ((Blk.new1 w (.cells #[.slice A m.enums.length c_, .slice (some ⟨b0, p0, none⟩) m.rts.length cm_] 29) 61 #[.int .i64 9, .int .i64 a, .int .i64 b, .int .i64 c, .int .i64 d]).alloc (.cells #[.string s, .slice A1 r.ins.length c1, .slice A2 r.outs.length c2, .int .i64 r.regs, .slice A3 r.init.length c3, .slice A4 r.code.length c4] 52)).after (w' := U)
    have y2 := (Blk.new2 w (.cells #[.slice A m.enums.length c_, .slice (some ⟨b0, p0, none⟩) m.rts.length cm_] 29) (.cells #[.int .i64 9, .int .i64 a, .int .i64 b, .int .i64 c, .int .i64 d] 61) 52 #[.string s, .slice A1 r.ins.length c1, .slice A2 r.outs.length c2, .int .i64 r.regs, .slice A3 r.init.length c3, .slice A4 r.code.length c4]).after (w' := U)
    rw [hg1] at y0 y1 y2
    exact ⟨by rw [y0.cell]; rfl, by rw [y0.cell]; rfl, by rw [y1.cell]; rfl, by rw [y1.cell]; rfl, by rw [y1.cell]; rfl, by rw [y1.cell]; rfl, by rw [y1.cell]; rfl, by rw [y2.cell]; rfl, by rw [y2.cell]; rfl, by rw [y2.cell]; rfl, by rw [y2.cell]; rfl, by rw [y2.cell]; rfl, by rw [y2.cell]; rfl, y2.is_le⟩
  obtain ⟨f0_, f1_, f2_, f3_, f4_, f5_, f6_, f7_, f8_, f9_, f10_, f11_, f12_, f13_⟩ := HK.out W1 inferInstance
  have X := Lib.hid x
  clear x HX hr
  by_cases h0 : a < 0
  · rw [show decide ((0 : Int) ≤ a) = false by simpa using h0]
    simp only [Bool.false_and]
    clear HW
    go_enter Tryd.func55, Tryd.ntmps55
    go_wp2_with fail
    try rw [hW1]
    try rw [hg1]
    clear hW1 hg1
    go_quiet (fail)
    go_wp2_with fail
    go_ret
    exact ⟨rfl, by first | exact a1 | exact after_after a1 inferInstance | exact aw5 | exact after_after aw5 inferInstance⟩
  by_cases h1 : (k_ : Int) ≤ a
  · rw [show decide (a < (k_ : Nat)) = false by simpa using h1]
    simp only [Bool.and_false, Bool.false_and]
    clear HW
    go_enter Tryd.func55, Tryd.ntmps55
    go_wp2_with fail
    try rw [hW1]
    try rw [hg1]
    clear hW1 hg1
    go_quiet (fail)
    go_wp2_with fail
    go_ret
    exact ⟨rfl, by first | exact a1 | exact after_after a1 inferInstance | exact aw5 | exact after_after aw5 inferInstance⟩
  rw [show decide ((0 : Int) ≤ a) = true by simpa using h0, show decide (a < (k_ : Nat)) = true by simpa using h1]
  simp only [Bool.true_and]
  obtain ⟨n, rfl⟩ : ∃ n : Nat, a = n := ⟨a.toNat, by omega⟩
  have hn : n < m.rts.length := by omega
  have hnI : (n : Int) < (m.rts.length : Int) := by omega
  obtain ⟨b0', p0', sy, A1y, c1y, A2y, c2y, A3y, c3y, A4y, c4y, y, ey_, hley, HXy, HRy, u0, u1, u2, u3, u4, u5⟩ := (X.out.rts.here W1 (k := after_after hw a1)).part hn
  injection ey_ with ey_
  injection ey_ with ey1 ey2
  subst ey1 ey2
  have hcy : calledR m n = y := by
    unfold calledR
    rw [if_pos (by omega), Int.toNat_natCast, List.getD_eq_getElem?_getD, HXy.out]; rfl
  rw [hcy]
  clear hcy HXy
  have hiy1 := HRy.out.init.len
  have hiy2 := HRy.out.ins.len
  have hiy3 := HRy.out.outs.len
  have H2 := Lib.hid (fun U : World => HW.out b (y.init.length : Int) (r.init.length : Int) (by omega) U)
  obtain ⟨q2, hq2⟩ : ∃ q, withinB b (y.init.length : Int) (r.init.length : Int) = q := ⟨_, rfl⟩
  rw [hq2] at H2
  rw [hq2]
  clear hq2
  have H3 := Lib.hid (fun U : World => HW.out c (y.ins.length : Int) r.regs (by omega) U)
  obtain ⟨q3, hq3⟩ : ∃ q, withinB c (y.ins.length : Int) r.regs = q := ⟨_, rfl⟩
  rw [hq3] at H3
  rw [hq3]
  clear hq3
  have H4 := Lib.hid (fun U : World => HW.out d (y.outs.length : Int) r.regs (by omega) U)
  obtain ⟨q4, hq4⟩ : ∃ q, withinB d (y.outs.length : Int) r.regs = q := ⟨_, rfl⟩
  rw [hq4] at H4
  rw [hq4]
  clear hq4
  clear HW
  cases q2 with
  | false =>
    go_enter Tryd.func55, Tryd.ntmps55
    go_wp2_with fail
    try rw [hW1]
    try rw [hg1]
    clear hW1 hg1
    go_quiet (fail)
    obtain ⟨v5, hv5⟩ : ∃ v, W1.drewN nq = v := ⟨_, rfl⟩
    have av5 : After W1 v5 := by rw [← hv5]; infer_instance
    rw [hv5]
    clear hv5
    have kk : ∀ j v, W1.cell? ⟨b0, j, none⟩ = some v → v5.cell? ⟨b0, j, none⟩ = some v := fun j v hv => (av5.below.cell (p := ⟨b0, j, none⟩) hley.le).trans hv
    have hley5 : Le (b0 + 1) v5 := ⟨Nat.le_trans hley.le av5.below.size⟩
    replace u0 := kk _ _ u0
    replace u1 := kk _ _ u1
    replace u2 := kk _ _ u2
    replace u3 := kk _ _ u3
    replace u4 := kk _ _ u4
    replace u5 := kk _ _ u5
    clear f0_ f1_ f2_ f3_ f4_ f5_ f6_ f7_ f8_ f9_ f10_ f11_ f12_ f13_ kk
    obtain ⟨f0_, f1_, f2_, f3_, f4_, f5_, f6_, f7_, f8_, f9_, f10_, f11_, f12_, f13_⟩ := HK.out v5 av5
    have aw5 : After w v5 := after_after a1 av5
    have le1 : Le (g1 + 1) v5 := ⟨by have := f13_.le; omega⟩
    have le2 : Le (g1 + 1 + 1) v5 := ⟨by have := f13_.le; omega⟩
    have le3 : Le (g1 + 1 + 1 + 1) v5 := ⟨by have := f13_.le; omega⟩
    go_wp2_with fail
    refine (H2.out _).mono ?_
    rintro e w2 ⟨rfl, rfl⟩
    go_wp2_with fail
    go_ret
    exact ⟨rfl, by first | exact a1 | exact after_after a1 inferInstance | exact aw5 | exact after_after aw5 inferInstance⟩
  | true =>
    cases q3 with
    | false =>
      go_enter Tryd.func55, Tryd.ntmps55
      go_wp2_with fail
      try rw [hW1]
      try rw [hg1]
      clear hW1 hg1
      go_quiet (fail)
      obtain ⟨v5, hv5⟩ : ∃ v, W1.drewN nq = v := ⟨_, rfl⟩
      have av5 : After W1 v5 := by rw [← hv5]; infer_instance
      rw [hv5]
      clear hv5
      have kk : ∀ j v, W1.cell? ⟨b0, j, none⟩ = some v → v5.cell? ⟨b0, j, none⟩ = some v := fun j v hv => (av5.below.cell (p := ⟨b0, j, none⟩) hley.le).trans hv
      have hley5 : Le (b0 + 1) v5 := ⟨Nat.le_trans hley.le av5.below.size⟩
      replace u0 := kk _ _ u0
      replace u1 := kk _ _ u1
      replace u2 := kk _ _ u2
      replace u3 := kk _ _ u3
      replace u4 := kk _ _ u4
      replace u5 := kk _ _ u5
      clear f0_ f1_ f2_ f3_ f4_ f5_ f6_ f7_ f8_ f9_ f10_ f11_ f12_ f13_ kk
      obtain ⟨f0_, f1_, f2_, f3_, f4_, f5_, f6_, f7_, f8_, f9_, f10_, f11_, f12_, f13_⟩ := HK.out v5 av5
      have aw5 : After w v5 := after_after a1 av5
      have le1 : Le (g1 + 1) v5 := ⟨by have := f13_.le; omega⟩
      have le2 : Le (g1 + 1 + 1) v5 := ⟨by have := f13_.le; omega⟩
      have le3 : Le (g1 + 1 + 1 + 1) v5 := ⟨by have := f13_.le; omega⟩
      go_wp2_with fail
      refine (H2.out _).mono ?_
      rintro e w2 ⟨rfl, rfl⟩
      go_wp2_with fail
      refine (H3.out _).mono ?_
      rintro e w2 ⟨rfl, rfl⟩
      go_wp2_with fail
      go_ret
      exact ⟨rfl, by first | exact a1 | exact after_after a1 inferInstance | exact aw5 | exact after_after aw5 inferInstance⟩
    | true =>
      cases q4 with
      | false =>
        go_enter Tryd.func55, Tryd.ntmps55
        go_wp2_with fail
        try rw [hW1]
        try rw [hg1]
        clear hW1 hg1
        go_quiet (fail)
        obtain ⟨v5, hv5⟩ : ∃ v, W1.drewN nq = v := ⟨_, rfl⟩
        have av5 : After W1 v5 := by rw [← hv5]; infer_instance
        rw [hv5]
        clear hv5
        have kk : ∀ j v, W1.cell? ⟨b0, j, none⟩ = some v → v5.cell? ⟨b0, j, none⟩ = some v := fun j v hv => (av5.below.cell (p := ⟨b0, j, none⟩) hley.le).trans hv
        have hley5 : Le (b0 + 1) v5 := ⟨Nat.le_trans hley.le av5.below.size⟩
        replace u0 := kk _ _ u0
        replace u1 := kk _ _ u1
        replace u2 := kk _ _ u2
        replace u3 := kk _ _ u3
        replace u4 := kk _ _ u4
        replace u5 := kk _ _ u5
        clear f0_ f1_ f2_ f3_ f4_ f5_ f6_ f7_ f8_ f9_ f10_ f11_ f12_ f13_ kk
        obtain ⟨f0_, f1_, f2_, f3_, f4_, f5_, f6_, f7_, f8_, f9_, f10_, f11_, f12_, f13_⟩ := HK.out v5 av5
        have aw5 : After w v5 := after_after a1 av5
        have le1 : Le (g1 + 1) v5 := ⟨by have := f13_.le; omega⟩
        have le2 : Le (g1 + 1 + 1) v5 := ⟨by have := f13_.le; omega⟩
        have le3 : Le (g1 + 1 + 1 + 1) v5 := ⟨by have := f13_.le; omega⟩
        go_wp2_with fail
        refine (H2.out _).mono ?_
        rintro e w2 ⟨rfl, rfl⟩
        go_wp2_with fail
        refine (H3.out _).mono ?_
        rintro e w2 ⟨rfl, rfl⟩
        go_wp2_with fail
        refine (H4.out _).mono ?_
        rintro e w2 ⟨rfl, rfl⟩
        go_wp2_with fail
        go_ret
        exact ⟨rfl, by first | exact a1 | exact after_after a1 inferInstance | exact aw5 | exact after_after aw5 inferInstance⟩
      | true =>
        go_enter Tryd.func55, Tryd.ntmps55
        go_wp2_with fail
        try rw [hW1]
        try rw [hg1]
        clear hW1 hg1
        go_quiet (fail)
        obtain ⟨v5, hv5⟩ : ∃ v, W1.drewN nq = v := ⟨_, rfl⟩
        have av5 : After W1 v5 := by rw [← hv5]; infer_instance
        rw [hv5]
        clear hv5
        have kk : ∀ j v, W1.cell? ⟨b0, j, none⟩ = some v → v5.cell? ⟨b0, j, none⟩ = some v := fun j v hv => (av5.below.cell (p := ⟨b0, j, none⟩) hley.le).trans hv
        have hley5 : Le (b0 + 1) v5 := ⟨Nat.le_trans hley.le av5.below.size⟩
        replace u0 := kk _ _ u0
        replace u1 := kk _ _ u1
        replace u2 := kk _ _ u2
        replace u3 := kk _ _ u3
        replace u4 := kk _ _ u4
        replace u5 := kk _ _ u5
        clear f0_ f1_ f2_ f3_ f4_ f5_ f6_ f7_ f8_ f9_ f10_ f11_ f12_ f13_ kk
        obtain ⟨f0_, f1_, f2_, f3_, f4_, f5_, f6_, f7_, f8_, f9_, f10_, f11_, f12_, f13_⟩ := HK.out v5 av5
        have aw5 : After w v5 := after_after a1 av5
        have le1 : Le (g1 + 1) v5 := ⟨by have := f13_.le; omega⟩
        have le2 : Le (g1 + 1 + 1) v5 := ⟨by have := f13_.le; omega⟩
        have le3 : Le (g1 + 1 + 1 + 1) v5 := ⟨by have := f13_.le; omega⟩
        go_wp2_with fail
        refine (H2.out _).mono ?_
        rintro e w2 ⟨rfl, rfl⟩
        go_wp2_with fail
        refine (H3.out _).mono ?_
        rintro e w2 ⟨rfl, rfl⟩
        go_wp2_with fail
        refine (H4.out _).mono ?_
        rintro e w2 ⟨rfl, rfl⟩
        go_wp2_with fail
        go_ret
        exact ⟨rfl, by first | exact a1 | exact after_after a1 inferInstance | exact aw5 | exact after_after aw5 inferInstance⟩

set_option maxRecDepth 100000 in
set_option maxHeartbeats 8000000 in
theorem rranges_10 {w0 : World} {A c_ A' cm_ m} (x : RIm w0 A c_ A' cm_ m) (w : World) (hw : After w0 w) (k_ : Nat) (hk_ : k_ < m.rts.length) (r : Rtn) (hr : m.rts[k_]? = some r) (hreg : r.regs ≤ 32768) (a b c d : Int) :
    Calls Tryd.prog 55 #[.agg #[.slice A m.enums.length c_, .slice A' m.rts.length cm_], .int .i64 k_, .agg #[.int .i64 10, .int .i64 a, .int .i64 b, .int .i64 c, .int .i64 d]] w fun e w' => e = .returned (.bool (rangeB m r k_ ⟨10, a, b, c, d⟩)) ∧ After w w' := by
  rw [rangeB_10]
  have hl_ := x.rts.len
  have hkI : (k_ : Int) < (m.rts.length : Int) := by omega
  obtain ⟨b0, p0, s, A1, c1, A2, c2, A3, c3, A4, c4, r9, rfl, hle_, HX, HR, e0, e1, e2, e3, e4, e5⟩ := (x.rts.here w).part hk_
  obtain rfl : r = r9 := by
    have h1 := HX.out
    rw [hr] at h1
    injection h1 with h1
  have hin3 := HR.out.init.len
  have HW := Lib.hid (fun (q n v : Int) (hv : v ≤ 9223372036854775807) (U : World) => rwithin_any q n v U hv)
  obtain ⟨g1, hg1⟩ : ∃ g1, w.heap.size = g1 := ⟨_, rfl⟩
  obtain ⟨W1, hW1, HK, a1⟩ : ∃ W1, (((w.alloc (.cells #[.slice A m.enums.length c_, .slice (some ⟨b0, p0, none⟩) m.rts.length cm_] 29)).alloc (.cells #[.int .i64 10, .int .i64 a, .int .i64 b, .int .i64 c, .int .i64 d] 61)).alloc (.cells #[.string s, .slice A1 r.ins.length c1, .slice A2 r.outs.length c2, .int .i64 r.regs, .slice A3 r.init.length c3, .slice A4 r.code.length c4] 52)) = W1 ∧ Hid (∀ U : World, After W1 U → U.cell? ⟨g1, 0, none⟩ = some (.slice A m.enums.length c_) ∧ U.cell? ⟨g1, 1, none⟩ = some (.slice (some ⟨b0, p0, none⟩) m.rts.length cm_) ∧ U.cell? ⟨g1 + 1, 0, none⟩ = some (.int .i64 10) ∧ U.cell? ⟨g1 + 1, 1, none⟩ = some (.int .i64 a) ∧ U.cell? ⟨g1 + 1, 2, none⟩ = some (.int .i64 b) ∧ U.cell? ⟨g1 + 1, 3, none⟩ = some (.int .i64 c) ∧ U.cell? ⟨g1 + 1, 4, none⟩ = some (.int .i64 d) ∧ U.cell? ⟨g1 + 2, 0, none⟩ = some (.string s) ∧ U.cell? ⟨g1 + 2, 1, none⟩ = some (.slice A1 r.ins.length c1) ∧ U.cell? ⟨g1 + 2, 2, none⟩ = some (.slice A2 r.outs.length c2) ∧ U.cell? ⟨g1 + 2, 3, none⟩ = some (.int .i64 r.regs) ∧ U.cell? ⟨g1 + 2, 4, none⟩ = some (.slice A3 r.init.length c3) ∧ U.cell? ⟨g1 + 2, 5, none⟩ = some (.slice A4 r.code.length c4) ∧ Le (g1 + 3) U) ∧ After w W1 := by
    refine ⟨_, rfl, fun U hU => ?_, inferInstance⟩
    have y0 := (((Blk.new w 29 #[.slice A m.enums.length c_, .slice (some ⟨b0, p0, none⟩) m.rts.length cm_]).alloc (.cells #[.int .i64 10, .int .i64 a, .int .i64 b, .int .i64 c, .int .i64 d] 61)).alloc (.cells #[.string s, .slice A1 r.ins.length c1, .slice A2 r.outs.length c2, .int .i64 r.regs, .slice A3 r.init.length c3, .slice A4 r.code.length c4] 52)).after (w' := U)
    have y1 := ((Blk.new1 w (.cells #[.slice A m.enums.length c_, .slice (some ⟨b0, p0, none⟩) m.rts.length cm_] 29) 61 #[.int .i64 10, .int .i64 a, .int .i64 b, .int .i64 c, .int .i64 d]).alloc (.cells #[.string s, .slice A1 r.ins.length c1, .slice A2 r.outs.length c2, .int .i64 r.regs, .slice A3 r.init.length c3, .slice A4 r.code.length c4] 52)).after (w' := U)
    have y2 := (Blk.new2 w (.cells #[.slice A m.enums.length c_, .slice (some ⟨b0, p0, none⟩) m.rts.length cm_] 29) (.cells #[.int .i64 10, .int .i64 a, .int .i64 b, .int .i64 c, .int .i64 d] 61) 52 #[.string s, .slice A1 r.ins.length c1, .slice A2 r.outs.length c2, .int .i64 r.regs, .slice A3 r.init.length c3, .slice A4 r.code.length c4]).after (w' := U)
    rw [hg1] at y0 y1 y2
    exact ⟨by rw [y0.cell]; rfl, by rw [y0.cell]; rfl, by rw [y1.cell]; rfl, by rw [y1.cell]; rfl, by rw [y1.cell]; rfl, by rw [y1.cell]; rfl, by rw [y1.cell]; rfl, by rw [y2.cell]; rfl, by rw [y2.cell]; rfl, by rw [y2.cell]; rfl, by rw [y2.cell]; rfl, by rw [y2.cell]; rfl, by rw [y2.cell]; rfl, y2.is_le⟩
  obtain ⟨f0_, f1_, f2_, f3_, f4_, f5_, f6_, f7_, f8_, f9_, f10_, f11_, f12_, f13_⟩ := HK.out W1 inferInstance
  have X := Lib.hid x
  clear x HX hr
  by_cases h0 : a < 0
  · rw [show decide ((0 : Int) ≤ a) = false by simpa using h0]
    simp only [Bool.false_and]
    clear HW
    go_enter Tryd.func55, Tryd.ntmps55
    go_wp2_with fail
    try rw [hW1]
    try rw [hg1]
    clear hW1 hg1
    go_quiet (fail)
    go_wp2_with fail
    go_ret
    exact ⟨rfl, by first | exact a1 | exact after_after a1 inferInstance | exact aw5 | exact after_after aw5 inferInstance⟩
  by_cases h1 : (k_ : Int) ≤ a
  · rw [show decide (a < (k_ : Nat)) = false by simpa using h1]
    simp only [Bool.and_false, Bool.false_and]
    clear HW
    go_enter Tryd.func55, Tryd.ntmps55
    go_wp2_with fail
    try rw [hW1]
    try rw [hg1]
    clear hW1 hg1
    go_quiet (fail)
    go_wp2_with fail
    go_ret
    exact ⟨rfl, by first | exact a1 | exact after_after a1 inferInstance | exact aw5 | exact after_after aw5 inferInstance⟩
  rw [show decide ((0 : Int) ≤ a) = true by simpa using h0, show decide (a < (k_ : Nat)) = true by simpa using h1]
  simp only [Bool.true_and]
  obtain ⟨n, rfl⟩ : ∃ n : Nat, a = n := ⟨a.toNat, by omega⟩
  have hn : n < m.rts.length := by omega
  have hnI : (n : Int) < (m.rts.length : Int) := by omega
  obtain ⟨b0', p0', sy, A1y, c1y, A2y, c2y, A3y, c3y, A4y, c4y, y, ey_, hley, HXy, HRy, u0, u1, u2, u3, u4, u5⟩ := (X.out.rts.here W1 (k := after_after hw a1)).part hn
  injection ey_ with ey_
  injection ey_ with ey1 ey2
  subst ey1 ey2
  have hcy : calledR m n = y := by
    unfold calledR
    rw [if_pos (by omega), Int.toNat_natCast, List.getD_eq_getElem?_getD, HXy.out]; rfl
  rw [hcy]
  clear hcy HXy
  have hiy1 := HRy.out.init.len
  have hiy2 := HRy.out.ins.len
  have hiy3 := HRy.out.outs.len
  have H2 := Lib.hid (fun U : World => HW.out b (y.init.length : Int) (r.init.length : Int) (by omega) U)
  obtain ⟨q2, hq2⟩ : ∃ q, withinB b (y.init.length : Int) (r.init.length : Int) = q := ⟨_, rfl⟩
  rw [hq2] at H2
  rw [hq2]
  clear hq2
  clear HW
  cases q2 with
  | false =>
    go_enter Tryd.func55, Tryd.ntmps55
    go_wp2_with fail
    try rw [hW1]
    try rw [hg1]
    clear hW1 hg1
    go_quiet (fail)
    obtain ⟨v5, hv5⟩ : ∃ v, W1.drewN nq = v := ⟨_, rfl⟩
    have av5 : After W1 v5 := by rw [← hv5]; infer_instance
    rw [hv5]
    clear hv5
    have kk : ∀ j v, W1.cell? ⟨b0, j, none⟩ = some v → v5.cell? ⟨b0, j, none⟩ = some v := fun j v hv => (av5.below.cell (p := ⟨b0, j, none⟩) hley.le).trans hv
    have hley5 : Le (b0 + 1) v5 := ⟨Nat.le_trans hley.le av5.below.size⟩
    replace u0 := kk _ _ u0
    replace u1 := kk _ _ u1
    replace u2 := kk _ _ u2
    replace u3 := kk _ _ u3
    replace u4 := kk _ _ u4
    replace u5 := kk _ _ u5
    clear f0_ f1_ f2_ f3_ f4_ f5_ f6_ f7_ f8_ f9_ f10_ f11_ f12_ f13_ kk
    obtain ⟨f0_, f1_, f2_, f3_, f4_, f5_, f6_, f7_, f8_, f9_, f10_, f11_, f12_, f13_⟩ := HK.out v5 av5
    have aw5 : After w v5 := after_after a1 av5
    have le1 : Le (g1 + 1) v5 := ⟨by have := f13_.le; omega⟩
    have le2 : Le (g1 + 1 + 1) v5 := ⟨by have := f13_.le; omega⟩
    have le3 : Le (g1 + 1 + 1 + 1) v5 := ⟨by have := f13_.le; omega⟩
    go_wp2_with fail
    refine (H2.out _).mono ?_
    rintro e w2 ⟨rfl, rfl⟩
    go_wp2_with fail
    go_ret
    exact ⟨rfl, by first | exact a1 | exact after_after a1 inferInstance | exact aw5 | exact after_after aw5 inferInstance⟩
  | true =>
    go_enter Tryd.func55, Tryd.ntmps55
    go_wp2_with fail
    try rw [hW1]
    try rw [hg1]
    clear hW1 hg1
    go_quiet (fail)
    obtain ⟨v5, hv5⟩ : ∃ v, W1.drewN nq = v := ⟨_, rfl⟩
    have av5 : After W1 v5 := by rw [← hv5]; infer_instance
    rw [hv5]
    clear hv5
    have kk : ∀ j v, W1.cell? ⟨b0, j, none⟩ = some v → v5.cell? ⟨b0, j, none⟩ = some v := fun j v hv => (av5.below.cell (p := ⟨b0, j, none⟩) hley.le).trans hv
    have hley5 : Le (b0 + 1) v5 := ⟨Nat.le_trans hley.le av5.below.size⟩
    replace u0 := kk _ _ u0
    replace u1 := kk _ _ u1
    replace u2 := kk _ _ u2
    replace u3 := kk _ _ u3
    replace u4 := kk _ _ u4
    replace u5 := kk _ _ u5
    clear f0_ f1_ f2_ f3_ f4_ f5_ f6_ f7_ f8_ f9_ f10_ f11_ f12_ f13_ kk
    obtain ⟨f0_, f1_, f2_, f3_, f4_, f5_, f6_, f7_, f8_, f9_, f10_, f11_, f12_, f13_⟩ := HK.out v5 av5
    have aw5 : After w v5 := after_after a1 av5
    have le1 : Le (g1 + 1) v5 := ⟨by have := f13_.le; omega⟩
    have le2 : Le (g1 + 1 + 1) v5 := ⟨by have := f13_.le; omega⟩
    have le3 : Le (g1 + 1 + 1 + 1) v5 := ⟨by have := f13_.le; omega⟩
    go_wp2_with fail
    refine (H2.out _).mono ?_
    rintro e w2 ⟨rfl, rfl⟩
    go_wp2_with fail
    go_ret
    exact ⟨rfl, by first | exact a1 | exact after_after a1 inferInstance | exact aw5 | exact after_after aw5 inferInstance⟩

theorem rranges_any {w0 : World} {A c_ A' cm_ m} (x : RIm w0 A c_ A' cm_ m) (w : World) (hw : After w0 w) (k_ : Nat) (hk_ : k_ < m.rts.length) (r : Rtn) (hr : m.rts[k_]? = some r) (hreg : r.regs ≤ 32768) (op a b c d : Int) (ho : 1 ≤ op ∧ op ≤ 10) :
    Calls Tryd.prog 55 #[.agg #[.slice A m.enums.length c_, .slice A' m.rts.length cm_], .int .i64 k_, .agg #[.int .i64 op, .int .i64 a, .int .i64 b, .int .i64 c, .int .i64 d]] w fun e w' => e = .returned (.bool (rangeB m r k_ ⟨op, a, b, c, d⟩)) ∧ After w w' := by
  have hc : op = 1 ∨ op = 2 ∨ op = 3 ∨ op = 4 ∨ op = 5 ∨ op = 6 ∨ op = 7 ∨ op = 8 ∨ op = 9 ∨ op = 10 := by omega
  rcases hc with rfl | rfl | rfl | rfl | rfl | rfl | rfl | rfl | rfl | rfl
  · exact rranges_1 x w hw k_ hk_ r hr hreg a b c d
  · exact rranges_2 x w hw k_ hk_ r hr hreg a b c d
  · exact rranges_3 x w hw k_ hk_ r hr hreg a b c d
  · exact rranges_4 x w hw k_ hk_ r hr hreg a b c d
  · exact rranges_5 x w hw k_ hk_ r hr hreg a b c d
  · exact rranges_6 x w hw k_ hk_ r hr hreg a b c d
  · exact rranges_7 x w hw k_ hk_ r hr hreg a b c d
  · exact rranges_8 x w hw k_ hk_ r hr hreg a b c d
  · exact rranges_9 x w hw k_ hk_ r hr hreg a b c d
  · exact rranges_10 x w hw k_ hk_ r hr hreg a b c d
end Go.Proofs.YtgmojjdojcmnaaaDoor
