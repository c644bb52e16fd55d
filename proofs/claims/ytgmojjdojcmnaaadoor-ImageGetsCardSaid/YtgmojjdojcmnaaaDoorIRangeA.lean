/-
  Contracts: asm.ranges, an operation a theorem (printed by gen_irange.py).
-/
import Derived.Test.YtgmojjdojcmnaaaDoorIRangeL
import Derived.Shelf.Abstract
import Derived.LoopN
set_option linter.unusedVariables false
set_option linter.unusedSimpArgs false
namespace Go.Proofs.YtgmojjdojcmnaaaDoor
open Go.RowKit Go.BigFrame


set_option maxRecDepth 100000 in
set_option maxHeartbeats 8000000 in
theorem ranges_1 {w0 : World} {A c_ A' cm_ m} (x : RIm w0 A c_ A' cm_ m) (w : World) (hO : Ops w0) (hw : After w0 w) (k_ : Nat) (hk_ : k_ < m.rts.length) (r : Rtn) (hr : m.rts[k_]? = some r) (hreg : r.regs ≤ 32768) (a b c d : Int) :
    Calls Tryd.prog 51 #[.agg #[.slice A m.enums.length c_, .slice A' m.rts.length cm_], .int .i64 k_, .agg #[.int .i64 1, .int .i64 a, .int .i64 b, .int .i64 c, .int .i64 d]] w fun e w' => e = .returned (.bool (rangeB m r k_ ⟨1, a, b, c, d⟩)) ∧ After w w' := by
  have hl_ := x.rts.len
  have hkI : (k_ : Int) < (m.rts.length : Int) := by omega
  obtain ⟨bq, pq, s, A1, c1, A2, c2, A3, c3, A4, c4, r', rfl, hle_, HX, HR, e0, e1, e2, e3, e4, e5⟩ := (x.rts.here w).part hk_
  obtain rfl : r = r' := by
    have h1 := HX.out
    rw [hr] at h1
    injection h1 with h1
  have hin_ := HR.out.init.len
  have hlq : Le (bq + 1) w := hle_
  have hni : ((calledR m a).init.length : Int) ≤ ((calledR m a).init.length : Int) := Int.le_refl _
  rw [rangeB_1]
  by_cases h0 : withinB a 1 r.regs = true
  rotate_left
  · replace h0 : withinB a 1 r.regs = false := by simpa using h0
    rw [show (withinB a 1 r.regs && decide (-32768 ≤ b) && decide (b ≤ 32767)) = false by simp [h0]]
    have HW0 := Lib.hid (fun U : World => within_any U a 1 r.regs (by omega))
    rw [h0] at HW0
    have hk1 := Lib.hid (fun U (hU : After w U) => known_1 w0 U hO (after_after hw hU))
    have hf1 := Lib.hid (fun U : World => fields_any U 1 a b c d)
    have x' := Lib.hid x
    clear x
    go_enter Tryd.func51, Tryd.ntmps51
    go_wp2_with fail
    refine (hk1.out _ inferInstance).mono ?_
    rintro e w2 ⟨rfl, a2⟩
    have z0 := Lib.hid ((((Blk.new w 29 #[.slice A m.enums.length c_, .slice (some ⟨bq, pq, none⟩) m.rts.length cm_]).alloc (.cells #[.int .i64 1, .int .i64 a, .int .i64 b, .int .i64 c, .int .i64 d] 61)).alloc (.cells #[.string s, .slice A1 r.ins.length c1, .slice A2 r.outs.length c2, .int .i64 r.regs, .slice A3 r.init.length c3, .slice A4 r.code.length c4] 52)).after (w' := w2))
    have z1 := Lib.hid (((Blk.new1 w (.cells #[.slice A m.enums.length c_, .slice (some ⟨bq, pq, none⟩) m.rts.length cm_] 29) 61 #[.int .i64 1, .int .i64 a, .int .i64 b, .int .i64 c, .int .i64 d]).alloc (.cells #[.string s, .slice A1 r.ins.length c1, .slice A2 r.outs.length c2, .int .i64 r.regs, .slice A3 r.init.length c3, .slice A4 r.code.length c4] 52)).after (w' := w2))
    have z2 := Lib.hid ((Blk.new2 w (.cells #[.slice A m.enums.length c_, .slice (some ⟨bq, pq, none⟩) m.rts.length cm_] 29) (.cells #[.int .i64 1, .int .i64 a, .int .i64 b, .int .i64 c, .int .i64 d] 61) 52 #[.string s, .slice A1 r.ins.length c1, .slice A2 r.outs.length c2, .int .i64 r.regs, .slice A3 r.init.length c3, .slice A4 r.code.length c4]).after (w' := w2))
    have aw2 : After w w2 := after_after inferInstance a2
    clear a2
    have i0_ : w2.cell? ⟨w.heap.size + 1, 0, none⟩ = some (.int .i64 1) := by rw [z1.out.cell]; rfl
    have i1_ : w2.cell? ⟨w.heap.size + 1, 1, none⟩ = some (.int .i64 a) := by rw [z1.out.cell]; rfl
    have i2_ : w2.cell? ⟨w.heap.size + 1, 2, none⟩ = some (.int .i64 b) := by rw [z1.out.cell]; rfl
    have i3_ : w2.cell? ⟨w.heap.size + 1, 3, none⟩ = some (.int .i64 c) := by rw [z1.out.cell]; rfl
    have i4_ : w2.cell? ⟨w.heap.size + 1, 4, none⟩ = some (.int .i64 d) := by rw [z1.out.cell]; rfl
    have li_ := z1.out.is_le
    have ZB := Lib.hid (Blk.new w2 87 #[.string ⟨#[108, 111, 97, 100]⟩, .int .i64 1, .int .i64 3, .int .i64 0, .int .i64 0, .int .i64 0])
    have Z0 := Lib.hid (z0.out.alloc (.cells #[.string ⟨#[108, 111, 97, 100]⟩, .int .i64 1, .int .i64 3, .int .i64 0, .int .i64 0, .int .i64 0] 87))
    have Z1 := Lib.hid (z1.out.alloc (.cells #[.string ⟨#[108, 111, 97, 100]⟩, .int .i64 1, .int .i64 3, .int .i64 0, .int .i64 0, .int .i64 0] 87))
    have Z2 := Lib.hid (z2.out.alloc (.cells #[.string ⟨#[108, 111, 97, 100]⟩, .int .i64 1, .int .i64 3, .int .i64 0, .int .i64 0, .int .i64 0] 87))
    go_wp2_with fail
    refine (hf1.out _).mono ?_
    rintro e w4 ⟨rfl, a4⟩
    have aw4 : After w w4 := after_after aw2 (after_after inferInstance a4)
    obtain ⟨g7, hg7⟩ : ∃ g7, w2.heap.size = g7 := ⟨_, rfl⟩
    have HK : Hid (∀ U : World, After w4 U → U.cell? ⟨g7, 1, none⟩ = some (.int .i64 1) ∧ U.cell? ⟨g7, 2, none⟩ = some (.int .i64 3) ∧ U.cell? ⟨g7, 3, none⟩ = some (.int .i64 0) ∧ U.cell? ⟨g7, 4, none⟩ = some (.int .i64 0) ∧ U.cell? ⟨g7, 5, none⟩ = some (.int .i64 0) ∧ U.cell? ⟨w.heap.size, 0, none⟩ = some (.slice A m.enums.length c_) ∧ U.cell? ⟨w.heap.size, 1, none⟩ = some (.slice (some ⟨bq, pq, none⟩) m.rts.length cm_) ∧ U.cell? ⟨w.heap.size + 1, 1, none⟩ = some (.int .i64 a) ∧ U.cell? ⟨w.heap.size + 2, 3, none⟩ = some (.int .i64 r.regs) ∧ U.cell? ⟨w.heap.size + 2, 4, none⟩ = some (.slice A3 r.init.length c3) ∧ Le (g7 + 1) U ∧ Le (w.heap.size + 2 + 1) U ∧ Le (w.heap.size + 1 + 1) U ∧ Le (w.heap.size + 1) U) := fun U hU => by
      have y0 := (Z0.out.after (w' := w4) (k := a4)).after (w' := U)
      have y1 := (Z1.out.after (w' := w4) (k := a4)).after (w' := U)
      have y2 := (Z2.out.after (w' := w4) (k := a4)).after (w' := U)
      have y3 := (ZB.out.after (w' := w4) (k := a4)).after (w' := U)
      rw [hg7] at y3
      exact ⟨by rw [y3.cell]; rfl, by rw [y3.cell]; rfl, by rw [y3.cell]; rfl, by rw [y3.cell]; rfl, by rw [y3.cell]; rfl, by rw [y0.cell]; rfl, by rw [y0.cell]; rfl, by rw [y1.cell]; rfl, by rw [y2.cell]; rfl, by rw [y2.cell]; rfl, y3.is_le, y2.is_le, y1.is_le, y0.is_le⟩
    clear a4
    obtain ⟨f0_, f1_, f2_, f3_, f4_, f5_, f6_, f7_, f8_, f9_, f10_, f11_, f12_, f13_⟩ := HK.out w4 inferInstance
    have ix0 := fun W : World => idx0 a b c d W
    have ix1 := fun W : World => idx1 a b c d W
    have ix2 := fun W : World => idx2 a b c d W
    have ix3 := fun W : World => idx3 a b c d W
    go_wp2_with fail
    refine wp_loop_rounds 5 ?_
    rw [rounds_succ]
    go_wp2_with fail
    refine (HW0.out _).mono ?_
    rintro e w9 ⟨rfl, rfl⟩
    go_wp2_with fail
    rw [rounds_succ]
    go_wp2_with fail
    rw [rounds_succ]
    go_wp2_with fail
    rw [rounds_succ]
    go_wp2_with fail
    rw [rounds_succ]
    go_wp2_with fail
    go_ret
    first | exact ⟨rfl, aw4⟩ | exact ⟨rfl, inferInstance⟩ | exact ⟨ret_bool (by simp; omega), inferInstance⟩ | exact ⟨ret_bool (by simp; omega), aw4⟩
  by_cases h1 : -32768 ≤ b
  rotate_left
  · rw [show (withinB a 1 r.regs && decide (-32768 ≤ b) && decide (b ≤ 32767)) = false by simp [h0, h1]]
    have HW0 := Lib.hid (fun U : World => within_any U a 1 r.regs (by omega))
    rw [h0] at HW0
    have hb1 : decide (-32768 ≤ b) = false := decide_eq_false h1
    have hk1 := Lib.hid (fun U (hU : After w U) => known_1 w0 U hO (after_after hw hU))
    have hf1 := Lib.hid (fun U : World => fields_any U 1 a b c d)
    have x' := Lib.hid x
    clear x
    go_enter Tryd.func51, Tryd.ntmps51
    go_wp2_with fail
    refine (hk1.out _ inferInstance).mono ?_
    rintro e w2 ⟨rfl, a2⟩
    have z0 := Lib.hid ((((Blk.new w 29 #[.slice A m.enums.length c_, .slice (some ⟨bq, pq, none⟩) m.rts.length cm_]).alloc (.cells #[.int .i64 1, .int .i64 a, .int .i64 b, .int .i64 c, .int .i64 d] 61)).alloc (.cells #[.string s, .slice A1 r.ins.length c1, .slice A2 r.outs.length c2, .int .i64 r.regs, .slice A3 r.init.length c3, .slice A4 r.code.length c4] 52)).after (w' := w2))
    have z1 := Lib.hid (((Blk.new1 w (.cells #[.slice A m.enums.length c_, .slice (some ⟨bq, pq, none⟩) m.rts.length cm_] 29) 61 #[.int .i64 1, .int .i64 a, .int .i64 b, .int .i64 c, .int .i64 d]).alloc (.cells #[.string s, .slice A1 r.ins.length c1, .slice A2 r.outs.length c2, .int .i64 r.regs, .slice A3 r.init.length c3, .slice A4 r.code.length c4] 52)).after (w' := w2))
    have z2 := Lib.hid ((Blk.new2 w (.cells #[.slice A m.enums.length c_, .slice (some ⟨bq, pq, none⟩) m.rts.length cm_] 29) (.cells #[.int .i64 1, .int .i64 a, .int .i64 b, .int .i64 c, .int .i64 d] 61) 52 #[.string s, .slice A1 r.ins.length c1, .slice A2 r.outs.length c2, .int .i64 r.regs, .slice A3 r.init.length c3, .slice A4 r.code.length c4]).after (w' := w2))
    have aw2 : After w w2 := after_after inferInstance a2
    clear a2
    have i0_ : w2.cell? ⟨w.heap.size + 1, 0, none⟩ = some (.int .i64 1) := by rw [z1.out.cell]; rfl
    have i1_ : w2.cell? ⟨w.heap.size + 1, 1, none⟩ = some (.int .i64 a) := by rw [z1.out.cell]; rfl
    have i2_ : w2.cell? ⟨w.heap.size + 1, 2, none⟩ = some (.int .i64 b) := by rw [z1.out.cell]; rfl
    have i3_ : w2.cell? ⟨w.heap.size + 1, 3, none⟩ = some (.int .i64 c) := by rw [z1.out.cell]; rfl
    have i4_ : w2.cell? ⟨w.heap.size + 1, 4, none⟩ = some (.int .i64 d) := by rw [z1.out.cell]; rfl
    have li_ := z1.out.is_le
    have ZB := Lib.hid (Blk.new w2 87 #[.string ⟨#[108, 111, 97, 100]⟩, .int .i64 1, .int .i64 3, .int .i64 0, .int .i64 0, .int .i64 0])
    have Z0 := Lib.hid (z0.out.alloc (.cells #[.string ⟨#[108, 111, 97, 100]⟩, .int .i64 1, .int .i64 3, .int .i64 0, .int .i64 0, .int .i64 0] 87))
    have Z1 := Lib.hid (z1.out.alloc (.cells #[.string ⟨#[108, 111, 97, 100]⟩, .int .i64 1, .int .i64 3, .int .i64 0, .int .i64 0, .int .i64 0] 87))
    have Z2 := Lib.hid (z2.out.alloc (.cells #[.string ⟨#[108, 111, 97, 100]⟩, .int .i64 1, .int .i64 3, .int .i64 0, .int .i64 0, .int .i64 0] 87))
    go_wp2_with fail
    refine (hf1.out _).mono ?_
    rintro e w4 ⟨rfl, a4⟩
    have aw4 : After w w4 := after_after aw2 (after_after inferInstance a4)
    obtain ⟨g7, hg7⟩ : ∃ g7, w2.heap.size = g7 := ⟨_, rfl⟩
    have HK : Hid (∀ U : World, After w4 U → U.cell? ⟨g7, 1, none⟩ = some (.int .i64 1) ∧ U.cell? ⟨g7, 2, none⟩ = some (.int .i64 3) ∧ U.cell? ⟨g7, 3, none⟩ = some (.int .i64 0) ∧ U.cell? ⟨g7, 4, none⟩ = some (.int .i64 0) ∧ U.cell? ⟨g7, 5, none⟩ = some (.int .i64 0) ∧ U.cell? ⟨w.heap.size, 0, none⟩ = some (.slice A m.enums.length c_) ∧ U.cell? ⟨w.heap.size, 1, none⟩ = some (.slice (some ⟨bq, pq, none⟩) m.rts.length cm_) ∧ U.cell? ⟨w.heap.size + 1, 1, none⟩ = some (.int .i64 a) ∧ U.cell? ⟨w.heap.size + 2, 3, none⟩ = some (.int .i64 r.regs) ∧ U.cell? ⟨w.heap.size + 2, 4, none⟩ = some (.slice A3 r.init.length c3) ∧ Le (g7 + 1) U ∧ Le (w.heap.size + 2 + 1) U ∧ Le (w.heap.size + 1 + 1) U ∧ Le (w.heap.size + 1) U) := fun U hU => by
      have y0 := (Z0.out.after (w' := w4) (k := a4)).after (w' := U)
      have y1 := (Z1.out.after (w' := w4) (k := a4)).after (w' := U)
      have y2 := (Z2.out.after (w' := w4) (k := a4)).after (w' := U)
      have y3 := (ZB.out.after (w' := w4) (k := a4)).after (w' := U)
      rw [hg7] at y3
      exact ⟨by rw [y3.cell]; rfl, by rw [y3.cell]; rfl, by rw [y3.cell]; rfl, by rw [y3.cell]; rfl, by rw [y3.cell]; rfl, by rw [y0.cell]; rfl, by rw [y0.cell]; rfl, by rw [y1.cell]; rfl, by rw [y2.cell]; rfl, by rw [y2.cell]; rfl, y3.is_le, y2.is_le, y1.is_le, y0.is_le⟩
    clear a4
    obtain ⟨f0_, f1_, f2_, f3_, f4_, f5_, f6_, f7_, f8_, f9_, f10_, f11_, f12_, f13_⟩ := HK.out w4 inferInstance
    have ix0 := fun W : World => idx0 a b c d W
    have ix1 := fun W : World => idx1 a b c d W
    have ix2 := fun W : World => idx2 a b c d W
    have ix3 := fun W : World => idx3 a b c d W
    go_wp2_with fail
    refine wp_loop_rounds 5 ?_
    rw [rounds_succ]
    go_wp2_with fail
    refine (HW0.out _).mono ?_
    rintro e w9 ⟨rfl, rfl⟩
    go_wp2_with fail
    rw [rounds_succ]
    go_wp2_with fail
    rw [rounds_succ]
    go_wp2_with fail
    rw [rounds_succ]
    go_wp2_with fail
    rw [rounds_succ]
    go_wp2_with fail
    go_ret
    first | exact ⟨rfl, aw4⟩ | exact ⟨rfl, inferInstance⟩ | exact ⟨ret_bool (by simp; omega), inferInstance⟩ | exact ⟨ret_bool (by simp; omega), aw4⟩
  by_cases h2 : b ≤ 32767
  rotate_left
  · rw [show (withinB a 1 r.regs && decide (-32768 ≤ b) && decide (b ≤ 32767)) = false by simp [h0, h1, h2]]
    have HW0 := Lib.hid (fun U : World => within_any U a 1 r.regs (by omega))
    rw [h0] at HW0
    have hb1 : decide (-32768 ≤ b) = true := decide_eq_true h1
    have hb2 : decide (b ≤ 32767) = false := decide_eq_false h2
    have hk1 := Lib.hid (fun U (hU : After w U) => known_1 w0 U hO (after_after hw hU))
    have hf1 := Lib.hid (fun U : World => fields_any U 1 a b c d)
    have x' := Lib.hid x
    clear x
    go_enter Tryd.func51, Tryd.ntmps51
    go_wp2_with fail
    refine (hk1.out _ inferInstance).mono ?_
    rintro e w2 ⟨rfl, a2⟩
    have z0 := Lib.hid ((((Blk.new w 29 #[.slice A m.enums.length c_, .slice (some ⟨bq, pq, none⟩) m.rts.length cm_]).alloc (.cells #[.int .i64 1, .int .i64 a, .int .i64 b, .int .i64 c, .int .i64 d] 61)).alloc (.cells #[.string s, .slice A1 r.ins.length c1, .slice A2 r.outs.length c2, .int .i64 r.regs, .slice A3 r.init.length c3, .slice A4 r.code.length c4] 52)).after (w' := w2))
    have z1 := Lib.hid (((Blk.new1 w (.cells #[.slice A m.enums.length c_, .slice (some ⟨bq, pq, none⟩) m.rts.length cm_] 29) 61 #[.int .i64 1, .int .i64 a, .int .i64 b, .int .i64 c, .int .i64 d]).alloc (.cells #[.string s, .slice A1 r.ins.length c1, .slice A2 r.outs.length c2, .int .i64 r.regs, .slice A3 r.init.length c3, .slice A4 r.code.length c4] 52)).after (w' := w2))
    have z2 := Lib.hid ((Blk.new2 w (.cells #[.slice A m.enums.length c_, .slice (some ⟨bq, pq, none⟩) m.rts.length cm_] 29) (.cells #[.int .i64 1, .int .i64 a, .int .i64 b, .int .i64 c, .int .i64 d] 61) 52 #[.string s, .slice A1 r.ins.length c1, .slice A2 r.outs.length c2, .int .i64 r.regs, .slice A3 r.init.length c3, .slice A4 r.code.length c4]).after (w' := w2))
    have aw2 : After w w2 := after_after inferInstance a2
    clear a2
    have i0_ : w2.cell? ⟨w.heap.size + 1, 0, none⟩ = some (.int .i64 1) := by rw [z1.out.cell]; rfl
    have i1_ : w2.cell? ⟨w.heap.size + 1, 1, none⟩ = some (.int .i64 a) := by rw [z1.out.cell]; rfl
    have i2_ : w2.cell? ⟨w.heap.size + 1, 2, none⟩ = some (.int .i64 b) := by rw [z1.out.cell]; rfl
    have i3_ : w2.cell? ⟨w.heap.size + 1, 3, none⟩ = some (.int .i64 c) := by rw [z1.out.cell]; rfl
    have i4_ : w2.cell? ⟨w.heap.size + 1, 4, none⟩ = some (.int .i64 d) := by rw [z1.out.cell]; rfl
    have li_ := z1.out.is_le
    have ZB := Lib.hid (Blk.new w2 87 #[.string ⟨#[108, 111, 97, 100]⟩, .int .i64 1, .int .i64 3, .int .i64 0, .int .i64 0, .int .i64 0])
    have Z0 := Lib.hid (z0.out.alloc (.cells #[.string ⟨#[108, 111, 97, 100]⟩, .int .i64 1, .int .i64 3, .int .i64 0, .int .i64 0, .int .i64 0] 87))
    have Z1 := Lib.hid (z1.out.alloc (.cells #[.string ⟨#[108, 111, 97, 100]⟩, .int .i64 1, .int .i64 3, .int .i64 0, .int .i64 0, .int .i64 0] 87))
    have Z2 := Lib.hid (z2.out.alloc (.cells #[.string ⟨#[108, 111, 97, 100]⟩, .int .i64 1, .int .i64 3, .int .i64 0, .int .i64 0, .int .i64 0] 87))
    go_wp2_with fail
    refine (hf1.out _).mono ?_
    rintro e w4 ⟨rfl, a4⟩
    have aw4 : After w w4 := after_after aw2 (after_after inferInstance a4)
    obtain ⟨g7, hg7⟩ : ∃ g7, w2.heap.size = g7 := ⟨_, rfl⟩
    have HK : Hid (∀ U : World, After w4 U → U.cell? ⟨g7, 1, none⟩ = some (.int .i64 1) ∧ U.cell? ⟨g7, 2, none⟩ = some (.int .i64 3) ∧ U.cell? ⟨g7, 3, none⟩ = some (.int .i64 0) ∧ U.cell? ⟨g7, 4, none⟩ = some (.int .i64 0) ∧ U.cell? ⟨g7, 5, none⟩ = some (.int .i64 0) ∧ U.cell? ⟨w.heap.size, 0, none⟩ = some (.slice A m.enums.length c_) ∧ U.cell? ⟨w.heap.size, 1, none⟩ = some (.slice (some ⟨bq, pq, none⟩) m.rts.length cm_) ∧ U.cell? ⟨w.heap.size + 1, 1, none⟩ = some (.int .i64 a) ∧ U.cell? ⟨w.heap.size + 2, 3, none⟩ = some (.int .i64 r.regs) ∧ U.cell? ⟨w.heap.size + 2, 4, none⟩ = some (.slice A3 r.init.length c3) ∧ Le (g7 + 1) U ∧ Le (w.heap.size + 2 + 1) U ∧ Le (w.heap.size + 1 + 1) U ∧ Le (w.heap.size + 1) U) := fun U hU => by
      have y0 := (Z0.out.after (w' := w4) (k := a4)).after (w' := U)
      have y1 := (Z1.out.after (w' := w4) (k := a4)).after (w' := U)
      have y2 := (Z2.out.after (w' := w4) (k := a4)).after (w' := U)
      have y3 := (ZB.out.after (w' := w4) (k := a4)).after (w' := U)
      rw [hg7] at y3
      exact ⟨by rw [y3.cell]; rfl, by rw [y3.cell]; rfl, by rw [y3.cell]; rfl, by rw [y3.cell]; rfl, by rw [y3.cell]; rfl, by rw [y0.cell]; rfl, by rw [y0.cell]; rfl, by rw [y1.cell]; rfl, by rw [y2.cell]; rfl, by rw [y2.cell]; rfl, y3.is_le, y2.is_le, y1.is_le, y0.is_le⟩
    clear a4
    obtain ⟨f0_, f1_, f2_, f3_, f4_, f5_, f6_, f7_, f8_, f9_, f10_, f11_, f12_, f13_⟩ := HK.out w4 inferInstance
    have ix0 := fun W : World => idx0 a b c d W
    have ix1 := fun W : World => idx1 a b c d W
    have ix2 := fun W : World => idx2 a b c d W
    have ix3 := fun W : World => idx3 a b c d W
    go_wp2_with fail
    refine wp_loop_rounds 5 ?_
    rw [rounds_succ]
    go_wp2_with fail
    refine (HW0.out _).mono ?_
    rintro e w9 ⟨rfl, rfl⟩
    go_wp2_with fail
    rw [rounds_succ]
    go_wp2_with fail
    rw [rounds_succ]
    go_wp2_with fail
    rw [rounds_succ]
    go_wp2_with fail
    rw [rounds_succ]
    go_wp2_with fail
    go_ret
    first | exact ⟨rfl, aw4⟩ | exact ⟨rfl, inferInstance⟩ | exact ⟨ret_bool (by simp; omega), inferInstance⟩ | exact ⟨ret_bool (by simp; omega), aw4⟩
  rw [show (withinB a 1 r.regs && decide (-32768 ≤ b) && decide (b ≤ 32767)) = true by simp [h0, h1, h2]]
  have HW0 := Lib.hid (fun U : World => within_any U a 1 r.regs (by omega))
  rw [h0] at HW0
  have hb1 : decide (-32768 ≤ b) = true := decide_eq_true h1
  have hb2 : decide (b ≤ 32767) = true := decide_eq_true h2
  have hk1 := Lib.hid (fun U (hU : After w U) => known_1 w0 U hO (after_after hw hU))
  have hf1 := Lib.hid (fun U : World => fields_any U 1 a b c d)
  have x' := Lib.hid x
  clear x
  go_enter Tryd.func51, Tryd.ntmps51
  go_wp2_with fail
  refine (hk1.out _ inferInstance).mono ?_
  rintro e w2 ⟨rfl, a2⟩
  have z0 := Lib.hid ((((Blk.new w 29 #[.slice A m.enums.length c_, .slice (some ⟨bq, pq, none⟩) m.rts.length cm_]).alloc (.cells #[.int .i64 1, .int .i64 a, .int .i64 b, .int .i64 c, .int .i64 d] 61)).alloc (.cells #[.string s, .slice A1 r.ins.length c1, .slice A2 r.outs.length c2, .int .i64 r.regs, .slice A3 r.init.length c3, .slice A4 r.code.length c4] 52)).after (w' := w2))
  have z1 := Lib.hid (((Blk.new1 w (.cells #[.slice A m.enums.length c_, .slice (some ⟨bq, pq, none⟩) m.rts.length cm_] 29) 61 #[.int .i64 1, .int .i64 a, .int .i64 b, .int .i64 c, .int .i64 d]).alloc (.cells #[.string s, .slice A1 r.ins.length c1, .slice A2 r.outs.length c2, .int .i64 r.regs, .slice A3 r.init.length c3, .slice A4 r.code.length c4] 52)).after (w' := w2))
  have z2 := Lib.hid ((Blk.new2 w (.cells #[.slice A m.enums.length c_, .slice (some ⟨bq, pq, none⟩) m.rts.length cm_] 29) (.cells #[.int .i64 1, .int .i64 a, .int .i64 b, .int .i64 c, .int .i64 d] 61) 52 #[.string s, .slice A1 r.ins.length c1, .slice A2 r.outs.length c2, .int .i64 r.regs, .slice A3 r.init.length c3, .slice A4 r.code.length c4]).after (w' := w2))
  have aw2 : After w w2 := after_after inferInstance a2
  clear a2
  have i0_ : w2.cell? ⟨w.heap.size + 1, 0, none⟩ = some (.int .i64 1) := by rw [z1.out.cell]; rfl
  have i1_ : w2.cell? ⟨w.heap.size + 1, 1, none⟩ = some (.int .i64 a) := by rw [z1.out.cell]; rfl
  have i2_ : w2.cell? ⟨w.heap.size + 1, 2, none⟩ = some (.int .i64 b) := by rw [z1.out.cell]; rfl
  have i3_ : w2.cell? ⟨w.heap.size + 1, 3, none⟩ = some (.int .i64 c) := by rw [z1.out.cell]; rfl
  have i4_ : w2.cell? ⟨w.heap.size + 1, 4, none⟩ = some (.int .i64 d) := by rw [z1.out.cell]; rfl
  have li_ := z1.out.is_le
  have ZB := Lib.hid (Blk.new w2 87 #[.string ⟨#[108, 111, 97, 100]⟩, .int .i64 1, .int .i64 3, .int .i64 0, .int .i64 0, .int .i64 0])
  have Z0 := Lib.hid (z0.out.alloc (.cells #[.string ⟨#[108, 111, 97, 100]⟩, .int .i64 1, .int .i64 3, .int .i64 0, .int .i64 0, .int .i64 0] 87))
  have Z1 := Lib.hid (z1.out.alloc (.cells #[.string ⟨#[108, 111, 97, 100]⟩, .int .i64 1, .int .i64 3, .int .i64 0, .int .i64 0, .int .i64 0] 87))
  have Z2 := Lib.hid (z2.out.alloc (.cells #[.string ⟨#[108, 111, 97, 100]⟩, .int .i64 1, .int .i64 3, .int .i64 0, .int .i64 0, .int .i64 0] 87))
  go_wp2_with fail
  refine (hf1.out _).mono ?_
  rintro e w4 ⟨rfl, a4⟩
  have aw4 : After w w4 := after_after aw2 (after_after inferInstance a4)
  obtain ⟨g7, hg7⟩ : ∃ g7, w2.heap.size = g7 := ⟨_, rfl⟩
  have HK : Hid (∀ U : World, After w4 U → U.cell? ⟨g7, 1, none⟩ = some (.int .i64 1) ∧ U.cell? ⟨g7, 2, none⟩ = some (.int .i64 3) ∧ U.cell? ⟨g7, 3, none⟩ = some (.int .i64 0) ∧ U.cell? ⟨g7, 4, none⟩ = some (.int .i64 0) ∧ U.cell? ⟨g7, 5, none⟩ = some (.int .i64 0) ∧ U.cell? ⟨w.heap.size, 0, none⟩ = some (.slice A m.enums.length c_) ∧ U.cell? ⟨w.heap.size, 1, none⟩ = some (.slice (some ⟨bq, pq, none⟩) m.rts.length cm_) ∧ U.cell? ⟨w.heap.size + 1, 1, none⟩ = some (.int .i64 a) ∧ U.cell? ⟨w.heap.size + 2, 3, none⟩ = some (.int .i64 r.regs) ∧ U.cell? ⟨w.heap.size + 2, 4, none⟩ = some (.slice A3 r.init.length c3) ∧ Le (g7 + 1) U ∧ Le (w.heap.size + 2 + 1) U ∧ Le (w.heap.size + 1 + 1) U ∧ Le (w.heap.size + 1) U) := fun U hU => by
    have y0 := (Z0.out.after (w' := w4) (k := a4)).after (w' := U)
    have y1 := (Z1.out.after (w' := w4) (k := a4)).after (w' := U)
    have y2 := (Z2.out.after (w' := w4) (k := a4)).after (w' := U)
    have y3 := (ZB.out.after (w' := w4) (k := a4)).after (w' := U)
    rw [hg7] at y3
    exact ⟨by rw [y3.cell]; rfl, by rw [y3.cell]; rfl, by rw [y3.cell]; rfl, by rw [y3.cell]; rfl, by rw [y3.cell]; rfl, by rw [y0.cell]; rfl, by rw [y0.cell]; rfl, by rw [y1.cell]; rfl, by rw [y2.cell]; rfl, by rw [y2.cell]; rfl, y3.is_le, y2.is_le, y1.is_le, y0.is_le⟩
  clear a4
  obtain ⟨f0_, f1_, f2_, f3_, f4_, f5_, f6_, f7_, f8_, f9_, f10_, f11_, f12_, f13_⟩ := HK.out w4 inferInstance
  have ix0 := fun W : World => idx0 a b c d W
  have ix1 := fun W : World => idx1 a b c d W
  have ix2 := fun W : World => idx2 a b c d W
  have ix3 := fun W : World => idx3 a b c d W
  go_wp2_with fail
  refine wp_loop_rounds 5 ?_
  rw [rounds_succ]
  go_wp2_with fail
  refine (HW0.out _).mono ?_
  rintro e w9 ⟨rfl, rfl⟩
  go_wp2_with fail
  rw [rounds_succ]
  go_wp2_with fail
  rw [rounds_succ]
  go_wp2_with fail
  rw [rounds_succ]
  go_wp2_with fail
  rw [rounds_succ]
  go_wp2_with fail
  go_ret
  first | exact ⟨rfl, aw4⟩ | exact ⟨rfl, inferInstance⟩ | exact ⟨ret_bool (by simp; omega), inferInstance⟩ | exact ⟨ret_bool (by simp; omega), aw4⟩

set_option maxRecDepth 100000 in
set_option maxHeartbeats 8000000 in
theorem ranges_2 {w0 : World} {A c_ A' cm_ m} (x : RIm w0 A c_ A' cm_ m) (w : World) (hO : Ops w0) (hw : After w0 w) (k_ : Nat) (hk_ : k_ < m.rts.length) (r : Rtn) (hr : m.rts[k_]? = some r) (hreg : r.regs ≤ 32768) (a b c d : Int) :
    Calls Tryd.prog 51 #[.agg #[.slice A m.enums.length c_, .slice A' m.rts.length cm_], .int .i64 k_, .agg #[.int .i64 2, .int .i64 a, .int .i64 b, .int .i64 c, .int .i64 d]] w fun e w' => e = .returned (.bool (rangeB m r k_ ⟨2, a, b, c, d⟩)) ∧ After w w' := by
  have hl_ := x.rts.len
  have hkI : (k_ : Int) < (m.rts.length : Int) := by omega
  obtain ⟨bq, pq, s, A1, c1, A2, c2, A3, c3, A4, c4, r', rfl, hle_, HX, HR, e0, e1, e2, e3, e4, e5⟩ := (x.rts.here w).part hk_
  obtain rfl : r = r' := by
    have h1 := HX.out
    rw [hr] at h1
    injection h1 with h1
  have hin_ := HR.out.init.len
  have hlq : Le (bq + 1) w := hle_
  have hni : ((calledR m a).init.length : Int) ≤ ((calledR m a).init.length : Int) := Int.le_refl _
  rw [rangeB_2]
  by_cases h0 : withinB a 1 r.regs = true
  rotate_left
  · replace h0 : withinB a 1 r.regs = false := by simpa using h0
    rw [show (withinB a 1 r.regs && withinB b 1 r.regs) = false by simp [h0]]
    have HW0 := Lib.hid (fun U : World => within_any U a 1 r.regs (by omega))
    rw [h0] at HW0
    have hk1 := Lib.hid (fun U (hU : After w U) => known_2 w0 U hO (after_after hw hU))
    have hf1 := Lib.hid (fun U : World => fields_any U 2 a b c d)
    have x' := Lib.hid x
    clear x
    go_enter Tryd.func51, Tryd.ntmps51
    go_wp2_with fail
    refine (hk1.out _ inferInstance).mono ?_
    rintro e w2 ⟨rfl, a2⟩
    have z0 := Lib.hid ((((Blk.new w 29 #[.slice A m.enums.length c_, .slice (some ⟨bq, pq, none⟩) m.rts.length cm_]).alloc (.cells #[.int .i64 2, .int .i64 a, .int .i64 b, .int .i64 c, .int .i64 d] 61)).alloc (.cells #[.string s, .slice A1 r.ins.length c1, .slice A2 r.outs.length c2, .int .i64 r.regs, .slice A3 r.init.length c3, .slice A4 r.code.length c4] 52)).after (w' := w2))
    have z1 := Lib.hid (((Blk.new1 w (.cells #[.slice A m.enums.length c_, .slice (some ⟨bq, pq, none⟩) m.rts.length cm_] 29) 61 #[.int .i64 2, .int .i64 a, .int .i64 b, .int .i64 c, .int .i64 d]).alloc (.cells #[.string s, .slice A1 r.ins.length c1, .slice A2 r.outs.length c2, .int .i64 r.regs, .slice A3 r.init.length c3, .slice A4 r.code.length c4] 52)).after (w' := w2))
    have z2 := Lib.hid ((Blk.new2 w (.cells #[.slice A m.enums.length c_, .slice (some ⟨bq, pq, none⟩) m.rts.length cm_] 29) (.cells #[.int .i64 2, .int .i64 a, .int .i64 b, .int .i64 c, .int .i64 d] 61) 52 #[.string s, .slice A1 r.ins.length c1, .slice A2 r.outs.length c2, .int .i64 r.regs, .slice A3 r.init.length c3, .slice A4 r.code.length c4]).after (w' := w2))
    have aw2 : After w w2 := after_after inferInstance a2
    clear a2
    have i0_ : w2.cell? ⟨w.heap.size + 1, 0, none⟩ = some (.int .i64 2) := by rw [z1.out.cell]; rfl
    have i1_ : w2.cell? ⟨w.heap.size + 1, 1, none⟩ = some (.int .i64 a) := by rw [z1.out.cell]; rfl
    have i2_ : w2.cell? ⟨w.heap.size + 1, 2, none⟩ = some (.int .i64 b) := by rw [z1.out.cell]; rfl
    have i3_ : w2.cell? ⟨w.heap.size + 1, 3, none⟩ = some (.int .i64 c) := by rw [z1.out.cell]; rfl
    have i4_ : w2.cell? ⟨w.heap.size + 1, 4, none⟩ = some (.int .i64 d) := by rw [z1.out.cell]; rfl
    have li_ := z1.out.is_le
    have ZB := Lib.hid (Blk.new w2 87 #[.string ⟨#[109, 111, 118, 101]⟩, .int .i64 1, .int .i64 1, .int .i64 0, .int .i64 0, .int .i64 0])
    have Z0 := Lib.hid (z0.out.alloc (.cells #[.string ⟨#[109, 111, 118, 101]⟩, .int .i64 1, .int .i64 1, .int .i64 0, .int .i64 0, .int .i64 0] 87))
    have Z1 := Lib.hid (z1.out.alloc (.cells #[.string ⟨#[109, 111, 118, 101]⟩, .int .i64 1, .int .i64 1, .int .i64 0, .int .i64 0, .int .i64 0] 87))
    have Z2 := Lib.hid (z2.out.alloc (.cells #[.string ⟨#[109, 111, 118, 101]⟩, .int .i64 1, .int .i64 1, .int .i64 0, .int .i64 0, .int .i64 0] 87))
    go_wp2_with fail
    refine (hf1.out _).mono ?_
    rintro e w4 ⟨rfl, a4⟩
    have aw4 : After w w4 := after_after aw2 (after_after inferInstance a4)
    obtain ⟨g7, hg7⟩ : ∃ g7, w2.heap.size = g7 := ⟨_, rfl⟩
    have HK : Hid (∀ U : World, After w4 U → U.cell? ⟨g7, 1, none⟩ = some (.int .i64 1) ∧ U.cell? ⟨g7, 2, none⟩ = some (.int .i64 1) ∧ U.cell? ⟨g7, 3, none⟩ = some (.int .i64 0) ∧ U.cell? ⟨g7, 4, none⟩ = some (.int .i64 0) ∧ U.cell? ⟨g7, 5, none⟩ = some (.int .i64 0) ∧ U.cell? ⟨w.heap.size, 0, none⟩ = some (.slice A m.enums.length c_) ∧ U.cell? ⟨w.heap.size, 1, none⟩ = some (.slice (some ⟨bq, pq, none⟩) m.rts.length cm_) ∧ U.cell? ⟨w.heap.size + 1, 1, none⟩ = some (.int .i64 a) ∧ U.cell? ⟨w.heap.size + 2, 3, none⟩ = some (.int .i64 r.regs) ∧ U.cell? ⟨w.heap.size + 2, 4, none⟩ = some (.slice A3 r.init.length c3) ∧ Le (g7 + 1) U ∧ Le (w.heap.size + 2 + 1) U ∧ Le (w.heap.size + 1 + 1) U ∧ Le (w.heap.size + 1) U) := fun U hU => by
      have y0 := (Z0.out.after (w' := w4) (k := a4)).after (w' := U)
      have y1 := (Z1.out.after (w' := w4) (k := a4)).after (w' := U)
      have y2 := (Z2.out.after (w' := w4) (k := a4)).after (w' := U)
      have y3 := (ZB.out.after (w' := w4) (k := a4)).after (w' := U)
      rw [hg7] at y3
      exact ⟨by rw [y3.cell]; rfl, by rw [y3.cell]; rfl, by rw [y3.cell]; rfl, by rw [y3.cell]; rfl, by rw [y3.cell]; rfl, by rw [y0.cell]; rfl, by rw [y0.cell]; rfl, by rw [y1.cell]; rfl, by rw [y2.cell]; rfl, by rw [y2.cell]; rfl, y3.is_le, y2.is_le, y1.is_le, y0.is_le⟩
    clear a4
    obtain ⟨f0_, f1_, f2_, f3_, f4_, f5_, f6_, f7_, f8_, f9_, f10_, f11_, f12_, f13_⟩ := HK.out w4 inferInstance
    have ix0 := fun W : World => idx0 a b c d W
    have ix1 := fun W : World => idx1 a b c d W
    have ix2 := fun W : World => idx2 a b c d W
    have ix3 := fun W : World => idx3 a b c d W
    go_wp2_with fail
    refine wp_loop_rounds 5 ?_
    rw [rounds_succ]
    go_wp2_with fail
    refine (HW0.out _).mono ?_
    rintro e w9 ⟨rfl, rfl⟩
    go_wp2_with fail
    rw [rounds_succ]
    go_wp2_with fail
    rw [rounds_succ]
    go_wp2_with fail
    rw [rounds_succ]
    go_wp2_with fail
    rw [rounds_succ]
    go_wp2_with fail
    go_ret
    first | exact ⟨rfl, aw4⟩ | exact ⟨rfl, inferInstance⟩ | exact ⟨ret_bool (by simp; omega), inferInstance⟩ | exact ⟨ret_bool (by simp; omega), aw4⟩
  by_cases h1 : withinB b 1 r.regs = true
  rotate_left
  · replace h1 : withinB b 1 r.regs = false := by simpa using h1
    rw [show (withinB a 1 r.regs && withinB b 1 r.regs) = false by simp [h0, h1]]
    have HW0 := Lib.hid (fun U : World => within_any U a 1 r.regs (by omega))
    rw [h0] at HW0
    have HW1 := Lib.hid (fun U : World => within_any U b 1 r.regs (by omega))
    rw [h1] at HW1
    have hk1 := Lib.hid (fun U (hU : After w U) => known_2 w0 U hO (after_after hw hU))
    have hf1 := Lib.hid (fun U : World => fields_any U 2 a b c d)
    have x' := Lib.hid x
    clear x
    go_enter Tryd.func51, Tryd.ntmps51
    go_wp2_with fail
    refine (hk1.out _ inferInstance).mono ?_
    rintro e w2 ⟨rfl, a2⟩
    have z0 := Lib.hid ((((Blk.new w 29 #[.slice A m.enums.length c_, .slice (some ⟨bq, pq, none⟩) m.rts.length cm_]).alloc (.cells #[.int .i64 2, .int .i64 a, .int .i64 b, .int .i64 c, .int .i64 d] 61)).alloc (.cells #[.string s, .slice A1 r.ins.length c1, .slice A2 r.outs.length c2, .int .i64 r.regs, .slice A3 r.init.length c3, .slice A4 r.code.length c4] 52)).after (w' := w2))
    have z1 := Lib.hid (((Blk.new1 w (.cells #[.slice A m.enums.length c_, .slice (some ⟨bq, pq, none⟩) m.rts.length cm_] 29) 61 #[.int .i64 2, .int .i64 a, .int .i64 b, .int .i64 c, .int .i64 d]).alloc (.cells #[.string s, .slice A1 r.ins.length c1, .slice A2 r.outs.length c2, .int .i64 r.regs, .slice A3 r.init.length c3, .slice A4 r.code.length c4] 52)).after (w' := w2))
    have z2 := Lib.hid ((Blk.new2 w (.cells #[.slice A m.enums.length c_, .slice (some ⟨bq, pq, none⟩) m.rts.length cm_] 29) (.cells #[.int .i64 2, .int .i64 a, .int .i64 b, .int .i64 c, .int .i64 d] 61) 52 #[.string s, .slice A1 r.ins.length c1, .slice A2 r.outs.length c2, .int .i64 r.regs, .slice A3 r.init.length c3, .slice A4 r.code.length c4]).after (w' := w2))
    have aw2 : After w w2 := after_after inferInstance a2
    clear a2
    have i0_ : w2.cell? ⟨w.heap.size + 1, 0, none⟩ = some (.int .i64 2) := by rw [z1.out.cell]; rfl
    have i1_ : w2.cell? ⟨w.heap.size + 1, 1, none⟩ = some (.int .i64 a) := by rw [z1.out.cell]; rfl
    have i2_ : w2.cell? ⟨w.heap.size + 1, 2, none⟩ = some (.int .i64 b) := by rw [z1.out.cell]; rfl
    have i3_ : w2.cell? ⟨w.heap.size + 1, 3, none⟩ = some (.int .i64 c) := by rw [z1.out.cell]; rfl
    have i4_ : w2.cell? ⟨w.heap.size + 1, 4, none⟩ = some (.int .i64 d) := by rw [z1.out.cell]; rfl
    have li_ := z1.out.is_le
    have ZB := Lib.hid (Blk.new w2 87 #[.string ⟨#[109, 111, 118, 101]⟩, .int .i64 1, .int .i64 1, .int .i64 0, .int .i64 0, .int .i64 0])
    have Z0 := Lib.hid (z0.out.alloc (.cells #[.string ⟨#[109, 111, 118, 101]⟩, .int .i64 1, .int .i64 1, .int .i64 0, .int .i64 0, .int .i64 0] 87))
    have Z1 := Lib.hid (z1.out.alloc (.cells #[.string ⟨#[109, 111, 118, 101]⟩, .int .i64 1, .int .i64 1, .int .i64 0, .int .i64 0, .int .i64 0] 87))
    have Z2 := Lib.hid (z2.out.alloc (.cells #[.string ⟨#[109, 111, 118, 101]⟩, .int .i64 1, .int .i64 1, .int .i64 0, .int .i64 0, .int .i64 0] 87))
    go_wp2_with fail
    refine (hf1.out _).mono ?_
    rintro e w4 ⟨rfl, a4⟩
    have aw4 : After w w4 := after_after aw2 (after_after inferInstance a4)
    obtain ⟨g7, hg7⟩ : ∃ g7, w2.heap.size = g7 := ⟨_, rfl⟩
    have HK : Hid (∀ U : World, After w4 U → U.cell? ⟨g7, 1, none⟩ = some (.int .i64 1) ∧ U.cell? ⟨g7, 2, none⟩ = some (.int .i64 1) ∧ U.cell? ⟨g7, 3, none⟩ = some (.int .i64 0) ∧ U.cell? ⟨g7, 4, none⟩ = some (.int .i64 0) ∧ U.cell? ⟨g7, 5, none⟩ = some (.int .i64 0) ∧ U.cell? ⟨w.heap.size, 0, none⟩ = some (.slice A m.enums.length c_) ∧ U.cell? ⟨w.heap.size, 1, none⟩ = some (.slice (some ⟨bq, pq, none⟩) m.rts.length cm_) ∧ U.cell? ⟨w.heap.size + 1, 1, none⟩ = some (.int .i64 a) ∧ U.cell? ⟨w.heap.size + 2, 3, none⟩ = some (.int .i64 r.regs) ∧ U.cell? ⟨w.heap.size + 2, 4, none⟩ = some (.slice A3 r.init.length c3) ∧ Le (g7 + 1) U ∧ Le (w.heap.size + 2 + 1) U ∧ Le (w.heap.size + 1 + 1) U ∧ Le (w.heap.size + 1) U) := fun U hU => by
      have y0 := (Z0.out.after (w' := w4) (k := a4)).after (w' := U)
      have y1 := (Z1.out.after (w' := w4) (k := a4)).after (w' := U)
      have y2 := (Z2.out.after (w' := w4) (k := a4)).after (w' := U)
      have y3 := (ZB.out.after (w' := w4) (k := a4)).after (w' := U)
      rw [hg7] at y3
      exact ⟨by rw [y3.cell]; rfl, by rw [y3.cell]; rfl, by rw [y3.cell]; rfl, by rw [y3.cell]; rfl, by rw [y3.cell]; rfl, by rw [y0.cell]; rfl, by rw [y0.cell]; rfl, by rw [y1.cell]; rfl, by rw [y2.cell]; rfl, by rw [y2.cell]; rfl, y3.is_le, y2.is_le, y1.is_le, y0.is_le⟩
    clear a4
    obtain ⟨f0_, f1_, f2_, f3_, f4_, f5_, f6_, f7_, f8_, f9_, f10_, f11_, f12_, f13_⟩ := HK.out w4 inferInstance
    have ix0 := fun W : World => idx0 a b c d W
    have ix1 := fun W : World => idx1 a b c d W
    have ix2 := fun W : World => idx2 a b c d W
    have ix3 := fun W : World => idx3 a b c d W
    go_wp2_with fail
    refine wp_loop_rounds 5 ?_
    rw [rounds_succ]
    go_wp2_with fail
    refine (HW0.out _).mono ?_
    rintro e w9 ⟨rfl, rfl⟩
    go_wp2_with fail
    rw [rounds_succ]
    go_wp2_with fail
    refine (HW1.out _).mono ?_
    rintro e w9 ⟨rfl, rfl⟩
    go_wp2_with fail
    rw [rounds_succ]
    go_wp2_with fail
    rw [rounds_succ]
    go_wp2_with fail
    rw [rounds_succ]
    go_wp2_with fail
    go_ret
    first | exact ⟨rfl, aw4⟩ | exact ⟨rfl, inferInstance⟩ | exact ⟨ret_bool (by simp; omega), inferInstance⟩ | exact ⟨ret_bool (by simp; omega), aw4⟩
  rw [show (withinB a 1 r.regs && withinB b 1 r.regs) = true by simp [h0, h1]]
  have HW0 := Lib.hid (fun U : World => within_any U a 1 r.regs (by omega))
  rw [h0] at HW0
  have HW1 := Lib.hid (fun U : World => within_any U b 1 r.regs (by omega))
  rw [h1] at HW1
  have hk1 := Lib.hid (fun U (hU : After w U) => known_2 w0 U hO (after_after hw hU))
  have hf1 := Lib.hid (fun U : World => fields_any U 2 a b c d)
  have x' := Lib.hid x
  clear x
  go_enter Tryd.func51, Tryd.ntmps51
  go_wp2_with fail
  refine (hk1.out _ inferInstance).mono ?_
  rintro e w2 ⟨rfl, a2⟩
  have z0 := Lib.hid ((((Blk.new w 29 #[.slice A m.enums.length c_, .slice (some ⟨bq, pq, none⟩) m.rts.length cm_]).alloc (.cells #[.int .i64 2, .int .i64 a, .int .i64 b, .int .i64 c, .int .i64 d] 61)).alloc (.cells #[.string s, .slice A1 r.ins.length c1, .slice A2 r.outs.length c2, .int .i64 r.regs, .slice A3 r.init.length c3, .slice A4 r.code.length c4] 52)).after (w' := w2))
  have z1 := Lib.hid (((Blk.new1 w (.cells #[.slice A m.enums.length c_, .slice (some ⟨bq, pq, none⟩) m.rts.length cm_] 29) 61 #[.int .i64 2, .int .i64 a, .int .i64 b, .int .i64 c, .int .i64 d]).alloc (.cells #[.string s, .slice A1 r.ins.length c1, .slice A2 r.outs.length c2, .int .i64 r.regs, .slice A3 r.init.length c3, .slice A4 r.code.length c4] 52)).after (w' := w2))
  have z2 := Lib.hid ((Blk.new2 w (.cells #[.slice A m.enums.length c_, .slice (some ⟨bq, pq, none⟩) m.rts.length cm_] 29) (.cells #[.int .i64 2, .int .i64 a, .int .i64 b, .int .i64 c, .int .i64 d] 61) 52 #[.string s, .slice A1 r.ins.length c1, .slice A2 r.outs.length c2, .int .i64 r.regs, .slice A3 r.init.length c3, .slice A4 r.code.length c4]).after (w' := w2))
  have aw2 : After w w2 := after_after inferInstance a2
  clear a2
  have i0_ : w2.cell? ⟨w.heap.size + 1, 0, none⟩ = some (.int .i64 2) := by rw [z1.out.cell]; rfl
  have i1_ : w2.cell? ⟨w.heap.size + 1, 1, none⟩ = some (.int .i64 a) := by rw [z1.out.cell]; rfl
  have i2_ : w2.cell? ⟨w.heap.size + 1, 2, none⟩ = some (.int .i64 b) := by rw [z1.out.cell]; rfl
  have i3_ : w2.cell? ⟨w.heap.size + 1, 3, none⟩ = some (.int .i64 c) := by rw [z1.out.cell]; rfl
  have i4_ : w2.cell? ⟨w.heap.size + 1, 4, none⟩ = some (.int .i64 d) := by rw [z1.out.cell]; rfl
  have li_ := z1.out.is_le
  have ZB := Lib.hid (Blk.new w2 87 #[.string ⟨#[109, 111, 118, 101]⟩, .int .i64 1, .int .i64 1, .int .i64 0, .int .i64 0, .int .i64 0])
  have Z0 := Lib.hid (z0.out.alloc (.cells #[.string ⟨#[109, 111, 118, 101]⟩, .int .i64 1, .int .i64 1, .int .i64 0, .int .i64 0, .int .i64 0] 87))
  have Z1 := Lib.hid (z1.out.alloc (.cells #[.string ⟨#[109, 111, 118, 101]⟩, .int .i64 1, .int .i64 1, .int .i64 0, .int .i64 0, .int .i64 0] 87))
  have Z2 := Lib.hid (z2.out.alloc (.cells #[.string ⟨#[109, 111, 118, 101]⟩, .int .i64 1, .int .i64 1, .int .i64 0, .int .i64 0, .int .i64 0] 87))
  go_wp2_with fail
  refine (hf1.out _).mono ?_
  rintro e w4 ⟨rfl, a4⟩
  have aw4 : After w w4 := after_after aw2 (after_after inferInstance a4)
  obtain ⟨g7, hg7⟩ : ∃ g7, w2.heap.size = g7 := ⟨_, rfl⟩
  have HK : Hid (∀ U : World, After w4 U → U.cell? ⟨g7, 1, none⟩ = some (.int .i64 1) ∧ U.cell? ⟨g7, 2, none⟩ = some (.int .i64 1) ∧ U.cell? ⟨g7, 3, none⟩ = some (.int .i64 0) ∧ U.cell? ⟨g7, 4, none⟩ = some (.int .i64 0) ∧ U.cell? ⟨g7, 5, none⟩ = some (.int .i64 0) ∧ U.cell? ⟨w.heap.size, 0, none⟩ = some (.slice A m.enums.length c_) ∧ U.cell? ⟨w.heap.size, 1, none⟩ = some (.slice (some ⟨bq, pq, none⟩) m.rts.length cm_) ∧ U.cell? ⟨w.heap.size + 1, 1, none⟩ = some (.int .i64 a) ∧ U.cell? ⟨w.heap.size + 2, 3, none⟩ = some (.int .i64 r.regs) ∧ U.cell? ⟨w.heap.size + 2, 4, none⟩ = some (.slice A3 r.init.length c3) ∧ Le (g7 + 1) U ∧ Le (w.heap.size + 2 + 1) U ∧ Le (w.heap.size + 1 + 1) U ∧ Le (w.heap.size + 1) U) := fun U hU => by
    have y0 := (Z0.out.after (w' := w4) (k := a4)).after (w' := U)
    have y1 := (Z1.out.after (w' := w4) (k := a4)).after (w' := U)
    have y2 := (Z2.out.after (w' := w4) (k := a4)).after (w' := U)
    have y3 := (ZB.out.after (w' := w4) (k := a4)).after (w' := U)
    rw [hg7] at y3
    exact ⟨by rw [y3.cell]; rfl, by rw [y3.cell]; rfl, by rw [y3.cell]; rfl, by rw [y3.cell]; rfl, by rw [y3.cell]; rfl, by rw [y0.cell]; rfl, by rw [y0.cell]; rfl, by rw [y1.cell]; rfl, by rw [y2.cell]; rfl, by rw [y2.cell]; rfl, y3.is_le, y2.is_le, y1.is_le, y0.is_le⟩
  clear a4
  obtain ⟨f0_, f1_, f2_, f3_, f4_, f5_, f6_, f7_, f8_, f9_, f10_, f11_, f12_, f13_⟩ := HK.out w4 inferInstance
  have ix0 := fun W : World => idx0 a b c d W
  have ix1 := fun W : World => idx1 a b c d W
  have ix2 := fun W : World => idx2 a b c d W
  have ix3 := fun W : World => idx3 a b c d W
  go_wp2_with fail
  refine wp_loop_rounds 5 ?_
  rw [rounds_succ]
  go_wp2_with fail
  refine (HW0.out _).mono ?_
  rintro e w9 ⟨rfl, rfl⟩
  go_wp2_with fail
  rw [rounds_succ]
  go_wp2_with fail
  refine (HW1.out _).mono ?_
  rintro e w9 ⟨rfl, rfl⟩
  go_wp2_with fail
  rw [rounds_succ]
  go_wp2_with fail
  rw [rounds_succ]
  go_wp2_with fail
  rw [rounds_succ]
  go_wp2_with fail
  go_ret
  first | exact ⟨rfl, aw4⟩ | exact ⟨rfl, inferInstance⟩ | exact ⟨ret_bool (by simp; omega), inferInstance⟩ | exact ⟨ret_bool (by simp; omega), aw4⟩

set_option maxRecDepth 100000 in
set_option maxHeartbeats 8000000 in
theorem ranges_3 {w0 : World} {A c_ A' cm_ m} (x : RIm w0 A c_ A' cm_ m) (w : World) (hO : Ops w0) (hw : After w0 w) (k_ : Nat) (hk_ : k_ < m.rts.length) (r : Rtn) (hr : m.rts[k_]? = some r) (hreg : r.regs ≤ 32768) (a b c d : Int) :
    Calls Tryd.prog 51 #[.agg #[.slice A m.enums.length c_, .slice A' m.rts.length cm_], .int .i64 k_, .agg #[.int .i64 3, .int .i64 a, .int .i64 b, .int .i64 c, .int .i64 d]] w fun e w' => e = .returned (.bool (rangeB m r k_ ⟨3, a, b, c, d⟩)) ∧ After w w' := by
  have hl_ := x.rts.len
  have hkI : (k_ : Int) < (m.rts.length : Int) := by omega
  obtain ⟨bq, pq, s, A1, c1, A2, c2, A3, c3, A4, c4, r', rfl, hle_, HX, HR, e0, e1, e2, e3, e4, e5⟩ := (x.rts.here w).part hk_
  obtain rfl : r = r' := by
    have h1 := HX.out
    rw [hr] at h1
    injection h1 with h1
  have hin_ := HR.out.init.len
  have hlq : Le (bq + 1) w := hle_
  have hni : ((calledR m a).init.length : Int) ≤ ((calledR m a).init.length : Int) := Int.le_refl _
  rw [rangeB_3]
  by_cases h0 : withinB a 1 r.regs = true
  rotate_left
  · replace h0 : withinB a 1 r.regs = false := by simpa using h0
    rw [show (withinB a 1 r.regs && withinB b 1 r.init.length) = false by simp [h0]]
    have HW0 := Lib.hid (fun U : World => within_any U a 1 r.regs (by omega))
    rw [h0] at HW0
    have hk1 := Lib.hid (fun U (hU : After w U) => known_3 w0 U hO (after_after hw hU))
    have hf1 := Lib.hid (fun U : World => fields_any U 3 a b c d)
    have x' := Lib.hid x
    clear x
    go_enter Tryd.func51, Tryd.ntmps51
    go_wp2_with fail
    refine (hk1.out _ inferInstance).mono ?_
    rintro e w2 ⟨rfl, a2⟩
    have z0 := Lib.hid ((((Blk.new w 29 #[.slice A m.enums.length c_, .slice (some ⟨bq, pq, none⟩) m.rts.length cm_]).alloc (.cells #[.int .i64 3, .int .i64 a, .int .i64 b, .int .i64 c, .int .i64 d] 61)).alloc (.cells #[.string s, .slice A1 r.ins.length c1, .slice A2 r.outs.length c2, .int .i64 r.regs, .slice A3 r.init.length c3, .slice A4 r.code.length c4] 52)).after (w' := w2))
    have z1 := Lib.hid (((Blk.new1 w (.cells #[.slice A m.enums.length c_, .slice (some ⟨bq, pq, none⟩) m.rts.length cm_] 29) 61 #[.int .i64 3, .int .i64 a, .int .i64 b, .int .i64 c, .int .i64 d]).alloc (.cells #[.string s, .slice A1 r.ins.length c1, .slice A2 r.outs.length c2, .int .i64 r.regs, .slice A3 r.init.length c3, .slice A4 r.code.length c4] 52)).after (w' := w2))
    have z2 := Lib.hid ((Blk.new2 w (.cells #[.slice A m.enums.length c_, .slice (some ⟨bq, pq, none⟩) m.rts.length cm_] 29) (.cells #[.int .i64 3, .int .i64 a, .int .i64 b, .int .i64 c, .int .i64 d] 61) 52 #[.string s, .slice A1 r.ins.length c1, .slice A2 r.outs.length c2, .int .i64 r.regs, .slice A3 r.init.length c3, .slice A4 r.code.length c4]).after (w' := w2))
    have aw2 : After w w2 := after_after inferInstance a2
    clear a2
    have i0_ : w2.cell? ⟨w.heap.size + 1, 0, none⟩ = some (.int .i64 3) := by rw [z1.out.cell]; rfl
    have i1_ : w2.cell? ⟨w.heap.size + 1, 1, none⟩ = some (.int .i64 a) := by rw [z1.out.cell]; rfl
    have i2_ : w2.cell? ⟨w.heap.size + 1, 2, none⟩ = some (.int .i64 b) := by rw [z1.out.cell]; rfl
    have i3_ : w2.cell? ⟨w.heap.size + 1, 3, none⟩ = some (.int .i64 c) := by rw [z1.out.cell]; rfl
    have i4_ : w2.cell? ⟨w.heap.size + 1, 4, none⟩ = some (.int .i64 d) := by rw [z1.out.cell]; rfl
    have li_ := z1.out.is_le
    have ZB := Lib.hid (Blk.new w2 87 #[.string ⟨#[114, 101, 97, 100]⟩, .int .i64 1, .int .i64 2, .int .i64 0, .int .i64 0, .int .i64 0])
    have Z0 := Lib.hid (z0.out.alloc (.cells #[.string ⟨#[114, 101, 97, 100]⟩, .int .i64 1, .int .i64 2, .int .i64 0, .int .i64 0, .int .i64 0] 87))
    have Z1 := Lib.hid (z1.out.alloc (.cells #[.string ⟨#[114, 101, 97, 100]⟩, .int .i64 1, .int .i64 2, .int .i64 0, .int .i64 0, .int .i64 0] 87))
    have Z2 := Lib.hid (z2.out.alloc (.cells #[.string ⟨#[114, 101, 97, 100]⟩, .int .i64 1, .int .i64 2, .int .i64 0, .int .i64 0, .int .i64 0] 87))
    go_wp2_with fail
    refine (hf1.out _).mono ?_
    rintro e w4 ⟨rfl, a4⟩
    have aw4 : After w w4 := after_after aw2 (after_after inferInstance a4)
    obtain ⟨g7, hg7⟩ : ∃ g7, w2.heap.size = g7 := ⟨_, rfl⟩
    have HK : Hid (∀ U : World, After w4 U → U.cell? ⟨g7, 1, none⟩ = some (.int .i64 1) ∧ U.cell? ⟨g7, 2, none⟩ = some (.int .i64 2) ∧ U.cell? ⟨g7, 3, none⟩ = some (.int .i64 0) ∧ U.cell? ⟨g7, 4, none⟩ = some (.int .i64 0) ∧ U.cell? ⟨g7, 5, none⟩ = some (.int .i64 0) ∧ U.cell? ⟨w.heap.size, 0, none⟩ = some (.slice A m.enums.length c_) ∧ U.cell? ⟨w.heap.size, 1, none⟩ = some (.slice (some ⟨bq, pq, none⟩) m.rts.length cm_) ∧ U.cell? ⟨w.heap.size + 1, 1, none⟩ = some (.int .i64 a) ∧ U.cell? ⟨w.heap.size + 2, 3, none⟩ = some (.int .i64 r.regs) ∧ U.cell? ⟨w.heap.size + 2, 4, none⟩ = some (.slice A3 r.init.length c3) ∧ Le (g7 + 1) U ∧ Le (w.heap.size + 2 + 1) U ∧ Le (w.heap.size + 1 + 1) U ∧ Le (w.heap.size + 1) U) := fun U hU => by
      have y0 := (Z0.out.after (w' := w4) (k := a4)).after (w' := U)
      have y1 := (Z1.out.after (w' := w4) (k := a4)).after (w' := U)
      have y2 := (Z2.out.after (w' := w4) (k := a4)).after (w' := U)
      have y3 := (ZB.out.after (w' := w4) (k := a4)).after (w' := U)
      rw [hg7] at y3
      exact ⟨by rw [y3.cell]; rfl, by rw [y3.cell]; rfl, by rw [y3.cell]; rfl, by rw [y3.cell]; rfl, by rw [y3.cell]; rfl, by rw [y0.cell]; rfl, by rw [y0.cell]; rfl, by rw [y1.cell]; rfl, by rw [y2.cell]; rfl, by rw [y2.cell]; rfl, y3.is_le, y2.is_le, y1.is_le, y0.is_le⟩
    clear a4
    obtain ⟨f0_, f1_, f2_, f3_, f4_, f5_, f6_, f7_, f8_, f9_, f10_, f11_, f12_, f13_⟩ := HK.out w4 inferInstance
    have ix0 := fun W : World => idx0 a b c d W
    have ix1 := fun W : World => idx1 a b c d W
    have ix2 := fun W : World => idx2 a b c d W
    have ix3 := fun W : World => idx3 a b c d W
    go_wp2_with fail
    refine wp_loop_rounds 5 ?_
    rw [rounds_succ]
    go_wp2_with fail
    refine (HW0.out _).mono ?_
    rintro e w9 ⟨rfl, rfl⟩
    go_wp2_with fail
    rw [rounds_succ]
    go_wp2_with fail
    rw [rounds_succ]
    go_wp2_with fail
    rw [rounds_succ]
    go_wp2_with fail
    rw [rounds_succ]
    go_wp2_with fail
    go_ret
    first | exact ⟨rfl, aw4⟩ | exact ⟨rfl, inferInstance⟩ | exact ⟨ret_bool (by simp; omega), inferInstance⟩ | exact ⟨ret_bool (by simp; omega), aw4⟩
  by_cases h1 : withinB b 1 r.init.length = true
  rotate_left
  · replace h1 : withinB b 1 r.init.length = false := by simpa using h1
    rw [show (withinB a 1 r.regs && withinB b 1 r.init.length) = false by simp [h0, h1]]
    have HW0 := Lib.hid (fun U : World => within_any U a 1 r.regs (by omega))
    rw [h0] at HW0
    have HW1 := Lib.hid (fun U : World => within_any U b 1 (r.init.length : Nat) (by omega))
    rw [h1] at HW1
    have hk1 := Lib.hid (fun U (hU : After w U) => known_3 w0 U hO (after_after hw hU))
    have hf1 := Lib.hid (fun U : World => fields_any U 3 a b c d)
    have x' := Lib.hid x
    clear x
    go_enter Tryd.func51, Tryd.ntmps51
    go_wp2_with fail
    refine (hk1.out _ inferInstance).mono ?_
    rintro e w2 ⟨rfl, a2⟩
    have z0 := Lib.hid ((((Blk.new w 29 #[.slice A m.enums.length c_, .slice (some ⟨bq, pq, none⟩) m.rts.length cm_]).alloc (.cells #[.int .i64 3, .int .i64 a, .int .i64 b, .int .i64 c, .int .i64 d] 61)).alloc (.cells #[.string s, .slice A1 r.ins.length c1, .slice A2 r.outs.length c2, .int .i64 r.regs, .slice A3 r.init.length c3, .slice A4 r.code.length c4] 52)).after (w' := w2))
    have z1 := Lib.hid (((Blk.new1 w (.cells #[.slice A m.enums.length c_, .slice (some ⟨bq, pq, none⟩) m.rts.length cm_] 29) 61 #[.int .i64 3, .int .i64 a, .int .i64 b, .int .i64 c, .int .i64 d]).alloc (.cells #[.string s, .slice A1 r.ins.length c1, .slice A2 r.outs.length c2, .int .i64 r.regs, .slice A3 r.init.length c3, .slice A4 r.code.length c4] 52)).after (w' := w2))
    have z2 := Lib.hid ((Blk.new2 w (.cells #[.slice A m.enums.length c_, .slice (some ⟨bq, pq, none⟩) m.rts.length cm_] 29) (.cells #[.int .i64 3, .int .i64 a, .int .i64 b, .int .i64 c, .int .i64 d] 61) 52 #[.string s, .slice A1 r.ins.length c1, .slice A2 r.outs.length c2, .int .i64 r.regs, .slice A3 r.init.length c3, .slice A4 r.code.length c4]).after (w' := w2))
    have aw2 : After w w2 := after_after inferInstance a2
    clear a2
    have i0_ : w2.cell? ⟨w.heap.size + 1, 0, none⟩ = some (.int .i64 3) := by rw [z1.out.cell]; rfl
    have i1_ : w2.cell? ⟨w.heap.size + 1, 1, none⟩ = some (.int .i64 a) := by rw [z1.out.cell]; rfl
    have i2_ : w2.cell? ⟨w.heap.size + 1, 2, none⟩ = some (.int .i64 b) := by rw [z1.out.cell]; rfl
    have i3_ : w2.cell? ⟨w.heap.size + 1, 3, none⟩ = some (.int .i64 c) := by rw [z1.out.cell]; rfl
    have i4_ : w2.cell? ⟨w.heap.size + 1, 4, none⟩ = some (.int .i64 d) := by rw [z1.out.cell]; rfl
    have li_ := z1.out.is_le
    have ZB := Lib.hid (Blk.new w2 87 #[.string ⟨#[114, 101, 97, 100]⟩, .int .i64 1, .int .i64 2, .int .i64 0, .int .i64 0, .int .i64 0])
    have Z0 := Lib.hid (z0.out.alloc (.cells #[.string ⟨#[114, 101, 97, 100]⟩, .int .i64 1, .int .i64 2, .int .i64 0, .int .i64 0, .int .i64 0] 87))
    have Z1 := Lib.hid (z1.out.alloc (.cells #[.string ⟨#[114, 101, 97, 100]⟩, .int .i64 1, .int .i64 2, .int .i64 0, .int .i64 0, .int .i64 0] 87))
    have Z2 := Lib.hid (z2.out.alloc (.cells #[.string ⟨#[114, 101, 97, 100]⟩, .int .i64 1, .int .i64 2, .int .i64 0, .int .i64 0, .int .i64 0] 87))
    go_wp2_with fail
    refine (hf1.out _).mono ?_
    rintro e w4 ⟨rfl, a4⟩
    have aw4 : After w w4 := after_after aw2 (after_after inferInstance a4)
    obtain ⟨g7, hg7⟩ : ∃ g7, w2.heap.size = g7 := ⟨_, rfl⟩
    have HK : Hid (∀ U : World, After w4 U → U.cell? ⟨g7, 1, none⟩ = some (.int .i64 1) ∧ U.cell? ⟨g7, 2, none⟩ = some (.int .i64 2) ∧ U.cell? ⟨g7, 3, none⟩ = some (.int .i64 0) ∧ U.cell? ⟨g7, 4, none⟩ = some (.int .i64 0) ∧ U.cell? ⟨g7, 5, none⟩ = some (.int .i64 0) ∧ U.cell? ⟨w.heap.size, 0, none⟩ = some (.slice A m.enums.length c_) ∧ U.cell? ⟨w.heap.size, 1, none⟩ = some (.slice (some ⟨bq, pq, none⟩) m.rts.length cm_) ∧ U.cell? ⟨w.heap.size + 1, 1, none⟩ = some (.int .i64 a) ∧ U.cell? ⟨w.heap.size + 2, 3, none⟩ = some (.int .i64 r.regs) ∧ U.cell? ⟨w.heap.size + 2, 4, none⟩ = some (.slice A3 r.init.length c3) ∧ Le (g7 + 1) U ∧ Le (w.heap.size + 2 + 1) U ∧ Le (w.heap.size + 1 + 1) U ∧ Le (w.heap.size + 1) U) := fun U hU => by
      have y0 := (Z0.out.after (w' := w4) (k := a4)).after (w' := U)
      have y1 := (Z1.out.after (w' := w4) (k := a4)).after (w' := U)
      have y2 := (Z2.out.after (w' := w4) (k := a4)).after (w' := U)
      have y3 := (ZB.out.after (w' := w4) (k := a4)).after (w' := U)
      rw [hg7] at y3
      exact ⟨by rw [y3.cell]; rfl, by rw [y3.cell]; rfl, by rw [y3.cell]; rfl, by rw [y3.cell]; rfl, by rw [y3.cell]; rfl, by rw [y0.cell]; rfl, by rw [y0.cell]; rfl, by rw [y1.cell]; rfl, by rw [y2.cell]; rfl, by rw [y2.cell]; rfl, y3.is_le, y2.is_le, y1.is_le, y0.is_le⟩
    clear a4
    obtain ⟨f0_, f1_, f2_, f3_, f4_, f5_, f6_, f7_, f8_, f9_, f10_, f11_, f12_, f13_⟩ := HK.out w4 inferInstance
    have ix0 := fun W : World => idx0 a b c d W
    have ix1 := fun W : World => idx1 a b c d W
    have ix2 := fun W : World => idx2 a b c d W
    have ix3 := fun W : World => idx3 a b c d W
    go_wp2_with fail
    refine wp_loop_rounds 5 ?_
    rw [rounds_succ]
    go_wp2_with fail
    refine (HW0.out _).mono ?_
    rintro e w9 ⟨rfl, rfl⟩
    go_wp2_with fail
    rw [rounds_succ]
    go_wp2_with fail
    refine (HW1.out _).mono ?_
    rintro e w9 ⟨rfl, rfl⟩
    go_wp2_with fail
    rw [rounds_succ]
    go_wp2_with fail
    rw [rounds_succ]
    go_wp2_with fail
    rw [rounds_succ]
    go_wp2_with fail
    go_ret
    first | exact ⟨rfl, aw4⟩ | exact ⟨rfl, inferInstance⟩ | exact ⟨ret_bool (by simp; omega), inferInstance⟩ | exact ⟨ret_bool (by simp; omega), aw4⟩
  rw [show (withinB a 1 r.regs && withinB b 1 r.init.length) = true by simp [h0, h1]]
  have HW0 := Lib.hid (fun U : World => within_any U a 1 r.regs (by omega))
  rw [h0] at HW0
  have HW1 := Lib.hid (fun U : World => within_any U b 1 (r.init.length : Nat) (by omega))
  rw [h1] at HW1
  have hk1 := Lib.hid (fun U (hU : After w U) => known_3 w0 U hO (after_after hw hU))
  have hf1 := Lib.hid (fun U : World => fields_any U 3 a b c d)
  have x' := Lib.hid x
  clear x
  go_enter Tryd.func51, Tryd.ntmps51
  go_wp2_with fail
  refine (hk1.out _ inferInstance).mono ?_
  rintro e w2 ⟨rfl, a2⟩
  have z0 := Lib.hid ((((Blk.new w 29 #[.slice A m.enums.length c_, .slice (some ⟨bq, pq, none⟩) m.rts.length cm_]).alloc (.cells #[.int .i64 3, .int .i64 a, .int .i64 b, .int .i64 c, .int .i64 d] 61)).alloc (.cells #[.string s, .slice A1 r.ins.length c1, .slice A2 r.outs.length c2, .int .i64 r.regs, .slice A3 r.init.length c3, .slice A4 r.code.length c4] 52)).after (w' := w2))
  have z1 := Lib.hid (((Blk.new1 w (.cells #[.slice A m.enums.length c_, .slice (some ⟨bq, pq, none⟩) m.rts.length cm_] 29) 61 #[.int .i64 3, .int .i64 a, .int .i64 b, .int .i64 c, .int .i64 d]).alloc (.cells #[.string s, .slice A1 r.ins.length c1, .slice A2 r.outs.length c2, .int .i64 r.regs, .slice A3 r.init.length c3, .slice A4 r.code.length c4] 52)).after (w' := w2))
  have z2 := Lib.hid ((Blk.new2 w (.cells #[.slice A m.enums.length c_, .slice (some ⟨bq, pq, none⟩) m.rts.length cm_] 29) (.cells #[.int .i64 3, .int .i64 a, .int .i64 b, .int .i64 c, .int .i64 d] 61) 52 #[.string s, .slice A1 r.ins.length c1, .slice A2 r.outs.length c2, .int .i64 r.regs, .slice A3 r.init.length c3, .slice A4 r.code.length c4]).after (w' := w2))
  have aw2 : After w w2 := after_after inferInstance a2
  clear a2
  have i0_ : w2.cell? ⟨w.heap.size + 1, 0, none⟩ = some (.int .i64 3) := by rw [z1.out.cell]; rfl
  have i1_ : w2.cell? ⟨w.heap.size + 1, 1, none⟩ = some (.int .i64 a) := by rw [z1.out.cell]; rfl
  have i2_ : w2.cell? ⟨w.heap.size + 1, 2, none⟩ = some (.int .i64 b) := by rw [z1.out.cell]; rfl
  have i3_ : w2.cell? ⟨w.heap.size + 1, 3, none⟩ = some (.int .i64 c) := by rw [z1.out.cell]; rfl
  have i4_ : w2.cell? ⟨w.heap.size + 1, 4, none⟩ = some (.int .i64 d) := by rw [z1.out.cell]; rfl
  have li_ := z1.out.is_le
  have ZB := Lib.hid (Blk.new w2 87 #[.string ⟨#[114, 101, 97, 100]⟩, .int .i64 1, .int .i64 2, .int .i64 0, .int .i64 0, .int .i64 0])
  have Z0 := Lib.hid (z0.out.alloc (.cells #[.string ⟨#[114, 101, 97, 100]⟩, .int .i64 1, .int .i64 2, .int .i64 0, .int .i64 0, .int .i64 0] 87))
  have Z1 := Lib.hid (z1.out.alloc (.cells #[.string ⟨#[114, 101, 97, 100]⟩, .int .i64 1, .int .i64 2, .int .i64 0, .int .i64 0, .int .i64 0] 87))
  have Z2 := Lib.hid (z2.out.alloc (.cells #[.string ⟨#[114, 101, 97, 100]⟩, .int .i64 1, .int .i64 2, .int .i64 0, .int .i64 0, .int .i64 0] 87))
  go_wp2_with fail
  refine (hf1.out _).mono ?_
  rintro e w4 ⟨rfl, a4⟩
  have aw4 : After w w4 := after_after aw2 (after_after inferInstance a4)
  obtain ⟨g7, hg7⟩ : ∃ g7, w2.heap.size = g7 := ⟨_, rfl⟩
  have HK : Hid (∀ U : World, After w4 U → U.cell? ⟨g7, 1, none⟩ = some (.int .i64 1) ∧ U.cell? ⟨g7, 2, none⟩ = some (.int .i64 2) ∧ U.cell? ⟨g7, 3, none⟩ = some (.int .i64 0) ∧ U.cell? ⟨g7, 4, none⟩ = some (.int .i64 0) ∧ U.cell? ⟨g7, 5, none⟩ = some (.int .i64 0) ∧ U.cell? ⟨w.heap.size, 0, none⟩ = some (.slice A m.enums.length c_) ∧ U.cell? ⟨w.heap.size, 1, none⟩ = some (.slice (some ⟨bq, pq, none⟩) m.rts.length cm_) ∧ U.cell? ⟨w.heap.size + 1, 1, none⟩ = some (.int .i64 a) ∧ U.cell? ⟨w.heap.size + 2, 3, none⟩ = some (.int .i64 r.regs) ∧ U.cell? ⟨w.heap.size + 2, 4, none⟩ = some (.slice A3 r.init.length c3) ∧ Le (g7 + 1) U ∧ Le (w.heap.size + 2 + 1) U ∧ Le (w.heap.size + 1 + 1) U ∧ Le (w.heap.size + 1) U) := fun U hU => by
    have y0 := (Z0.out.after (w' := w4) (k := a4)).after (w' := U)
    have y1 := (Z1.out.after (w' := w4) (k := a4)).after (w' := U)
    have y2 := (Z2.out.after (w' := w4) (k := a4)).after (w' := U)
    have y3 := (ZB.out.after (w' := w4) (k := a4)).after (w' := U)
    rw [hg7] at y3
    exact ⟨by rw [y3.cell]; rfl, by rw [y3.cell]; rfl, by rw [y3.cell]; rfl, by rw [y3.cell]; rfl, by rw [y3.cell]; rfl, by rw [y0.cell]; rfl, by rw [y0.cell]; rfl, by rw [y1.cell]; rfl, by rw [y2.cell]; rfl, by rw [y2.cell]; rfl, y3.is_le, y2.is_le, y1.is_le, y0.is_le⟩
  clear a4
  obtain ⟨f0_, f1_, f2_, f3_, f4_, f5_, f6_, f7_, f8_, f9_, f10_, f11_, f12_, f13_⟩ := HK.out w4 inferInstance
  have ix0 := fun W : World => idx0 a b c d W
  have ix1 := fun W : World => idx1 a b c d W
  have ix2 := fun W : World => idx2 a b c d W
  have ix3 := fun W : World => idx3 a b c d W
  go_wp2_with fail
  refine wp_loop_rounds 5 ?_
  rw [rounds_succ]
  go_wp2_with fail
  refine (HW0.out _).mono ?_
  rintro e w9 ⟨rfl, rfl⟩
  go_wp2_with fail
  rw [rounds_succ]
  go_wp2_with fail
  refine (HW1.out _).mono ?_
  rintro e w9 ⟨rfl, rfl⟩
  go_wp2_with fail
  rw [rounds_succ]
  go_wp2_with fail
  rw [rounds_succ]
  go_wp2_with fail
  rw [rounds_succ]
  go_wp2_with fail
  go_ret
  first | exact ⟨rfl, aw4⟩ | exact ⟨rfl, inferInstance⟩ | exact ⟨ret_bool (by simp; omega), inferInstance⟩ | exact ⟨ret_bool (by simp; omega), aw4⟩

set_option maxRecDepth 100000 in
set_option maxHeartbeats 8000000 in
theorem ranges_4 {w0 : World} {A c_ A' cm_ m} (x : RIm w0 A c_ A' cm_ m) (w : World) (hO : Ops w0) (hw : After w0 w) (k_ : Nat) (hk_ : k_ < m.rts.length) (r : Rtn) (hr : m.rts[k_]? = some r) (hreg : r.regs ≤ 32768) (a b c d : Int) :
    Calls Tryd.prog 51 #[.agg #[.slice A m.enums.length c_, .slice A' m.rts.length cm_], .int .i64 k_, .agg #[.int .i64 4, .int .i64 a, .int .i64 b, .int .i64 c, .int .i64 d]] w fun e w' => e = .returned (.bool (rangeB m r k_ ⟨4, a, b, c, d⟩)) ∧ After w w' := by
  have hl_ := x.rts.len
  have hkI : (k_ : Int) < (m.rts.length : Int) := by omega
  obtain ⟨bq, pq, s, A1, c1, A2, c2, A3, c3, A4, c4, r', rfl, hle_, HX, HR, e0, e1, e2, e3, e4, e5⟩ := (x.rts.here w).part hk_
  obtain rfl : r = r' := by
    have h1 := HX.out
    rw [hr] at h1
    injection h1 with h1
  have hin_ := HR.out.init.len
  have hlq : Le (bq + 1) w := hle_
  have hni : ((calledR m a).init.length : Int) ≤ ((calledR m a).init.length : Int) := Int.le_refl _
  rw [rangeB_4]
  by_cases h0 : withinB a 1 r.init.length = true
  rotate_left
  · replace h0 : withinB a 1 r.init.length = false := by simpa using h0
    rw [show (withinB a 1 r.init.length && withinB b 1 r.regs) = false by simp [h0]]
    have HW0 := Lib.hid (fun U : World => within_any U a 1 (r.init.length : Nat) (by omega))
    rw [h0] at HW0
    have hk1 := Lib.hid (fun U (hU : After w U) => known_4 w0 U hO (after_after hw hU))
    have hf1 := Lib.hid (fun U : World => fields_any U 4 a b c d)
    have x' := Lib.hid x
    clear x
    go_enter Tryd.func51, Tryd.ntmps51
    go_wp2_with fail
    refine (hk1.out _ inferInstance).mono ?_
    rintro e w2 ⟨rfl, a2⟩
    have z0 := Lib.hid ((((Blk.new w 29 #[.slice A m.enums.length c_, .slice (some ⟨bq, pq, none⟩) m.rts.length cm_]).alloc (.cells #[.int .i64 4, .int .i64 a, .int .i64 b, .int .i64 c, .int .i64 d] 61)).alloc (.cells #[.string s, .slice A1 r.ins.length c1, .slice A2 r.outs.length c2, .int .i64 r.regs, .slice A3 r.init.length c3, .slice A4 r.code.length c4] 52)).after (w' := w2))
    have z1 := Lib.hid (((Blk.new1 w (.cells #[.slice A m.enums.length c_, .slice (some ⟨bq, pq, none⟩) m.rts.length cm_] 29) 61 #[.int .i64 4, .int .i64 a, .int .i64 b, .int .i64 c, .int .i64 d]).alloc (.cells #[.string s, .slice A1 r.ins.length c1, .slice A2 r.outs.length c2, .int .i64 r.regs, .slice A3 r.init.length c3, .slice A4 r.code.length c4] 52)).after (w' := w2))
    have z2 := Lib.hid ((Blk.new2 w (.cells #[.slice A m.enums.length c_, .slice (some ⟨bq, pq, none⟩) m.rts.length cm_] 29) (.cells #[.int .i64 4, .int .i64 a, .int .i64 b, .int .i64 c, .int .i64 d] 61) 52 #[.string s, .slice A1 r.ins.length c1, .slice A2 r.outs.length c2, .int .i64 r.regs, .slice A3 r.init.length c3, .slice A4 r.code.length c4]).after (w' := w2))
    have aw2 : After w w2 := after_after inferInstance a2
    clear a2
    have i0_ : w2.cell? ⟨w.heap.size + 1, 0, none⟩ = some (.int .i64 4) := by rw [z1.out.cell]; rfl
    have i1_ : w2.cell? ⟨w.heap.size + 1, 1, none⟩ = some (.int .i64 a) := by rw [z1.out.cell]; rfl
    have i2_ : w2.cell? ⟨w.heap.size + 1, 2, none⟩ = some (.int .i64 b) := by rw [z1.out.cell]; rfl
    have i3_ : w2.cell? ⟨w.heap.size + 1, 3, none⟩ = some (.int .i64 c) := by rw [z1.out.cell]; rfl
    have i4_ : w2.cell? ⟨w.heap.size + 1, 4, none⟩ = some (.int .i64 d) := by rw [z1.out.cell]; rfl
    have li_ := z1.out.is_le
    have ZB := Lib.hid (Blk.new w2 87 #[.string ⟨#[119, 114, 105, 116, 101]⟩, .int .i64 2, .int .i64 1, .int .i64 0, .int .i64 0, .int .i64 0])
    have Z0 := Lib.hid (z0.out.alloc (.cells #[.string ⟨#[119, 114, 105, 116, 101]⟩, .int .i64 2, .int .i64 1, .int .i64 0, .int .i64 0, .int .i64 0] 87))
    have Z1 := Lib.hid (z1.out.alloc (.cells #[.string ⟨#[119, 114, 105, 116, 101]⟩, .int .i64 2, .int .i64 1, .int .i64 0, .int .i64 0, .int .i64 0] 87))
    have Z2 := Lib.hid (z2.out.alloc (.cells #[.string ⟨#[119, 114, 105, 116, 101]⟩, .int .i64 2, .int .i64 1, .int .i64 0, .int .i64 0, .int .i64 0] 87))
    go_wp2_with fail
    refine (hf1.out _).mono ?_
    rintro e w4 ⟨rfl, a4⟩
    have aw4 : After w w4 := after_after aw2 (after_after inferInstance a4)
    obtain ⟨g7, hg7⟩ : ∃ g7, w2.heap.size = g7 := ⟨_, rfl⟩
    have HK : Hid (∀ U : World, After w4 U → U.cell? ⟨g7, 1, none⟩ = some (.int .i64 2) ∧ U.cell? ⟨g7, 2, none⟩ = some (.int .i64 1) ∧ U.cell? ⟨g7, 3, none⟩ = some (.int .i64 0) ∧ U.cell? ⟨g7, 4, none⟩ = some (.int .i64 0) ∧ U.cell? ⟨g7, 5, none⟩ = some (.int .i64 0) ∧ U.cell? ⟨w.heap.size, 0, none⟩ = some (.slice A m.enums.length c_) ∧ U.cell? ⟨w.heap.size, 1, none⟩ = some (.slice (some ⟨bq, pq, none⟩) m.rts.length cm_) ∧ U.cell? ⟨w.heap.size + 1, 1, none⟩ = some (.int .i64 a) ∧ U.cell? ⟨w.heap.size + 2, 3, none⟩ = some (.int .i64 r.regs) ∧ U.cell? ⟨w.heap.size + 2, 4, none⟩ = some (.slice A3 r.init.length c3) ∧ Le (g7 + 1) U ∧ Le (w.heap.size + 2 + 1) U ∧ Le (w.heap.size + 1 + 1) U ∧ Le (w.heap.size + 1) U) := fun U hU => by
      have y0 := (Z0.out.after (w' := w4) (k := a4)).after (w' := U)
      have y1 := (Z1.out.after (w' := w4) (k := a4)).after (w' := U)
      have y2 := (Z2.out.after (w' := w4) (k := a4)).after (w' := U)
      have y3 := (ZB.out.after (w' := w4) (k := a4)).after (w' := U)
      rw [hg7] at y3
      exact ⟨by rw [y3.cell]; rfl, by rw [y3.cell]; rfl, by rw [y3.cell]; rfl, by rw [y3.cell]; rfl, by rw [y3.cell]; rfl, by rw [y0.cell]; rfl, by rw [y0.cell]; rfl, by rw [y1.cell]; rfl, by rw [y2.cell]; rfl, by rw [y2.cell]; rfl, y3.is_le, y2.is_le, y1.is_le, y0.is_le⟩
    clear a4
    obtain ⟨f0_, f1_, f2_, f3_, f4_, f5_, f6_, f7_, f8_, f9_, f10_, f11_, f12_, f13_⟩ := HK.out w4 inferInstance
    have ix0 := fun W : World => idx0 a b c d W
    have ix1 := fun W : World => idx1 a b c d W
    have ix2 := fun W : World => idx2 a b c d W
    have ix3 := fun W : World => idx3 a b c d W
    go_wp2_with fail
    refine wp_loop_rounds 5 ?_
    rw [rounds_succ]
    go_wp2_with fail
    refine (HW0.out _).mono ?_
    rintro e w9 ⟨rfl, rfl⟩
    go_wp2_with fail
    rw [rounds_succ]
    go_wp2_with fail
    rw [rounds_succ]
    go_wp2_with fail
    rw [rounds_succ]
    go_wp2_with fail
    rw [rounds_succ]
    go_wp2_with fail
    go_ret
    first | exact ⟨rfl, aw4⟩ | exact ⟨rfl, inferInstance⟩ | exact ⟨ret_bool (by simp; omega), inferInstance⟩ | exact ⟨ret_bool (by simp; omega), aw4⟩
  by_cases h1 : withinB b 1 r.regs = true
  rotate_left
  · replace h1 : withinB b 1 r.regs = false := by simpa using h1
    rw [show (withinB a 1 r.init.length && withinB b 1 r.regs) = false by simp [h0, h1]]
    have HW0 := Lib.hid (fun U : World => within_any U a 1 (r.init.length : Nat) (by omega))
    rw [h0] at HW0
    have HW1 := Lib.hid (fun U : World => within_any U b 1 r.regs (by omega))
    rw [h1] at HW1
    have hk1 := Lib.hid (fun U (hU : After w U) => known_4 w0 U hO (after_after hw hU))
    have hf1 := Lib.hid (fun U : World => fields_any U 4 a b c d)
    have x' := Lib.hid x
    clear x
    go_enter Tryd.func51, Tryd.ntmps51
    go_wp2_with fail
    refine (hk1.out _ inferInstance).mono ?_
    rintro e w2 ⟨rfl, a2⟩
    have z0 := Lib.hid ((((Blk.new w 29 #[.slice A m.enums.length c_, .slice (some ⟨bq, pq, none⟩) m.rts.length cm_]).alloc (.cells #[.int .i64 4, .int .i64 a, .int .i64 b, .int .i64 c, .int .i64 d] 61)).alloc (.cells #[.string s, .slice A1 r.ins.length c1, .slice A2 r.outs.length c2, .int .i64 r.regs, .slice A3 r.init.length c3, .slice A4 r.code.length c4] 52)).after (w' := w2))
    have z1 := Lib.hid (((Blk.new1 w (.cells #[.slice A m.enums.length c_, .slice (some ⟨bq, pq, none⟩) m.rts.length cm_] 29) 61 #[.int .i64 4, .int .i64 a, .int .i64 b, .int .i64 c, .int .i64 d]).alloc (.cells #[.string s, .slice A1 r.ins.length c1, .slice A2 r.outs.length c2, .int .i64 r.regs, .slice A3 r.init.length c3, .slice A4 r.code.length c4] 52)).after (w' := w2))
    have z2 := Lib.hid ((Blk.new2 w (.cells #[.slice A m.enums.length c_, .slice (some ⟨bq, pq, none⟩) m.rts.length cm_] 29) (.cells #[.int .i64 4, .int .i64 a, .int .i64 b, .int .i64 c, .int .i64 d] 61) 52 #[.string s, .slice A1 r.ins.length c1, .slice A2 r.outs.length c2, .int .i64 r.regs, .slice A3 r.init.length c3, .slice A4 r.code.length c4]).after (w' := w2))
    have aw2 : After w w2 := after_after inferInstance a2
    clear a2
    have i0_ : w2.cell? ⟨w.heap.size + 1, 0, none⟩ = some (.int .i64 4) := by rw [z1.out.cell]; rfl
    have i1_ : w2.cell? ⟨w.heap.size + 1, 1, none⟩ = some (.int .i64 a) := by rw [z1.out.cell]; rfl
    have i2_ : w2.cell? ⟨w.heap.size + 1, 2, none⟩ = some (.int .i64 b) := by rw [z1.out.cell]; rfl
    have i3_ : w2.cell? ⟨w.heap.size + 1, 3, none⟩ = some (.int .i64 c) := by rw [z1.out.cell]; rfl
    have i4_ : w2.cell? ⟨w.heap.size + 1, 4, none⟩ = some (.int .i64 d) := by rw [z1.out.cell]; rfl
    have li_ := z1.out.is_le
    have ZB := Lib.hid (Blk.new w2 87 #[.string ⟨#[119, 114, 105, 116, 101]⟩, .int .i64 2, .int .i64 1, .int .i64 0, .int .i64 0, .int .i64 0])
    have Z0 := Lib.hid (z0.out.alloc (.cells #[.string ⟨#[119, 114, 105, 116, 101]⟩, .int .i64 2, .int .i64 1, .int .i64 0, .int .i64 0, .int .i64 0] 87))
    have Z1 := Lib.hid (z1.out.alloc (.cells #[.string ⟨#[119, 114, 105, 116, 101]⟩, .int .i64 2, .int .i64 1, .int .i64 0, .int .i64 0, .int .i64 0] 87))
    have Z2 := Lib.hid (z2.out.alloc (.cells #[.string ⟨#[119, 114, 105, 116, 101]⟩, .int .i64 2, .int .i64 1, .int .i64 0, .int .i64 0, .int .i64 0] 87))
    go_wp2_with fail
    refine (hf1.out _).mono ?_
    rintro e w4 ⟨rfl, a4⟩
    have aw4 : After w w4 := after_after aw2 (after_after inferInstance a4)
    obtain ⟨g7, hg7⟩ : ∃ g7, w2.heap.size = g7 := ⟨_, rfl⟩
    have HK : Hid (∀ U : World, After w4 U → U.cell? ⟨g7, 1, none⟩ = some (.int .i64 2) ∧ U.cell? ⟨g7, 2, none⟩ = some (.int .i64 1) ∧ U.cell? ⟨g7, 3, none⟩ = some (.int .i64 0) ∧ U.cell? ⟨g7, 4, none⟩ = some (.int .i64 0) ∧ U.cell? ⟨g7, 5, none⟩ = some (.int .i64 0) ∧ U.cell? ⟨w.heap.size, 0, none⟩ = some (.slice A m.enums.length c_) ∧ U.cell? ⟨w.heap.size, 1, none⟩ = some (.slice (some ⟨bq, pq, none⟩) m.rts.length cm_) ∧ U.cell? ⟨w.heap.size + 1, 1, none⟩ = some (.int .i64 a) ∧ U.cell? ⟨w.heap.size + 2, 3, none⟩ = some (.int .i64 r.regs) ∧ U.cell? ⟨w.heap.size + 2, 4, none⟩ = some (.slice A3 r.init.length c3) ∧ Le (g7 + 1) U ∧ Le (w.heap.size + 2 + 1) U ∧ Le (w.heap.size + 1 + 1) U ∧ Le (w.heap.size + 1) U) := fun U hU => by
      have y0 := (Z0.out.after (w' := w4) (k := a4)).after (w' := U)
      have y1 := (Z1.out.after (w' := w4) (k := a4)).after (w' := U)
      have y2 := (Z2.out.after (w' := w4) (k := a4)).after (w' := U)
      have y3 := (ZB.out.after (w' := w4) (k := a4)).after (w' := U)
      rw [hg7] at y3
      exact ⟨by rw [y3.cell]; rfl, by rw [y3.cell]; rfl, by rw [y3.cell]; rfl, by rw [y3.cell]; rfl, by rw [y3.cell]; rfl, by rw [y0.cell]; rfl, by rw [y0.cell]; rfl, by rw [y1.cell]; rfl, by rw [y2.cell]; rfl, by rw [y2.cell]; rfl, y3.is_le, y2.is_le, y1.is_le, y0.is_le⟩
    clear a4
    obtain ⟨f0_, f1_, f2_, f3_, f4_, f5_, f6_, f7_, f8_, f9_, f10_, f11_, f12_, f13_⟩ := HK.out w4 inferInstance
    have ix0 := fun W : World => idx0 a b c d W
    have ix1 := fun W : World => idx1 a b c d W
    have ix2 := fun W : World => idx2 a b c d W
    have ix3 := fun W : World => idx3 a b c d W
    go_wp2_with fail
    refine wp_loop_rounds 5 ?_
    rw [rounds_succ]
    go_wp2_with fail
    refine (HW0.out _).mono ?_
    rintro e w9 ⟨rfl, rfl⟩
    go_wp2_with fail
    rw [rounds_succ]
    go_wp2_with fail
    refine (HW1.out _).mono ?_
    rintro e w9 ⟨rfl, rfl⟩
    go_wp2_with fail
    rw [rounds_succ]
    go_wp2_with fail
    rw [rounds_succ]
    go_wp2_with fail
    rw [rounds_succ]
    go_wp2_with fail
    go_ret
    first | exact ⟨rfl, aw4⟩ | exact ⟨rfl, inferInstance⟩ | exact ⟨ret_bool (by simp; omega), inferInstance⟩ | exact ⟨ret_bool (by simp; omega), aw4⟩
  rw [show (withinB a 1 r.init.length && withinB b 1 r.regs) = true by simp [h0, h1]]
  have HW0 := Lib.hid (fun U : World => within_any U a 1 (r.init.length : Nat) (by omega))
  rw [h0] at HW0
  have HW1 := Lib.hid (fun U : World => within_any U b 1 r.regs (by omega))
  rw [h1] at HW1
  have hk1 := Lib.hid (fun U (hU : After w U) => known_4 w0 U hO (after_after hw hU))
  have hf1 := Lib.hid (fun U : World => fields_any U 4 a b c d)
  have x' := Lib.hid x
  clear x
  go_enter Tryd.func51, Tryd.ntmps51
  go_wp2_with fail
  refine (hk1.out _ inferInstance).mono ?_
  rintro e w2 ⟨rfl, a2⟩
  have z0 := Lib.hid ((((Blk.new w 29 #[.slice A m.enums.length c_, .slice (some ⟨bq, pq, none⟩) m.rts.length cm_]).alloc (.cells #[.int .i64 4, .int .i64 a, .int .i64 b, .int .i64 c, .int .i64 d] 61)).alloc (.cells #[.string s, .slice A1 r.ins.length c1, .slice A2 r.outs.length c2, .int .i64 r.regs, .slice A3 r.init.length c3, .slice A4 r.code.length c4] 52)).after (w' := w2))
  have z1 := Lib.hid (((Blk.new1 w (.cells #[.slice A m.enums.length c_, .slice (some ⟨bq, pq, none⟩) m.rts.length cm_] 29) 61 #[.int .i64 4, .int .i64 a, .int .i64 b, .int .i64 c, .int .i64 d]).alloc (.cells #[.string s, .slice A1 r.ins.length c1, .slice A2 r.outs.length c2, .int .i64 r.regs, .slice A3 r.init.length c3, .slice A4 r.code.length c4] 52)).after (w' := w2))
  have z2 := Lib.hid ((Blk.new2 w (.cells #[.slice A m.enums.length c_, .slice (some ⟨bq, pq, none⟩) m.rts.length cm_] 29) (.cells #[.int .i64 4, .int .i64 a, .int .i64 b, .int .i64 c, .int .i64 d] 61) 52 #[.string s, .slice A1 r.ins.length c1, .slice A2 r.outs.length c2, .int .i64 r.regs, .slice A3 r.init.length c3, .slice A4 r.code.length c4]).after (w' := w2))
  have aw2 : After w w2 := after_after inferInstance a2
  clear a2
  have i0_ : w2.cell? ⟨w.heap.size + 1, 0, none⟩ = some (.int .i64 4) := by rw [z1.out.cell]; rfl
  have i1_ : w2.cell? ⟨w.heap.size + 1, 1, none⟩ = some (.int .i64 a) := by rw [z1.out.cell]; rfl
  have i2_ : w2.cell? ⟨w.heap.size + 1, 2, none⟩ = some (.int .i64 b) := by rw [z1.out.cell]; rfl
  have i3_ : w2.cell? ⟨w.heap.size + 1, 3, none⟩ = some (.int .i64 c) := by rw [z1.out.cell]; rfl
  have i4_ : w2.cell? ⟨w.heap.size + 1, 4, none⟩ = some (.int .i64 d) := by rw [z1.out.cell]; rfl
  have li_ := z1.out.is_le
  have ZB := Lib.hid (Blk.new w2 87 #[.string ⟨#[119, 114, 105, 116, 101]⟩, .int .i64 2, .int .i64 1, .int .i64 0, .int .i64 0, .int .i64 0])
  have Z0 := Lib.hid (z0.out.alloc (.cells #[.string ⟨#[119, 114, 105, 116, 101]⟩, .int .i64 2, .int .i64 1, .int .i64 0, .int .i64 0, .int .i64 0] 87))
  have Z1 := Lib.hid (z1.out.alloc (.cells #[.string ⟨#[119, 114, 105, 116, 101]⟩, .int .i64 2, .int .i64 1, .int .i64 0, .int .i64 0, .int .i64 0] 87))
  have Z2 := Lib.hid (z2.out.alloc (.cells #[.string ⟨#[119, 114, 105, 116, 101]⟩, .int .i64 2, .int .i64 1, .int .i64 0, .int .i64 0, .int .i64 0] 87))
  go_wp2_with fail
  refine (hf1.out _).mono ?_
  rintro e w4 ⟨rfl, a4⟩
  have aw4 : After w w4 := after_after aw2 (after_after inferInstance a4)
  obtain ⟨g7, hg7⟩ : ∃ g7, w2.heap.size = g7 := ⟨_, rfl⟩
  have HK : Hid (∀ U : World, After w4 U → U.cell? ⟨g7, 1, none⟩ = some (.int .i64 2) ∧ U.cell? ⟨g7, 2, none⟩ = some (.int .i64 1) ∧ U.cell? ⟨g7, 3, none⟩ = some (.int .i64 0) ∧ U.cell? ⟨g7, 4, none⟩ = some (.int .i64 0) ∧ U.cell? ⟨g7, 5, none⟩ = some (.int .i64 0) ∧ U.cell? ⟨w.heap.size, 0, none⟩ = some (.slice A m.enums.length c_) ∧ U.cell? ⟨w.heap.size, 1, none⟩ = some (.slice (some ⟨bq, pq, none⟩) m.rts.length cm_) ∧ U.cell? ⟨w.heap.size + 1, 1, none⟩ = some (.int .i64 a) ∧ U.cell? ⟨w.heap.size + 2, 3, none⟩ = some (.int .i64 r.regs) ∧ U.cell? ⟨w.heap.size + 2, 4, none⟩ = some (.slice A3 r.init.length c3) ∧ Le (g7 + 1) U ∧ Le (w.heap.size + 2 + 1) U ∧ Le (w.heap.size + 1 + 1) U ∧ Le (w.heap.size + 1) U) := fun U hU => by
    have y0 := (Z0.out.after (w' := w4) (k := a4)).after (w' := U)
    have y1 := (Z1.out.after (w' := w4) (k := a4)).after (w' := U)
    have y2 := (Z2.out.after (w' := w4) (k := a4)).after (w' := U)
    have y3 := (ZB.out.after (w' := w4) (k := a4)).after (w' := U)
    rw [hg7] at y3
    exact ⟨by rw [y3.cell]; rfl, by rw [y3.cell]; rfl, by rw [y3.cell]; rfl, by rw [y3.cell]; rfl, by rw [y3.cell]; rfl, by rw [y0.cell]; rfl, by rw [y0.cell]; rfl, by rw [y1.cell]; rfl, by rw [y2.cell]; rfl, by rw [y2.cell]; rfl, y3.is_le, y2.is_le, y1.is_le, y0.is_le⟩
  clear a4
  obtain ⟨f0_, f1_, f2_, f3_, f4_, f5_, f6_, f7_, f8_, f9_, f10_, f11_, f12_, f13_⟩ := HK.out w4 inferInstance
  have ix0 := fun W : World => idx0 a b c d W
  have ix1 := fun W : World => idx1 a b c d W
  have ix2 := fun W : World => idx2 a b c d W
  have ix3 := fun W : World => idx3 a b c d W
  go_wp2_with fail
  refine wp_loop_rounds 5 ?_
  rw [rounds_succ]
  go_wp2_with fail
  refine (HW0.out _).mono ?_
  rintro e w9 ⟨rfl, rfl⟩
  go_wp2_with fail
  rw [rounds_succ]
  go_wp2_with fail
  refine (HW1.out _).mono ?_
  rintro e w9 ⟨rfl, rfl⟩
  go_wp2_with fail
  rw [rounds_succ]
  go_wp2_with fail
  rw [rounds_succ]
  go_wp2_with fail
  rw [rounds_succ]
  go_wp2_with fail
  go_ret
  first | exact ⟨rfl, aw4⟩ | exact ⟨rfl, inferInstance⟩ | exact ⟨ret_bool (by simp; omega), inferInstance⟩ | exact ⟨ret_bool (by simp; omega), aw4⟩

set_option maxRecDepth 100000 in
set_option maxHeartbeats 8000000 in
theorem ranges_5 {w0 : World} {A c_ A' cm_ m} (x : RIm w0 A c_ A' cm_ m) (w : World) (hO : Ops w0) (hw : After w0 w) (k_ : Nat) (hk_ : k_ < m.rts.length) (r : Rtn) (hr : m.rts[k_]? = some r) (hreg : r.regs ≤ 32768) (a b c d : Int) :
    Calls Tryd.prog 51 #[.agg #[.slice A m.enums.length c_, .slice A' m.rts.length cm_], .int .i64 k_, .agg #[.int .i64 5, .int .i64 a, .int .i64 b, .int .i64 c, .int .i64 d]] w fun e w' => e = .returned (.bool (rangeB m r k_ ⟨5, a, b, c, d⟩)) ∧ After w w' := by
  have hl_ := x.rts.len
  have hkI : (k_ : Int) < (m.rts.length : Int) := by omega
  obtain ⟨bq, pq, s, A1, c1, A2, c2, A3, c3, A4, c4, r', rfl, hle_, HX, HR, e0, e1, e2, e3, e4, e5⟩ := (x.rts.here w).part hk_
  obtain rfl : r = r' := by
    have h1 := HX.out
    rw [hr] at h1
    injection h1 with h1
  have hin_ := HR.out.init.len
  have hlq : Le (bq + 1) w := hle_
  have hni : ((calledR m a).init.length : Int) ≤ ((calledR m a).init.length : Int) := Int.le_refl _
  rw [rangeB_5]
  by_cases h0 : withinB a 1 r.regs = true
  rotate_left
  · replace h0 : withinB a 1 r.regs = false := by simpa using h0
    rw [show (withinB a 1 r.regs && withinB b 1 r.regs) = false by simp [h0]]
    have HW0 := Lib.hid (fun U : World => within_any U a 1 r.regs (by omega))
    rw [h0] at HW0
    have hk1 := Lib.hid (fun U (hU : After w U) => known_5 w0 U hO (after_after hw hU))
    have hf1 := Lib.hid (fun U : World => fields_any U 5 a b c d)
    have x' := Lib.hid x
    clear x
    go_enter Tryd.func51, Tryd.ntmps51
    go_wp2_with fail
    refine (hk1.out _ inferInstance).mono ?_
    rintro e w2 ⟨rfl, a2⟩
    have z0 := Lib.hid ((((Blk.new w 29 #[.slice A m.enums.length c_, .slice (some ⟨bq, pq, none⟩) m.rts.length cm_]).alloc (.cells #[.int .i64 5, .int .i64 a, .int .i64 b, .int .i64 c, .int .i64 d] 61)).alloc (.cells #[.string s, .slice A1 r.ins.length c1, .slice A2 r.outs.length c2, .int .i64 r.regs, .slice A3 r.init.length c3, .slice A4 r.code.length c4] 52)).after (w' := w2))
    have z1 := Lib.hid (((Blk.new1 w (.cells #[.slice A m.enums.length c_, .slice (some ⟨bq, pq, none⟩) m.rts.length cm_] 29) 61 #[.int .i64 5, .int .i64 a, .int .i64 b, .int .i64 c, .int .i64 d]).alloc (.cells #[.string s, .slice A1 r.ins.length c1, .slice A2 r.outs.length c2, .int .i64 r.regs, .slice A3 r.init.length c3, .slice A4 r.code.length c4] 52)).after (w' := w2))
    have z2 := Lib.hid ((Blk.new2 w (.cells #[.slice A m.enums.length c_, .slice (some ⟨bq, pq, none⟩) m.rts.length cm_] 29) (.cells #[.int .i64 5, .int .i64 a, .int .i64 b, .int .i64 c, .int .i64 d] 61) 52 #[.string s, .slice A1 r.ins.length c1, .slice A2 r.outs.length c2, .int .i64 r.regs, .slice A3 r.init.length c3, .slice A4 r.code.length c4]).after (w' := w2))
    have aw2 : After w w2 := after_after inferInstance a2
    clear a2
    have i0_ : w2.cell? ⟨w.heap.size + 1, 0, none⟩ = some (.int .i64 5) := by rw [z1.out.cell]; rfl
    have i1_ : w2.cell? ⟨w.heap.size + 1, 1, none⟩ = some (.int .i64 a) := by rw [z1.out.cell]; rfl
    have i2_ : w2.cell? ⟨w.heap.size + 1, 2, none⟩ = some (.int .i64 b) := by rw [z1.out.cell]; rfl
    have i3_ : w2.cell? ⟨w.heap.size + 1, 3, none⟩ = some (.int .i64 c) := by rw [z1.out.cell]; rfl
    have i4_ : w2.cell? ⟨w.heap.size + 1, 4, none⟩ = some (.int .i64 d) := by rw [z1.out.cell]; rfl
    have li_ := z1.out.is_le
    have ZB := Lib.hid (Blk.new w2 87 #[.string ⟨#[117, 110, 97, 114, 121]⟩, .int .i64 1, .int .i64 1, .int .i64 5, .int .i64 0, .int .i64 1])
    have Z0 := Lib.hid (z0.out.alloc (.cells #[.string ⟨#[117, 110, 97, 114, 121]⟩, .int .i64 1, .int .i64 1, .int .i64 5, .int .i64 0, .int .i64 1] 87))
    have Z1 := Lib.hid (z1.out.alloc (.cells #[.string ⟨#[117, 110, 97, 114, 121]⟩, .int .i64 1, .int .i64 1, .int .i64 5, .int .i64 0, .int .i64 1] 87))
    have Z2 := Lib.hid (z2.out.alloc (.cells #[.string ⟨#[117, 110, 97, 114, 121]⟩, .int .i64 1, .int .i64 1, .int .i64 5, .int .i64 0, .int .i64 1] 87))
    go_wp2_with fail
    refine (hf1.out _).mono ?_
    rintro e w4 ⟨rfl, a4⟩
    have aw4 : After w w4 := after_after aw2 (after_after inferInstance a4)
    obtain ⟨g7, hg7⟩ : ∃ g7, w2.heap.size = g7 := ⟨_, rfl⟩
    have HK : Hid (∀ U : World, After w4 U → U.cell? ⟨g7, 1, none⟩ = some (.int .i64 1) ∧ U.cell? ⟨g7, 2, none⟩ = some (.int .i64 1) ∧ U.cell? ⟨g7, 3, none⟩ = some (.int .i64 5) ∧ U.cell? ⟨g7, 4, none⟩ = some (.int .i64 0) ∧ U.cell? ⟨g7, 5, none⟩ = some (.int .i64 1) ∧ U.cell? ⟨w.heap.size, 0, none⟩ = some (.slice A m.enums.length c_) ∧ U.cell? ⟨w.heap.size, 1, none⟩ = some (.slice (some ⟨bq, pq, none⟩) m.rts.length cm_) ∧ U.cell? ⟨w.heap.size + 1, 1, none⟩ = some (.int .i64 a) ∧ U.cell? ⟨w.heap.size + 2, 3, none⟩ = some (.int .i64 r.regs) ∧ U.cell? ⟨w.heap.size + 2, 4, none⟩ = some (.slice A3 r.init.length c3) ∧ Le (g7 + 1) U ∧ Le (w.heap.size + 2 + 1) U ∧ Le (w.heap.size + 1 + 1) U ∧ Le (w.heap.size + 1) U) := fun U hU => by
      have y0 := (Z0.out.after (w' := w4) (k := a4)).after (w' := U)
      have y1 := (Z1.out.after (w' := w4) (k := a4)).after (w' := U)
      have y2 := (Z2.out.after (w' := w4) (k := a4)).after (w' := U)
      have y3 := (ZB.out.after (w' := w4) (k := a4)).after (w' := U)
      rw [hg7] at y3
      exact ⟨by rw [y3.cell]; rfl, by rw [y3.cell]; rfl, by rw [y3.cell]; rfl, by rw [y3.cell]; rfl, by rw [y3.cell]; rfl, by rw [y0.cell]; rfl, by rw [y0.cell]; rfl, by rw [y1.cell]; rfl, by rw [y2.cell]; rfl, by rw [y2.cell]; rfl, y3.is_le, y2.is_le, y1.is_le, y0.is_le⟩
    clear a4
    obtain ⟨f0_, f1_, f2_, f3_, f4_, f5_, f6_, f7_, f8_, f9_, f10_, f11_, f12_, f13_⟩ := HK.out w4 inferInstance
    have ix0 := fun W : World => idx0 a b c d W
    have ix1 := fun W : World => idx1 a b c d W
    have ix2 := fun W : World => idx2 a b c d W
    have ix3 := fun W : World => idx3 a b c d W
    go_wp2_with fail
    refine wp_loop_rounds 5 ?_
    rw [rounds_succ]
    go_wp2_with fail
    refine (HW0.out _).mono ?_
    rintro e w9 ⟨rfl, rfl⟩
    go_wp2_with fail
    rw [rounds_succ]
    go_wp2_with fail
    rw [rounds_succ]
    go_wp2_with fail
    rw [rounds_succ]
    go_wp2_with fail
    rw [rounds_succ]
    go_wp2_with fail
    go_ret
    first | exact ⟨rfl, aw4⟩ | exact ⟨rfl, inferInstance⟩ | exact ⟨ret_bool (by simp; omega), inferInstance⟩ | exact ⟨ret_bool (by simp; omega), aw4⟩
  by_cases h1 : withinB b 1 r.regs = true
  rotate_left
  · replace h1 : withinB b 1 r.regs = false := by simpa using h1
    rw [show (withinB a 1 r.regs && withinB b 1 r.regs) = false by simp [h0, h1]]
    have HW0 := Lib.hid (fun U : World => within_any U a 1 r.regs (by omega))
    rw [h0] at HW0
    have HW1 := Lib.hid (fun U : World => within_any U b 1 r.regs (by omega))
    rw [h1] at HW1
    have hk1 := Lib.hid (fun U (hU : After w U) => known_5 w0 U hO (after_after hw hU))
    have hf1 := Lib.hid (fun U : World => fields_any U 5 a b c d)
    have x' := Lib.hid x
    clear x
    go_enter Tryd.func51, Tryd.ntmps51
    go_wp2_with fail
    refine (hk1.out _ inferInstance).mono ?_
    rintro e w2 ⟨rfl, a2⟩
    have z0 := Lib.hid ((((Blk.new w 29 #[.slice A m.enums.length c_, .slice (some ⟨bq, pq, none⟩) m.rts.length cm_]).alloc (.cells #[.int .i64 5, .int .i64 a, .int .i64 b, .int .i64 c, .int .i64 d] 61)).alloc (.cells #[.string s, .slice A1 r.ins.length c1, .slice A2 r.outs.length c2, .int .i64 r.regs, .slice A3 r.init.length c3, .slice A4 r.code.length c4] 52)).after (w' := w2))
    have z1 := Lib.hid (((Blk.new1 w (.cells #[.slice A m.enums.length c_, .slice (some ⟨bq, pq, none⟩) m.rts.length cm_] 29) 61 #[.int .i64 5, .int .i64 a, .int .i64 b, .int .i64 c, .int .i64 d]).alloc (.cells #[.string s, .slice A1 r.ins.length c1, .slice A2 r.outs.length c2, .int .i64 r.regs, .slice A3 r.init.length c3, .slice A4 r.code.length c4] 52)).after (w' := w2))
    have z2 := Lib.hid ((Blk.new2 w (.cells #[.slice A m.enums.length c_, .slice (some ⟨bq, pq, none⟩) m.rts.length cm_] 29) (.cells #[.int .i64 5, .int .i64 a, .int .i64 b, .int .i64 c, .int .i64 d] 61) 52 #[.string s, .slice A1 r.ins.length c1, .slice A2 r.outs.length c2, .int .i64 r.regs, .slice A3 r.init.length c3, .slice A4 r.code.length c4]).after (w' := w2))
    have aw2 : After w w2 := after_after inferInstance a2
    clear a2
    have i0_ : w2.cell? ⟨w.heap.size + 1, 0, none⟩ = some (.int .i64 5) := by rw [z1.out.cell]; rfl
    have i1_ : w2.cell? ⟨w.heap.size + 1, 1, none⟩ = some (.int .i64 a) := by rw [z1.out.cell]; rfl
    have i2_ : w2.cell? ⟨w.heap.size + 1, 2, none⟩ = some (.int .i64 b) := by rw [z1.out.cell]; rfl
    have i3_ : w2.cell? ⟨w.heap.size + 1, 3, none⟩ = some (.int .i64 c) := by rw [z1.out.cell]; rfl
    have i4_ : w2.cell? ⟨w.heap.size + 1, 4, none⟩ = some (.int .i64 d) := by rw [z1.out.cell]; rfl
    have li_ := z1.out.is_le
    have ZB := Lib.hid (Blk.new w2 87 #[.string ⟨#[117, 110, 97, 114, 121]⟩, .int .i64 1, .int .i64 1, .int .i64 5, .int .i64 0, .int .i64 1])
    have Z0 := Lib.hid (z0.out.alloc (.cells #[.string ⟨#[117, 110, 97, 114, 121]⟩, .int .i64 1, .int .i64 1, .int .i64 5, .int .i64 0, .int .i64 1] 87))
    have Z1 := Lib.hid (z1.out.alloc (.cells #[.string ⟨#[117, 110, 97, 114, 121]⟩, .int .i64 1, .int .i64 1, .int .i64 5, .int .i64 0, .int .i64 1] 87))
    have Z2 := Lib.hid (z2.out.alloc (.cells #[.string ⟨#[117, 110, 97, 114, 121]⟩, .int .i64 1, .int .i64 1, .int .i64 5, .int .i64 0, .int .i64 1] 87))
    go_wp2_with fail
    refine (hf1.out _).mono ?_
    rintro e w4 ⟨rfl, a4⟩
    have aw4 : After w w4 := after_after aw2 (after_after inferInstance a4)
    obtain ⟨g7, hg7⟩ : ∃ g7, w2.heap.size = g7 := ⟨_, rfl⟩
    have HK : Hid (∀ U : World, After w4 U → U.cell? ⟨g7, 1, none⟩ = some (.int .i64 1) ∧ U.cell? ⟨g7, 2, none⟩ = some (.int .i64 1) ∧ U.cell? ⟨g7, 3, none⟩ = some (.int .i64 5) ∧ U.cell? ⟨g7, 4, none⟩ = some (.int .i64 0) ∧ U.cell? ⟨g7, 5, none⟩ = some (.int .i64 1) ∧ U.cell? ⟨w.heap.size, 0, none⟩ = some (.slice A m.enums.length c_) ∧ U.cell? ⟨w.heap.size, 1, none⟩ = some (.slice (some ⟨bq, pq, none⟩) m.rts.length cm_) ∧ U.cell? ⟨w.heap.size + 1, 1, none⟩ = some (.int .i64 a) ∧ U.cell? ⟨w.heap.size + 2, 3, none⟩ = some (.int .i64 r.regs) ∧ U.cell? ⟨w.heap.size + 2, 4, none⟩ = some (.slice A3 r.init.length c3) ∧ Le (g7 + 1) U ∧ Le (w.heap.size + 2 + 1) U ∧ Le (w.heap.size + 1 + 1) U ∧ Le (w.heap.size + 1) U) := fun U hU => by
      have y0 := (Z0.out.after (w' := w4) (k := a4)).after (w' := U)
      have y1 := (Z1.out.after (w' := w4) (k := a4)).after (w' := U)
      have y2 := (Z2.out.after (w' := w4) (k := a4)).after (w' := U)
      have y3 := (ZB.out.after (w' := w4) (k := a4)).after (w' := U)
      rw [hg7] at y3
      exact ⟨by rw [y3.cell]; rfl, by rw [y3.cell]; rfl, by rw [y3.cell]; rfl, by rw [y3.cell]; rfl, by rw [y3.cell]; rfl, by rw [y0.cell]; rfl, by rw [y0.cell]; rfl, by rw [y1.cell]; rfl, by rw [y2.cell]; rfl, by rw [y2.cell]; rfl, y3.is_le, y2.is_le, y1.is_le, y0.is_le⟩
    clear a4
    obtain ⟨f0_, f1_, f2_, f3_, f4_, f5_, f6_, f7_, f8_, f9_, f10_, f11_, f12_, f13_⟩ := HK.out w4 inferInstance
    have ix0 := fun W : World => idx0 a b c d W
    have ix1 := fun W : World => idx1 a b c d W
    have ix2 := fun W : World => idx2 a b c d W
    have ix3 := fun W : World => idx3 a b c d W
    go_wp2_with fail
    refine wp_loop_rounds 5 ?_
    rw [rounds_succ]
    go_wp2_with fail
    refine (HW0.out _).mono ?_
    rintro e w9 ⟨rfl, rfl⟩
    go_wp2_with fail
    rw [rounds_succ]
    go_wp2_with fail
    refine (HW1.out _).mono ?_
    rintro e w9 ⟨rfl, rfl⟩
    go_wp2_with fail
    rw [rounds_succ]
    go_wp2_with fail
    rw [rounds_succ]
    go_wp2_with fail
    rw [rounds_succ]
    go_wp2_with fail
    go_ret
    first | exact ⟨rfl, aw4⟩ | exact ⟨rfl, inferInstance⟩ | exact ⟨ret_bool (by simp; omega), inferInstance⟩ | exact ⟨ret_bool (by simp; omega), aw4⟩
  rw [show (withinB a 1 r.regs && withinB b 1 r.regs) = true by simp [h0, h1]]
  have HW0 := Lib.hid (fun U : World => within_any U a 1 r.regs (by omega))
  rw [h0] at HW0
  have HW1 := Lib.hid (fun U : World => within_any U b 1 r.regs (by omega))
  rw [h1] at HW1
  have hk1 := Lib.hid (fun U (hU : After w U) => known_5 w0 U hO (after_after hw hU))
  have hf1 := Lib.hid (fun U : World => fields_any U 5 a b c d)
  have x' := Lib.hid x
  clear x
  go_enter Tryd.func51, Tryd.ntmps51
  go_wp2_with fail
  refine (hk1.out _ inferInstance).mono ?_
  rintro e w2 ⟨rfl, a2⟩
  have z0 := Lib.hid ((((Blk.new w 29 #[.slice A m.enums.length c_, .slice (some ⟨bq, pq, none⟩) m.rts.length cm_]).alloc (.cells #[.int .i64 5, .int .i64 a, .int .i64 b, .int .i64 c, .int .i64 d] 61)).alloc (.cells #[.string s, .slice A1 r.ins.length c1, .slice A2 r.outs.length c2, .int .i64 r.regs, .slice A3 r.init.length c3, .slice A4 r.code.length c4] 52)).after (w' := w2))
  have z1 := Lib.hid (((Blk.new1 w (.cells #[.slice A m.enums.length c_, .slice (some ⟨bq, pq, none⟩) m.rts.length cm_] 29) 61 #[.int .i64 5, .int .i64 a, .int .i64 b, .int .i64 c, .int .i64 d]).alloc (.cells #[.string s, .slice A1 r.ins.length c1, .slice A2 r.outs.length c2, .int .i64 r.regs, .slice A3 r.init.length c3, .slice A4 r.code.length c4] 52)).after (w' := w2))
  have z2 := Lib.hid ((Blk.new2 w (.cells #[.slice A m.enums.length c_, .slice (some ⟨bq, pq, none⟩) m.rts.length cm_] 29) (.cells #[.int .i64 5, .int .i64 a, .int .i64 b, .int .i64 c, .int .i64 d] 61) 52 #[.string s, .slice A1 r.ins.length c1, .slice A2 r.outs.length c2, .int .i64 r.regs, .slice A3 r.init.length c3, .slice A4 r.code.length c4]).after (w' := w2))
  have aw2 : After w w2 := after_after inferInstance a2
  clear a2
  have i0_ : w2.cell? ⟨w.heap.size + 1, 0, none⟩ = some (.int .i64 5) := by rw [z1.out.cell]; rfl
  have i1_ : w2.cell? ⟨w.heap.size + 1, 1, none⟩ = some (.int .i64 a) := by rw [z1.out.cell]; rfl
  have i2_ : w2.cell? ⟨w.heap.size + 1, 2, none⟩ = some (.int .i64 b) := by rw [z1.out.cell]; rfl
  have i3_ : w2.cell? ⟨w.heap.size + 1, 3, none⟩ = some (.int .i64 c) := by rw [z1.out.cell]; rfl
  have i4_ : w2.cell? ⟨w.heap.size + 1, 4, none⟩ = some (.int .i64 d) := by rw [z1.out.cell]; rfl
  have li_ := z1.out.is_le
  have ZB := Lib.hid (Blk.new w2 87 #[.string ⟨#[117, 110, 97, 114, 121]⟩, .int .i64 1, .int .i64 1, .int .i64 5, .int .i64 0, .int .i64 1])
  have Z0 := Lib.hid (z0.out.alloc (.cells #[.string ⟨#[117, 110, 97, 114, 121]⟩, .int .i64 1, .int .i64 1, .int .i64 5, .int .i64 0, .int .i64 1] 87))
  have Z1 := Lib.hid (z1.out.alloc (.cells #[.string ⟨#[117, 110, 97, 114, 121]⟩, .int .i64 1, .int .i64 1, .int .i64 5, .int .i64 0, .int .i64 1] 87))
  have Z2 := Lib.hid (z2.out.alloc (.cells #[.string ⟨#[117, 110, 97, 114, 121]⟩, .int .i64 1, .int .i64 1, .int .i64 5, .int .i64 0, .int .i64 1] 87))
  go_wp2_with fail
  refine (hf1.out _).mono ?_
  rintro e w4 ⟨rfl, a4⟩
  have aw4 : After w w4 := after_after aw2 (after_after inferInstance a4)
  obtain ⟨g7, hg7⟩ : ∃ g7, w2.heap.size = g7 := ⟨_, rfl⟩
  have HK : Hid (∀ U : World, After w4 U → U.cell? ⟨g7, 1, none⟩ = some (.int .i64 1) ∧ U.cell? ⟨g7, 2, none⟩ = some (.int .i64 1) ∧ U.cell? ⟨g7, 3, none⟩ = some (.int .i64 5) ∧ U.cell? ⟨g7, 4, none⟩ = some (.int .i64 0) ∧ U.cell? ⟨g7, 5, none⟩ = some (.int .i64 1) ∧ U.cell? ⟨w.heap.size, 0, none⟩ = some (.slice A m.enums.length c_) ∧ U.cell? ⟨w.heap.size, 1, none⟩ = some (.slice (some ⟨bq, pq, none⟩) m.rts.length cm_) ∧ U.cell? ⟨w.heap.size + 1, 1, none⟩ = some (.int .i64 a) ∧ U.cell? ⟨w.heap.size + 2, 3, none⟩ = some (.int .i64 r.regs) ∧ U.cell? ⟨w.heap.size + 2, 4, none⟩ = some (.slice A3 r.init.length c3) ∧ Le (g7 + 1) U ∧ Le (w.heap.size + 2 + 1) U ∧ Le (w.heap.size + 1 + 1) U ∧ Le (w.heap.size + 1) U) := fun U hU => by
    have y0 := (Z0.out.after (w' := w4) (k := a4)).after (w' := U)
    have y1 := (Z1.out.after (w' := w4) (k := a4)).after (w' := U)
    have y2 := (Z2.out.after (w' := w4) (k := a4)).after (w' := U)
    have y3 := (ZB.out.after (w' := w4) (k := a4)).after (w' := U)
    rw [hg7] at y3
    exact ⟨by rw [y3.cell]; rfl, by rw [y3.cell]; rfl, by rw [y3.cell]; rfl, by rw [y3.cell]; rfl, by rw [y3.cell]; rfl, by rw [y0.cell]; rfl, by rw [y0.cell]; rfl, by rw [y1.cell]; rfl, by rw [y2.cell]; rfl, by rw [y2.cell]; rfl, y3.is_le, y2.is_le, y1.is_le, y0.is_le⟩
  clear a4
  obtain ⟨f0_, f1_, f2_, f3_, f4_, f5_, f6_, f7_, f8_, f9_, f10_, f11_, f12_, f13_⟩ := HK.out w4 inferInstance
  have ix0 := fun W : World => idx0 a b c d W
  have ix1 := fun W : World => idx1 a b c d W
  have ix2 := fun W : World => idx2 a b c d W
  have ix3 := fun W : World => idx3 a b c d W
  go_wp2_with fail
  refine wp_loop_rounds 5 ?_
  rw [rounds_succ]
  go_wp2_with fail
  refine (HW0.out _).mono ?_
  rintro e w9 ⟨rfl, rfl⟩
  go_wp2_with fail
  rw [rounds_succ]
  go_wp2_with fail
  refine (HW1.out _).mono ?_
  rintro e w9 ⟨rfl, rfl⟩
  go_wp2_with fail
  rw [rounds_succ]
  go_wp2_with fail
  rw [rounds_succ]
  go_wp2_with fail
  rw [rounds_succ]
  go_wp2_with fail
  go_ret
  first | exact ⟨rfl, aw4⟩ | exact ⟨rfl, inferInstance⟩ | exact ⟨ret_bool (by simp; omega), inferInstance⟩ | exact ⟨ret_bool (by simp; omega), aw4⟩
end Go.Proofs.YtgmojjdojcmnaaaDoor
