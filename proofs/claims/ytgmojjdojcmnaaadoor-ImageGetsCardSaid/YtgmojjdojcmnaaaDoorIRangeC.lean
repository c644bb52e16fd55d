/-
  Contracts: asm.ranges, an operation a theorem (printed by gen_irange.py).
-/
import Derived.Test.YtgmojjdojcmnaaaDoorIRangeL
import Derived.Shelf.Abstract
import Derived.LoopN
set_option linter.unusedVariables false
set_option linter.unusedSimpArgs false
namespace Go.Proofs.YtgmojjdojcmnaaaDoor
open Go.RowKit Go.BigFrame


set_option maxRecDepth 100000 in
set_option maxHeartbeats 8000000 in
theorem ranges_9 {w0 : World} {A c_ A' cm_ m} (x : RIm w0 A c_ A' cm_ m) (w : World) (hO : Ops w0) (hw : After w0 w) (k_ : Nat) (hk_ : k_ < m.rts.length) (r : Rtn) (hr : m.rts[k_]? = some r) (hreg : r.regs ≤ 32768) (a b c d : Int) :
    Calls Tryd.prog 51 #[.agg #[.slice A m.enums.length c_, .slice A' m.rts.length cm_], .int .i64 k_, .agg #[.int .i64 9, .int .i64 a, .int .i64 b, .int .i64 c, .int .i64 d]] w fun e w' => e = .returned (.bool (rangeB m r k_ ⟨9, a, b, c, d⟩)) ∧ After w w' := by
  have hl_ := x.rts.len
  have hkI : (k_ : Int) < (m.rts.length : Int) := by omega
  obtain ⟨bq, pq, s, A1, c1, A2, c2, A3, c3, A4, c4, r', rfl, hle_, HX, HR, e0, e1, e2, e3, e4, e5⟩ := (x.rts.here w).part hk_
  obtain rfl : r = r' := by
    have h1 := HX.out
    rw [hr] at h1
    injection h1 with h1
  have hin_ := HR.out.init.len
  have hlq : Le (bq + 1) w := hle_
  have hni : ((calledR m a).init.length : Int) ≤ ((calledR m a).init.length : Int) := Int.le_refl _
  rw [rangeB_9]
  by_cases h0 : 0 ≤ a
  rotate_left
  · rw [show (decide (0 ≤ a) && decide (a < (k_ : Nat)) && withinB b (calledR m a).init.length r.init.length && withinB c (calledR m a).ins.length r.regs && withinB d (calledR m a).outs.length r.regs) = false by simp [h0]]
    have hb0 : decide (0 ≤ a) = false := decide_eq_false h0
    have hk1 := Lib.hid (fun U (hU : After w U) => known_9 w0 U hO (after_after hw hU))
    have hf1 := Lib.hid (fun U : World => fields_any U 9 a b c d)
    have x' := Lib.hid x
    clear x
    go_enter Tryd.func51, Tryd.ntmps51
    go_wp2_with fail
    refine (hk1.out _ inferInstance).mono ?_
    rintro e w2 ⟨rfl, a2⟩
    have z0 := Lib.hid ((((Blk.new w 29 #[.slice A m.enums.length c_, .slice (some ⟨bq, pq, none⟩) m.rts.length cm_]).alloc (.cells #[.int .i64 9, .int .i64 a, .int .i64 b, .int .i64 c, .int .i64 d] 61)).alloc (.cells #[.string s, .slice A1 r.ins.length c1, .slice A2 r.outs.length c2, .int .i64 r.regs, .slice A3 r.init.length c3, .slice A4 r.code.length c4] 52)).after (w' := w2))
    have z1 := Lib.hid (((Blk.new1 w (.cells #[.slice A m.enums.length c_, .slice (some ⟨bq, pq, none⟩) m.rts.length cm_] 29) 61 #[.int .i64 9, .int .i64 a, .int .i64 b, .int .i64 c, .int .i64 d]).alloc (.cells #[.string s, .slice A1 r.ins.length c1, .slice A2 r.outs.length c2, .int .i64 r.regs, .slice A3 r.init.length c3, .slice A4 r.code.length c4] 52)).after (w' := w2))
    have z2 := Lib.hid ((Blk.new2 w (.cells #[.slice A m.enums.length c_, .slice (some ⟨bq, pq, none⟩) m.rts.length cm_] 29) (.cells #[.int .i64 9, .int .i64 a, .int .i64 b, .int .i64 c, .int .i64 d] 61) 52 #[.string s, .slice A1 r.ins.length c1, .slice A2 r.outs.length c2, .int .i64 r.regs, .slice A3 r.init.length c3, .slice A4 r.code.length c4]).after (w' := w2))
    have aw2 : After w w2 := after_after inferInstance a2
    clear a2
    have i0_ : w2.cell? ⟨w.heap.size + 1, 0, none⟩ = some (.int .i64 9) := by rw [z1.out.cell]; rfl
    have i1_ : w2.cell? ⟨w.heap.size + 1, 1, none⟩ = some (.int .i64 a) := by rw [z1.out.cell]; rfl
    have i2_ : w2.cell? ⟨w.heap.size + 1, 2, none⟩ = some (.int .i64 b) := by rw [z1.out.cell]; rfl
    have i3_ : w2.cell? ⟨w.heap.size + 1, 3, none⟩ = some (.int .i64 c) := by rw [z1.out.cell]; rfl
    have i4_ : w2.cell? ⟨w.heap.size + 1, 4, none⟩ = some (.int .i64 d) := by rw [z1.out.cell]; rfl
    have li_ := z1.out.is_le
    have ZB := Lib.hid (Blk.new w2 87 #[.string ⟨#[99, 97, 108, 108]⟩, .int .i64 6, .int .i64 7, .int .i64 8, .int .i64 9, .int .i64 0])
    have Z0 := Lib.hid (z0.out.alloc (.cells #[.string ⟨#[99, 97, 108, 108]⟩, .int .i64 6, .int .i64 7, .int .i64 8, .int .i64 9, .int .i64 0] 87))
    have Z1 := Lib.hid (z1.out.alloc (.cells #[.string ⟨#[99, 97, 108, 108]⟩, .int .i64 6, .int .i64 7, .int .i64 8, .int .i64 9, .int .i64 0] 87))
    have Z2 := Lib.hid (z2.out.alloc (.cells #[.string ⟨#[99, 97, 108, 108]⟩, .int .i64 6, .int .i64 7, .int .i64 8, .int .i64 9, .int .i64 0] 87))
    go_wp2_with fail
    refine (hf1.out _).mono ?_
    rintro e w4 ⟨rfl, a4⟩
    have aw4 : After w w4 := after_after aw2 (after_after inferInstance a4)
    obtain ⟨g7, hg7⟩ : ∃ g7, w2.heap.size = g7 := ⟨_, rfl⟩
    have HK : Hid (∀ U : World, After w4 U → U.cell? ⟨g7, 1, none⟩ = some (.int .i64 6) ∧ U.cell? ⟨g7, 2, none⟩ = some (.int .i64 7) ∧ U.cell? ⟨g7, 3, none⟩ = some (.int .i64 8) ∧ U.cell? ⟨g7, 4, none⟩ = some (.int .i64 9) ∧ U.cell? ⟨g7, 5, none⟩ = some (.int .i64 0) ∧ U.cell? ⟨w.heap.size, 0, none⟩ = some (.slice A m.enums.length c_) ∧ U.cell? ⟨w.heap.size, 1, none⟩ = some (.slice (some ⟨bq, pq, none⟩) m.rts.length cm_) ∧ U.cell? ⟨w.heap.size + 1, 1, none⟩ = some (.int .i64 a) ∧ U.cell? ⟨w.heap.size + 2, 3, none⟩ = some (.int .i64 r.regs) ∧ U.cell? ⟨w.heap.size + 2, 4, none⟩ = some (.slice A3 r.init.length c3) ∧ Le (g7 + 1) U ∧ Le (w.heap.size + 2 + 1) U ∧ Le (w.heap.size + 1 + 1) U ∧ Le (w.heap.size + 1) U) := fun U hU => by
      have y0 := (Z0.out.after (w' := w4) (k := a4)).after (w' := U)
      have y1 := (Z1.out.after (w' := w4) (k := a4)).after (w' := U)
      have y2 := (Z2.out.after (w' := w4) (k := a4)).after (w' := U)
      have y3 := (ZB.out.after (w' := w4) (k := a4)).after (w' := U)
      rw [hg7] at y3
      exact ⟨by rw [y3.cell]; rfl, by rw [y3.cell]; rfl, by rw [y3.cell]; rfl, by rw [y3.cell]; rfl, by rw [y3.cell]; rfl, by rw [y0.cell]; rfl, by rw [y0.cell]; rfl, by rw [y1.cell]; rfl, by rw [y2.cell]; rfl, by rw [y2.cell]; rfl, y3.is_le, y2.is_le, y1.is_le, y0.is_le⟩
    clear a4
    obtain ⟨f0_, f1_, f2_, f3_, f4_, f5_, f6_, f7_, f8_, f9_, f10_, f11_, f12_, f13_⟩ := HK.out w4 inferInstance
    have ix0 := fun W : World => idx0 a b c d W
    have ix1 := fun W : World => idx1 a b c d W
    have ix2 := fun W : World => idx2 a b c d W
    have ix3 := fun W : World => idx3 a b c d W
    go_wp2_with fail
    refine wp_loop_rounds 5 ?_
    rw [rounds_succ]
    go_wp2_with fail
    rw [rounds_succ]
    go_wp2_with fail
    go_quiet (fail)
    go_wp2_with fail
    rw [rounds_succ]
    go_wp2_with fail
    go_quiet (fail)
    go_wp2_with fail
    rw [rounds_succ]
    go_wp2_with fail
    go_quiet (fail)
    go_wp2_with fail
    rw [rounds_succ]
    go_wp2_with fail
    go_ret
    first | exact ⟨rfl, aw4⟩ | exact ⟨rfl, inferInstance⟩ | exact ⟨ret_bool (by simp; omega), inferInstance⟩ | exact ⟨ret_bool (by simp; omega), aw4⟩
  by_cases h1 : a < (k_ : Nat)
  rotate_left
  · rw [show (decide (0 ≤ a) && decide (a < (k_ : Nat)) && withinB b (calledR m a).init.length r.init.length && withinB c (calledR m a).ins.length r.regs && withinB d (calledR m a).outs.length r.regs) = false by simp [h0, h1]]
    have hb0 : decide (0 ≤ a) = true := decide_eq_true h0
    have hb1 : decide (a < (k_ : Nat)) = false := decide_eq_false h1
    have hk1 := Lib.hid (fun U (hU : After w U) => known_9 w0 U hO (after_after hw hU))
    have hf1 := Lib.hid (fun U : World => fields_any U 9 a b c d)
    have x' := Lib.hid x
    clear x
    go_enter Tryd.func51, Tryd.ntmps51
    go_wp2_with fail
    refine (hk1.out _ inferInstance).mono ?_
    rintro e w2 ⟨rfl, a2⟩
    have z0 := Lib.hid ((((Blk.new w 29 #[.slice A m.enums.length c_, .slice (some ⟨bq, pq, none⟩) m.rts.length cm_]).alloc (.cells #[.int .i64 9, .int .i64 a, .int .i64 b, .int .i64 c, .int .i64 d] 61)).alloc (.cells #[.string s, .slice A1 r.ins.length c1, .slice A2 r.outs.length c2, .int .i64 r.regs, .slice A3 r.init.length c3, .slice A4 r.code.length c4] 52)).after (w' := w2))
    have z1 := Lib.hid (((Blk.new1 w (.cells #[.slice A m.enums.length c_, .slice (some ⟨bq, pq, none⟩) m.rts.length cm_] 29) 61 #[.int .i64 9, .int .i64 a, .int .i64 b, .int .i64 c, .int .i64 d]).alloc (.cells #[.string s, .slice A1 r.ins.length c1, .slice A2 r.outs.length c2, .int .i64 r.regs, .slice A3 r.init.length c3, .slice A4 r.code.length c4] 52)).after (w' := w2))
    have z2 := Lib.hid ((Blk.new2 w (.cells #[.slice A m.enums.length c_, .slice (some ⟨bq, pq, none⟩) m.rts.length cm_] 29) (.cells #[.int .i64 9, .int .i64 a, .int .i64 b, .int .i64 c, .int .i64 d] 61) 52 #[.string s, .slice A1 r.ins.length c1, .slice A2 r.outs.length c2, .int .i64 r.regs, .slice A3 r.init.length c3, .slice A4 r.code.length c4]).after (w' := w2))
    have aw2 : After w w2 := after_after inferInstance a2
    clear a2
    have i0_ : w2.cell? ⟨w.heap.size + 1, 0, none⟩ = some (.int .i64 9) := by rw [z1.out.cell]; rfl
    have i1_ : w2.cell? ⟨w.heap.size + 1, 1, none⟩ = some (.int .i64 a) := by rw [z1.out.cell]; rfl
    have i2_ : w2.cell? ⟨w.heap.size + 1, 2, none⟩ = some (.int .i64 b) := by rw [z1.out.cell]; rfl
    have i3_ : w2.cell? ⟨w.heap.size + 1, 3, none⟩ = some (.int .i64 c) := by rw [z1.out.cell]; rfl
    have i4_ : w2.cell? ⟨w.heap.size + 1, 4, none⟩ = some (.int .i64 d) := by rw [z1.out.cell]; rfl
    have li_ := z1.out.is_le
    have ZB := Lib.hid (Blk.new w2 87 #[.string ⟨#[99, 97, 108, 108]⟩, .int .i64 6, .int .i64 7, .int .i64 8, .int .i64 9, .int .i64 0])
    have Z0 := Lib.hid (z0.out.alloc (.cells #[.string ⟨#[99, 97, 108, 108]⟩, .int .i64 6, .int .i64 7, .int .i64 8, .int .i64 9, .int .i64 0] 87))
    have Z1 := Lib.hid (z1.out.alloc (.cells #[.string ⟨#[99, 97, 108, 108]⟩, .int .i64 6, .int .i64 7, .int .i64 8, .int .i64 9, .int .i64 0] 87))
    have Z2 := Lib.hid (z2.out.alloc (.cells #[.string ⟨#[99, 97, 108, 108]⟩, .int .i64 6, .int .i64 7, .int .i64 8, .int .i64 9, .int .i64 0] 87))
    go_wp2_with fail
    refine (hf1.out _).mono ?_
    rintro e w4 ⟨rfl, a4⟩
    have aw4 : After w w4 := after_after aw2 (after_after inferInstance a4)
    obtain ⟨g7, hg7⟩ : ∃ g7, w2.heap.size = g7 := ⟨_, rfl⟩
    have HK : Hid (∀ U : World, After w4 U → U.cell? ⟨g7, 1, none⟩ = some (.int .i64 6) ∧ U.cell? ⟨g7, 2, none⟩ = some (.int .i64 7) ∧ U.cell? ⟨g7, 3, none⟩ = some (.int .i64 8) ∧ U.cell? ⟨g7, 4, none⟩ = some (.int .i64 9) ∧ U.cell? ⟨g7, 5, none⟩ = some (.int .i64 0) ∧ U.cell? ⟨w.heap.size, 0, none⟩ = some (.slice A m.enums.length c_) ∧ U.cell? ⟨w.heap.size, 1, none⟩ = some (.slice (some ⟨bq, pq, none⟩) m.rts.length cm_) ∧ U.cell? ⟨w.heap.size + 1, 1, none⟩ = some (.int .i64 a) ∧ U.cell? ⟨w.heap.size + 2, 3, none⟩ = some (.int .i64 r.regs) ∧ U.cell? ⟨w.heap.size + 2, 4, none⟩ = some (.slice A3 r.init.length c3) ∧ Le (g7 + 1) U ∧ Le (w.heap.size + 2 + 1) U ∧ Le (w.heap.size + 1 + 1) U ∧ Le (w.heap.size + 1) U) := fun U hU => by
      have y0 := (Z0.out.after (w' := w4) (k := a4)).after (w' := U)
      have y1 := (Z1.out.after (w' := w4) (k := a4)).after (w' := U)
      have y2 := (Z2.out.after (w' := w4) (k := a4)).after (w' := U)
      have y3 := (ZB.out.after (w' := w4) (k := a4)).after (w' := U)
      rw [hg7] at y3
      exact ⟨by rw [y3.cell]; rfl, by rw [y3.cell]; rfl, by rw [y3.cell]; rfl, by rw [y3.cell]; rfl, by rw [y3.cell]; rfl, by rw [y0.cell]; rfl, by rw [y0.cell]; rfl, by rw [y1.cell]; rfl, by rw [y2.cell]; rfl, by rw [y2.cell]; rfl, y3.is_le, y2.is_le, y1.is_le, y0.is_le⟩
    clear a4
    obtain ⟨f0_, f1_, f2_, f3_, f4_, f5_, f6_, f7_, f8_, f9_, f10_, f11_, f12_, f13_⟩ := HK.out w4 inferInstance
    have ix0 := fun W : World => idx0 a b c d W
    have ix1 := fun W : World => idx1 a b c d W
    have ix2 := fun W : World => idx2 a b c d W
    have ix3 := fun W : World => idx3 a b c d W
    go_wp2_with fail
    refine wp_loop_rounds 5 ?_
    rw [rounds_succ]
    go_wp2_with fail
    rw [rounds_succ]
    go_wp2_with fail
    go_quiet (fail)
    go_wp2_with fail
    rw [rounds_succ]
    go_wp2_with fail
    go_quiet (fail)
    go_wp2_with fail
    rw [rounds_succ]
    go_wp2_with fail
    go_quiet (fail)
    go_wp2_with fail
    rw [rounds_succ]
    go_wp2_with fail
    go_ret
    first | exact ⟨rfl, aw4⟩ | exact ⟨rfl, inferInstance⟩ | exact ⟨ret_bool (by simp; omega), inferInstance⟩ | exact ⟨ret_bool (by simp; omega), aw4⟩
  by_cases h2 : withinB b (calledR m a).init.length r.init.length = true
  rotate_left
  · replace h2 : withinB b (calledR m a).init.length r.init.length = false := by simpa using h2
    rw [show (decide (0 ≤ a) && decide (a < (k_ : Nat)) && withinB b (calledR m a).init.length r.init.length && withinB c (calledR m a).ins.length r.regs && withinB d (calledR m a).outs.length r.regs) = false by simp [h0, h1, h2]]
    obtain ⟨an, rfl⟩ : ∃ an : Nat, a = an := ⟨a.toNat, by omega⟩
    have hb0 : decide (0 ≤ (an : Int)) = true := decide_eq_true h0
    have hb1 : decide ((an : Int) < (k_ : Nat)) = true := decide_eq_true h1
    have HW2 := Lib.hid (fun U : World => within_any U b ((calledR m an).init.length : Nat) (r.init.length : Nat) (by omega))
    rw [h2] at HW2
    have fl1 := fld1
    have fl2 := fld2
    have fl4 := fld4
    obtain ⟨s9, A91, c91, A92, c92, g9, A93, c93, A94, c94, hCL⟩ := called_fix x an (by omega)
    have HCL := Lib.hid hCL
    clear hCL
    have hk1 := Lib.hid (fun U (hU : After w U) => known_9 w0 U hO (after_after hw hU))
    have hf1 := Lib.hid (fun U : World => fields_any U 9 an b c d)
    have x' := Lib.hid x
    clear x
    go_enter Tryd.func51, Tryd.ntmps51
    go_wp2_with fail
    refine (hk1.out _ inferInstance).mono ?_
    rintro e w2 ⟨rfl, a2⟩
    have z0 := Lib.hid ((((Blk.new w 29 #[.slice A m.enums.length c_, .slice (some ⟨bq, pq, none⟩) m.rts.length cm_]).alloc (.cells #[.int .i64 9, .int .i64 an, .int .i64 b, .int .i64 c, .int .i64 d] 61)).alloc (.cells #[.string s, .slice A1 r.ins.length c1, .slice A2 r.outs.length c2, .int .i64 r.regs, .slice A3 r.init.length c3, .slice A4 r.code.length c4] 52)).after (w' := w2))
    have z1 := Lib.hid (((Blk.new1 w (.cells #[.slice A m.enums.length c_, .slice (some ⟨bq, pq, none⟩) m.rts.length cm_] 29) 61 #[.int .i64 9, .int .i64 an, .int .i64 b, .int .i64 c, .int .i64 d]).alloc (.cells #[.string s, .slice A1 r.ins.length c1, .slice A2 r.outs.length c2, .int .i64 r.regs, .slice A3 r.init.length c3, .slice A4 r.code.length c4] 52)).after (w' := w2))
    have z2 := Lib.hid ((Blk.new2 w (.cells #[.slice A m.enums.length c_, .slice (some ⟨bq, pq, none⟩) m.rts.length cm_] 29) (.cells #[.int .i64 9, .int .i64 an, .int .i64 b, .int .i64 c, .int .i64 d] 61) 52 #[.string s, .slice A1 r.ins.length c1, .slice A2 r.outs.length c2, .int .i64 r.regs, .slice A3 r.init.length c3, .slice A4 r.code.length c4]).after (w' := w2))
    have aw2 : After w w2 := after_after inferInstance a2
    clear a2
    have i0_ : w2.cell? ⟨w.heap.size + 1, 0, none⟩ = some (.int .i64 9) := by rw [z1.out.cell]; rfl
    have i1_ : w2.cell? ⟨w.heap.size + 1, 1, none⟩ = some (.int .i64 an) := by rw [z1.out.cell]; rfl
    have i2_ : w2.cell? ⟨w.heap.size + 1, 2, none⟩ = some (.int .i64 b) := by rw [z1.out.cell]; rfl
    have i3_ : w2.cell? ⟨w.heap.size + 1, 3, none⟩ = some (.int .i64 c) := by rw [z1.out.cell]; rfl
    have i4_ : w2.cell? ⟨w.heap.size + 1, 4, none⟩ = some (.int .i64 d) := by rw [z1.out.cell]; rfl
    have li_ := z1.out.is_le
    have ZB := Lib.hid (Blk.new w2 87 #[.string ⟨#[99, 97, 108, 108]⟩, .int .i64 6, .int .i64 7, .int .i64 8, .int .i64 9, .int .i64 0])
    have Z0 := Lib.hid (z0.out.alloc (.cells #[.string ⟨#[99, 97, 108, 108]⟩, .int .i64 6, .int .i64 7, .int .i64 8, .int .i64 9, .int .i64 0] 87))
    have Z1 := Lib.hid (z1.out.alloc (.cells #[.string ⟨#[99, 97, 108, 108]⟩, .int .i64 6, .int .i64 7, .int .i64 8, .int .i64 9, .int .i64 0] 87))
    have Z2 := Lib.hid (z2.out.alloc (.cells #[.string ⟨#[99, 97, 108, 108]⟩, .int .i64 6, .int .i64 7, .int .i64 8, .int .i64 9, .int .i64 0] 87))
    go_wp2_with fail
    refine (hf1.out _).mono ?_
    rintro e w4 ⟨rfl, a4⟩
    have aw4 : After w w4 := after_after aw2 (after_after inferInstance a4)
    obtain ⟨g7, hg7⟩ : ∃ g7, w2.heap.size = g7 := ⟨_, rfl⟩
    have HK : Hid (∀ U : World, After w4 U → U.cell? ⟨g7, 1, none⟩ = some (.int .i64 6) ∧ U.cell? ⟨g7, 2, none⟩ = some (.int .i64 7) ∧ U.cell? ⟨g7, 3, none⟩ = some (.int .i64 8) ∧ U.cell? ⟨g7, 4, none⟩ = some (.int .i64 9) ∧ U.cell? ⟨g7, 5, none⟩ = some (.int .i64 0) ∧ U.cell? ⟨w.heap.size, 0, none⟩ = some (.slice A m.enums.length c_) ∧ U.cell? ⟨w.heap.size, 1, none⟩ = some (.slice (some ⟨bq, pq, none⟩) m.rts.length cm_) ∧ U.cell? ⟨w.heap.size + 1, 1, none⟩ = some (.int .i64 an) ∧ U.cell? ⟨w.heap.size + 2, 3, none⟩ = some (.int .i64 r.regs) ∧ U.cell? ⟨w.heap.size + 2, 4, none⟩ = some (.slice A3 r.init.length c3) ∧ Le (g7 + 1) U ∧ Le (w.heap.size + 2 + 1) U ∧ Le (w.heap.size + 1 + 1) U ∧ Le (w.heap.size + 1) U) := fun U hU => by
      have y0 := (Z0.out.after (w' := w4) (k := a4)).after (w' := U)
      have y1 := (Z1.out.after (w' := w4) (k := a4)).after (w' := U)
      have y2 := (Z2.out.after (w' := w4) (k := a4)).after (w' := U)
      have y3 := (ZB.out.after (w' := w4) (k := a4)).after (w' := U)
      rw [hg7] at y3
      exact ⟨by rw [y3.cell]; rfl, by rw [y3.cell]; rfl, by rw [y3.cell]; rfl, by rw [y3.cell]; rfl, by rw [y3.cell]; rfl, by rw [y0.cell]; rfl, by rw [y0.cell]; rfl, by rw [y1.cell]; rfl, by rw [y2.cell]; rfl, by rw [y2.cell]; rfl, y3.is_le, y2.is_le, y1.is_le, y0.is_le⟩
    clear a4
    obtain ⟨f0_, f1_, f2_, f3_, f4_, f5_, f6_, f7_, f8_, f9_, f10_, f11_, f12_, f13_⟩ := HK.out w4 inferInstance
    have ix0 := fun W : World => idx0 an b c d W
    have ix1 := fun W : World => idx1 an b c d W
    have ix2 := fun W : World => idx2 an b c d W
    have ix3 := fun W : World => idx3 an b c d W
    go_wp2_with fail
    refine wp_loop_rounds 5 ?_
    rw [rounds_succ]
    go_wp2_with fail
    rw [rounds_succ]
    go_wp2_with fail
    have a0_v5 : After w0 w4 := after_after hw aw4
    refine wp_region_more (by kernel_rfl) (by kernel_rfl) ?_
    repeat (go_big_quiet_step ((first | (go_at_call 63; exact Calls.more_of (HCL.out _ inferInstance)) | (go_at_call 62; exact Calls.more_of ((HW2.out _).mono (fun e w_ h_ => ⟨h_.1, by rw [h_.2]; exact After.is_more _ _⟩))))))
    refine wpQuiet_nil ?_
    rintro _ ⟨yv5, rfl⟩
    obtain ⟨v5, hv5⟩ : ∃ v, w4.more yv5 = v := ⟨_, rfl⟩
    have av5 : After w4 v5 := by rw [← hv5]; exact after_after (show After w4 w4 from inferInstance) inferInstance
    rw [hv5]
    clear hv5
    have aw_v5 : After w v5 := after_after aw4 av5
    obtain ⟨f0_v5, f1_v5, f2_v5, f3_v5, f4_v5, f5_v5, f6_v5, f7_v5, f8_v5, f9_v5, f10_v5, f11_v5, f12_v5, f13_v5⟩ := HK.out v5 av5
    go_wp2_with fail
    rw [rounds_succ]
    go_wp2_with fail
    go_quiet (fail)
    go_wp2_with fail
    rw [rounds_succ]
    go_wp2_with fail
    go_quiet (fail)
    go_wp2_with fail
    rw [rounds_succ]
    go_wp2_with fail
    go_ret
    first | exact ⟨rfl, aw_v5⟩ | exact ⟨rfl, inferInstance⟩ | exact ⟨ret_bool (by simp; omega), inferInstance⟩ | exact ⟨ret_bool (by simp; omega), aw_v5⟩
  by_cases h3 : withinB c (calledR m a).ins.length r.regs = true
  rotate_left
  · replace h3 : withinB c (calledR m a).ins.length r.regs = false := by simpa using h3
    rw [show (decide (0 ≤ a) && decide (a < (k_ : Nat)) && withinB b (calledR m a).init.length r.init.length && withinB c (calledR m a).ins.length r.regs && withinB d (calledR m a).outs.length r.regs) = false by simp [h0, h1, h2, h3]]
    obtain ⟨an, rfl⟩ : ∃ an : Nat, a = an := ⟨a.toNat, by omega⟩
    have hb0 : decide (0 ≤ (an : Int)) = true := decide_eq_true h0
    have hb1 : decide ((an : Int) < (k_ : Nat)) = true := decide_eq_true h1
    have HW2 := Lib.hid (fun U : World => within_any U b ((calledR m an).init.length : Nat) (r.init.length : Nat) (by omega))
    rw [h2] at HW2
    have HW3 := Lib.hid (fun U : World => within_any U c ((calledR m an).ins.length : Nat) r.regs (by omega))
    rw [h3] at HW3
    have fl1 := fld1
    have fl2 := fld2
    have fl4 := fld4
    obtain ⟨s9, A91, c91, A92, c92, g9, A93, c93, A94, c94, hCL⟩ := called_fix x an (by omega)
    have HCL := Lib.hid hCL
    clear hCL
    have hk1 := Lib.hid (fun U (hU : After w U) => known_9 w0 U hO (after_after hw hU))
    have hf1 := Lib.hid (fun U : World => fields_any U 9 an b c d)
    have x' := Lib.hid x
    clear x
    go_enter Tryd.func51, Tryd.ntmps51
    go_wp2_with fail
    refine (hk1.out _ inferInstance).mono ?_
    rintro e w2 ⟨rfl, a2⟩
    have z0 := Lib.hid ((((Blk.new w 29 #[.slice A m.enums.length c_, .slice (some ⟨bq, pq, none⟩) m.rts.length cm_]).alloc (.cells #[.int .i64 9, .int .i64 an, .int .i64 b, .int .i64 c, .int .i64 d] 61)).alloc (.cells #[.string s, .slice A1 r.ins.length c1, .slice A2 r.outs.length c2, .int .i64 r.regs, .slice A3 r.init.length c3, .slice A4 r.code.length c4] 52)).after (w' := w2))
    have z1 := Lib.hid (((Blk.new1 w (.cells #[.slice A m.enums.length c_, .slice (some ⟨bq, pq, none⟩) m.rts.length cm_] 29) 61 #[.int .i64 9, .int .i64 an, .int .i64 b, .int .i64 c, .int .i64 d]).alloc (.cells #[.string s, .slice A1 r.ins.length c1, .slice A2 r.outs.length c2, .int .i64 r.regs, .slice A3 r.init.length c3, .slice A4 r.code.length c4] 52)).after (w' := w2))
    have z2 := Lib.hid ((Blk.new2 w (.cells #[.slice A m.enums.length c_, .slice (some ⟨bq, pq, none⟩) m.rts.length cm_] 29) (.cells #[.int .i64 9, .int .i64 an, .int .i64 b, .int .i64 c, .int .i64 d] 61) 52 #[.string s, .slice A1 r.ins.length c1, .slice A2 r.outs.length c2, .int .i64 r.regs, .slice A3 r.init.length c3, .slice A4 r.code.length c4]).after (w' := w2))
    have aw2 : After w w2 := after_after inferInstance a2
    clear a2
    have i0_ : w2.cell? ⟨w.heap.size + 1, 0, none⟩ = some (.int .i64 9) := by rw [z1.out.cell]; rfl
    have i1_ : w2.cell? ⟨w.heap.size + 1, 1, none⟩ = some (.int .i64 an) := by rw [z1.out.cell]; rfl
    have i2_ : w2.cell? ⟨w.heap.size + 1, 2, none⟩ = some (.int .i64 b) := by rw [z1.out.cell]; rfl
    have i3_ : w2.cell? ⟨w.heap.size + 1, 3, none⟩ = some (.int .i64 c) := by rw [z1.out.cell]; rfl
    have i4_ : w2.cell? ⟨w.heap.size + 1, 4, none⟩ = some (.int .i64 d) := by rw [z1.out.cell]; rfl
    have li_ := z1.out.is_le
    have ZB := Lib.hid (Blk.new w2 87 #[.string ⟨#[99, 97, 108, 108]⟩, .int .i64 6, .int .i64 7, .int .i64 8, .int .i64 9, .int .i64 0])
    have Z0 := Lib.hid (z0.out.alloc (.cells #[.string ⟨#[99, 97, 108, 108]⟩, .int .i64 6, .int .i64 7, .int .i64 8, .int .i64 9, .int .i64 0] 87))
    have Z1 := Lib.hid (z1.out.alloc (.cells #[.string ⟨#[99, 97, 108, 108]⟩, .int .i64 6, .int .i64 7, .int .i64 8, .int .i64 9, .int .i64 0] 87))
    have Z2 := Lib.hid (z2.out.alloc (.cells #[.string ⟨#[99, 97, 108, 108]⟩, .int .i64 6, .int .i64 7, .int .i64 8, .int .i64 9, .int .i64 0] 87))
    go_wp2_with fail
    refine (hf1.out _).mono ?_
    rintro e w4 ⟨rfl, a4⟩
    have aw4 : After w w4 := after_after aw2 (after_after inferInstance a4)
    obtain ⟨g7, hg7⟩ : ∃ g7, w2.heap.size = g7 := ⟨_, rfl⟩
    have HK : Hid (∀ U : World, After w4 U → U.cell? ⟨g7, 1, none⟩ = some (.int .i64 6) ∧ U.cell? ⟨g7, 2, none⟩ = some (.int .i64 7) ∧ U.cell? ⟨g7, 3, none⟩ = some (.int .i64 8) ∧ U.cell? ⟨g7, 4, none⟩ = some (.int .i64 9) ∧ U.cell? ⟨g7, 5, none⟩ = some (.int .i64 0) ∧ U.cell? ⟨w.heap.size, 0, none⟩ = some (.slice A m.enums.length c_) ∧ U.cell? ⟨w.heap.size, 1, none⟩ = some (.slice (some ⟨bq, pq, none⟩) m.rts.length cm_) ∧ U.cell? ⟨w.heap.size + 1, 1, none⟩ = some (.int .i64 an) ∧ U.cell? ⟨w.heap.size + 2, 3, none⟩ = some (.int .i64 r.regs) ∧ U.cell? ⟨w.heap.size + 2, 4, none⟩ = some (.slice A3 r.init.length c3) ∧ Le (g7 + 1) U ∧ Le (w.heap.size + 2 + 1) U ∧ Le (w.heap.size + 1 + 1) U ∧ Le (w.heap.size + 1) U) := fun U hU => by
      have y0 := (Z0.out.after (w' := w4) (k := a4)).after (w' := U)
      have y1 := (Z1.out.after (w' := w4) (k := a4)).after (w' := U)
      have y2 := (Z2.out.after (w' := w4) (k := a4)).after (w' := U)
      have y3 := (ZB.out.after (w' := w4) (k := a4)).after (w' := U)
      rw [hg7] at y3
      exact ⟨by rw [y3.cell]; rfl, by rw [y3.cell]; rfl, by rw [y3.cell]; rfl, by rw [y3.cell]; rfl, by rw [y3.cell]; rfl, by rw [y0.cell]; rfl, by rw [y0.cell]; rfl, by rw [y1.cell]; rfl, by rw [y2.cell]; rfl, by rw [y2.cell]; rfl, y3.is_le, y2.is_le, y1.is_le, y0.is_le⟩
    clear a4
    obtain ⟨f0_, f1_, f2_, f3_, f4_, f5_, f6_, f7_, f8_, f9_, f10_, f11_, f12_, f13_⟩ := HK.out w4 inferInstance
    have ix0 := fun W : World => idx0 an b c d W
    have ix1 := fun W : World => idx1 an b c d W
    have ix2 := fun W : World => idx2 an b c d W
    have ix3 := fun W : World => idx3 an b c d W
    go_wp2_with fail
    refine wp_loop_rounds 5 ?_
    rw [rounds_succ]
    go_wp2_with fail
    rw [rounds_succ]
    go_wp2_with fail
    have a0_v5 : After w0 w4 := after_after hw aw4
    refine wp_region_more (by kernel_rfl) (by kernel_rfl) ?_
    repeat (go_big_quiet_step ((first | (go_at_call 63; exact Calls.more_of (HCL.out _ inferInstance)) | (go_at_call 62; exact Calls.more_of ((HW2.out _).mono (fun e w_ h_ => ⟨h_.1, by rw [h_.2]; exact After.is_more _ _⟩))))))
    refine wpQuiet_nil ?_
    rintro _ ⟨yv5, rfl⟩
    obtain ⟨v5, hv5⟩ : ∃ v, w4.more yv5 = v := ⟨_, rfl⟩
    have av5 : After w4 v5 := by rw [← hv5]; exact after_after (show After w4 w4 from inferInstance) inferInstance
    rw [hv5]
    clear hv5
    have aw_v5 : After w v5 := after_after aw4 av5
    obtain ⟨f0_v5, f1_v5, f2_v5, f3_v5, f4_v5, f5_v5, f6_v5, f7_v5, f8_v5, f9_v5, f10_v5, f11_v5, f12_v5, f13_v5⟩ := HK.out v5 av5
    go_wp2_with fail
    rw [rounds_succ]
    go_wp2_with fail
    have a0_v6 : After w0 v5 := after_after hw aw_v5
    refine wp_region_more (by kernel_rfl) (by kernel_rfl) ?_
    repeat (go_big_quiet_step ((first | (go_at_call 63; exact Calls.more_of (HCL.out _ inferInstance)) | (go_at_call 62; exact Calls.more_of ((HW3.out _).mono (fun e w_ h_ => ⟨h_.1, by rw [h_.2]; exact After.is_more _ _⟩))))))
    refine wpQuiet_nil ?_
    rintro _ ⟨yv6, rfl⟩
    obtain ⟨v6, hv6⟩ : ∃ v, v5.more yv6 = v := ⟨_, rfl⟩
    have av6 : After w4 v6 := by rw [← hv6]; exact after_after av5 inferInstance
    rw [hv6]
    clear hv6
    have aw_v6 : After w v6 := after_after aw4 av6
    obtain ⟨f0_v6, f1_v6, f2_v6, f3_v6, f4_v6, f5_v6, f6_v6, f7_v6, f8_v6, f9_v6, f10_v6, f11_v6, f12_v6, f13_v6⟩ := HK.out v6 av6
    go_wp2_with fail
    rw [rounds_succ]
    go_wp2_with fail
    go_quiet (fail)
    go_wp2_with fail
    rw [rounds_succ]
    go_wp2_with fail
    go_ret
    first | exact ⟨rfl, aw_v6⟩ | exact ⟨rfl, inferInstance⟩ | exact ⟨ret_bool (by simp; omega), inferInstance⟩ | exact ⟨ret_bool (by simp; omega), aw_v6⟩
  by_cases h4 : withinB d (calledR m a).outs.length r.regs = true
  rotate_left
  · replace h4 : withinB d (calledR m a).outs.length r.regs = false := by simpa using h4
    rw [show (decide (0 ≤ a) && decide (a < (k_ : Nat)) && withinB b (calledR m a).init.length r.init.length && withinB c (calledR m a).ins.length r.regs && withinB d (calledR m a).outs.length r.regs) = false by simp [h0, h1, h2, h3, h4]]
    obtain ⟨an, rfl⟩ : ∃ an : Nat, a = an := ⟨a.toNat, by omega⟩
    have hb0 : decide (0 ≤ (an : Int)) = true := decide_eq_true h0
    have hb1 : decide ((an : Int) < (k_ : Nat)) = true := decide_eq_true h1
    have HW2 := Lib.hid (fun U : World => within_any U b ((calledR m an).init.length : Nat) (r.init.length : Nat) (by omega))
    rw [h2] at HW2
    have HW3 := Lib.hid (fun U : World => within_any U c ((calledR m an).ins.length : Nat) r.regs (by omega))
    rw [h3] at HW3
    have HW4 := Lib.hid (fun U : World => within_any U d ((calledR m an).outs.length : Nat) r.regs (by omega))
    rw [h4] at HW4
    have fl1 := fld1
    have fl2 := fld2
    have fl4 := fld4
    obtain ⟨s9, A91, c91, A92, c92, g9, A93, c93, A94, c94, hCL⟩ := called_fix x an (by omega)
    have HCL := Lib.hid hCL
    clear hCL
    have hk1 := Lib.hid (fun U (hU : After w U) => known_9 w0 U hO (after_after hw hU))
    have hf1 := Lib.hid (fun U : World => fields_any U 9 an b c d)
    have x' := Lib.hid x
    clear x
    go_enter Tryd.func51, Tryd.ntmps51
    go_wp2_with fail
    refine (hk1.out _ inferInstance).mono ?_
    rintro e w2 ⟨rfl, a2⟩
    have z0 := Lib.hid ((((Blk.new w 29 #[.slice A m.enums.length c_, .slice (some ⟨bq, pq, none⟩) m.rts.length cm_]).alloc (.cells #[.int .i64 9, .int .i64 an, .int .i64 b, .int .i64 c, .int .i64 d] 61)).alloc (.cells #[.string s, .slice A1 r.ins.length c1, .slice A2 r.outs.length c2, .int .i64 r.regs, .slice A3 r.init.length c3, .slice A4 r.code.length c4] 52)).after (w' := w2))
    have z1 := Lib.hid (((Blk.new1 w (.cells #[.slice A m.enums.length c_, .slice (some ⟨bq, pq, none⟩) m.rts.length cm_] 29) 61 #[.int .i64 9, .int .i64 an, .int .i64 b, .int .i64 c, .int .i64 d]).alloc (.cells #[.string s, .slice A1 r.ins.length c1, .slice A2 r.outs.length c2, .int .i64 r.regs, .slice A3 r.init.length c3, .slice A4 r.code.length c4] 52)).after (w' := w2))
    have z2 := Lib.hid ((Blk.new2 w (.cells #[.slice A m.enums.length c_, .slice (some ⟨bq, pq, none⟩) m.rts.length cm_] 29) (.cells #[.int .i64 9, .int .i64 an, .int .i64 b, .int .i64 c, .int .i64 d] 61) 52 #[.string s, .slice A1 r.ins.length c1, .slice A2 r.outs.length c2, .int .i64 r.regs, .slice A3 r.init.length c3, .slice A4 r.code.length c4]).after (w' := w2))
    have aw2 : After w w2 := after_after inferInstance a2
    clear a2
    have i0_ : w2.cell? ⟨w.heap.size + 1, 0, none⟩ = some (.int .i64 9) := by rw [z1.out.cell]; rfl
    have i1_ : w2.cell? ⟨w.heap.size + 1, 1, none⟩ = some (.int .i64 an) := by rw [z1.out.cell]; rfl
    have i2_ : w2.cell? ⟨w.heap.size + 1, 2, none⟩ = some (.int .i64 b) := by rw [z1.out.cell]; rfl
    have i3_ : w2.cell? ⟨w.heap.size + 1, 3, none⟩ = some (.int .i64 c) := by rw [z1.out.cell]; rfl
    have i4_ : w2.cell? ⟨w.heap.size + 1, 4, none⟩ = some (.int .i64 d) := by rw [z1.out.cell]; rfl
    have li_ := z1.out.is_le
    have ZB := Lib.hid (Blk.new w2 87 #[.string ⟨#[99, 97, 108, 108]⟩, .int .i64 6, .int .i64 7, .int .i64 8, .int .i64 9, .int .i64 0])
    have Z0 := Lib.hid (z0.out.alloc (.cells #[.string ⟨#[99, 97, 108, 108]⟩, .int .i64 6, .int .i64 7, .int .i64 8, .int .i64 9, .int .i64 0] 87))
    have Z1 := Lib.hid (z1.out.alloc (.cells #[.string ⟨#[99, 97, 108, 108]⟩, .int .i64 6, .int .i64 7, .int .i64 8, .int .i64 9, .int .i64 0] 87))
    have Z2 := Lib.hid (z2.out.alloc (.cells #[.string ⟨#[99, 97, 108, 108]⟩, .int .i64 6, .int .i64 7, .int .i64 8, .int .i64 9, .int .i64 0] 87))
    go_wp2_with fail
    refine (hf1.out _).mono ?_
    rintro e w4 ⟨rfl, a4⟩
    have aw4 : After w w4 := after_after aw2 (after_after inferInstance a4)
    obtain ⟨g7, hg7⟩ : ∃ g7, w2.heap.size = g7 := ⟨_, rfl⟩
    have HK : Hid (∀ U : World, After w4 U → U.cell? ⟨g7, 1, none⟩ = some (.int .i64 6) ∧ U.cell? ⟨g7, 2, none⟩ = some (.int .i64 7) ∧ U.cell? ⟨g7, 3, none⟩ = some (.int .i64 8) ∧ U.cell? ⟨g7, 4, none⟩ = some (.int .i64 9) ∧ U.cell? ⟨g7, 5, none⟩ = some (.int .i64 0) ∧ U.cell? ⟨w.heap.size, 0, none⟩ = some (.slice A m.enums.length c_) ∧ U.cell? ⟨w.heap.size, 1, none⟩ = some (.slice (some ⟨bq, pq, none⟩) m.rts.length cm_) ∧ U.cell? ⟨w.heap.size + 1, 1, none⟩ = some (.int .i64 an) ∧ U.cell? ⟨w.heap.size + 2, 3, none⟩ = some (.int .i64 r.regs) ∧ U.cell? ⟨w.heap.size + 2, 4, none⟩ = some (.slice A3 r.init.length c3) ∧ Le (g7 + 1) U ∧ Le (w.heap.size + 2 + 1) U ∧ Le (w.heap.size + 1 + 1) U ∧ Le (w.heap.size + 1) U) := fun U hU => by
      have y0 := (Z0.out.after (w' := w4) (k := a4)).after (w' := U)
      have y1 := (Z1.out.after (w' := w4) (k := a4)).after (w' := U)
      have y2 := (Z2.out.after (w' := w4) (k := a4)).after (w' := U)
      have y3 := (ZB.out.after (w' := w4) (k := a4)).after (w' := U)
      rw [hg7] at y3
      exact ⟨by rw [y3.cell]; rfl, by rw [y3.cell]; rfl, by rw [y3.cell]; rfl, by rw [y3.cell]; rfl, by rw [y3.cell]; rfl, by rw [y0.cell]; rfl, by rw [y0.cell]; rfl, by rw [y1.cell]; rfl, by rw [y2.cell]; rfl, by rw [y2.cell]; rfl, y3.is_le, y2.is_le, y1.is_le, y0.is_le⟩
    clear a4
    obtain ⟨f0_, f1_, f2_, f3_, f4_, f5_, f6_, f7_, f8_, f9_, f10_, f11_, f12_, f13_⟩ := HK.out w4 inferInstance
    have ix0 := fun W : World => idx0 an b c d W
    have ix1 := fun W : World => idx1 an b c d W
    have ix2 := fun W : World => idx2 an b c d W
    have ix3 := fun W : World => idx3 an b c d W
    go_wp2_with fail
    refine wp_loop_rounds 5 ?_
    rw [rounds_succ]
    go_wp2_with fail
    rw [rounds_succ]
    go_wp2_with fail
    have a0_v5 : After w0 w4 := after_after hw aw4
    refine wp_region_more (by kernel_rfl) (by kernel_rfl) ?_
    repeat (go_big_quiet_step ((first | (go_at_call 63; exact Calls.more_of (HCL.out _ inferInstance)) | (go_at_call 62; exact Calls.more_of ((HW2.out _).mono (fun e w_ h_ => ⟨h_.1, by rw [h_.2]; exact After.is_more _ _⟩))))))
    refine wpQuiet_nil ?_
    rintro _ ⟨yv5, rfl⟩
    obtain ⟨v5, hv5⟩ : ∃ v, w4.more yv5 = v := ⟨_, rfl⟩
    have av5 : After w4 v5 := by rw [← hv5]; exact after_after (show After w4 w4 from inferInstance) inferInstance
    rw [hv5]
    clear hv5
    have aw_v5 : After w v5 := after_after aw4 av5
    obtain ⟨f0_v5, f1_v5, f2_v5, f3_v5, f4_v5, f5_v5, f6_v5, f7_v5, f8_v5, f9_v5, f10_v5, f11_v5, f12_v5, f13_v5⟩ := HK.out v5 av5
    go_wp2_with fail
    rw [rounds_succ]
    go_wp2_with fail
    have a0_v6 : After w0 v5 := after_after hw aw_v5
    refine wp_region_more (by kernel_rfl) (by kernel_rfl) ?_
    repeat (go_big_quiet_step ((first | (go_at_call 63; exact Calls.more_of (HCL.out _ inferInstance)) | (go_at_call 62; exact Calls.more_of ((HW3.out _).mono (fun e w_ h_ => ⟨h_.1, by rw [h_.2]; exact After.is_more _ _⟩))))))
    refine wpQuiet_nil ?_
    rintro _ ⟨yv6, rfl⟩
    obtain ⟨v6, hv6⟩ : ∃ v, v5.more yv6 = v := ⟨_, rfl⟩
    have av6 : After w4 v6 := by rw [← hv6]; exact after_after av5 inferInstance
    rw [hv6]
    clear hv6
    have aw_v6 : After w v6 := after_after aw4 av6
    obtain ⟨f0_v6, f1_v6, f2_v6, f3_v6, f4_v6, f5_v6, f6_v6, f7_v6, f8_v6, f9_v6, f10_v6, f11_v6, f12_v6, f13_v6⟩ := HK.out v6 av6
    go_wp2_with fail
    rw [rounds_succ]
    go_wp2_with fail
    have a0_v7 : After w0 v6 := after_after hw aw_v6
    refine wp_region_more (by kernel_rfl) (by kernel_rfl) ?_
    repeat (go_big_quiet_step ((first | (go_at_call 63; exact Calls.more_of (HCL.out _ inferInstance)) | (go_at_call 62; exact Calls.more_of ((HW4.out _).mono (fun e w_ h_ => ⟨h_.1, by rw [h_.2]; exact After.is_more _ _⟩))))))
    refine wpQuiet_nil ?_
    rintro _ ⟨yv7, rfl⟩
    obtain ⟨v7, hv7⟩ : ∃ v, v6.more yv7 = v := ⟨_, rfl⟩
    have av7 : After w4 v7 := by rw [← hv7]; exact after_after av6 inferInstance
    rw [hv7]
    clear hv7
    have aw_v7 : After w v7 := after_after aw4 av7
    obtain ⟨f0_v7, f1_v7, f2_v7, f3_v7, f4_v7, f5_v7, f6_v7, f7_v7, f8_v7, f9_v7, f10_v7, f11_v7, f12_v7, f13_v7⟩ := HK.out v7 av7
    go_wp2_with fail
    rw [rounds_succ]
    go_wp2_with fail
    go_ret
    first | exact ⟨rfl, aw_v7⟩ | exact ⟨rfl, inferInstance⟩ | exact ⟨ret_bool (by simp; omega), inferInstance⟩ | exact ⟨ret_bool (by simp; omega), aw_v7⟩
  rw [show (decide (0 ≤ a) && decide (a < (k_ : Nat)) && withinB b (calledR m a).init.length r.init.length && withinB c (calledR m a).ins.length r.regs && withinB d (calledR m a).outs.length r.regs) = true by simp [h0, h1, h2, h3, h4]]
  obtain ⟨an, rfl⟩ : ∃ an : Nat, a = an := ⟨a.toNat, by omega⟩
  have hb0 : decide (0 ≤ (an : Int)) = true := decide_eq_true h0
  have hb1 : decide ((an : Int) < (k_ : Nat)) = true := decide_eq_true h1
  have HW2 := Lib.hid (fun U : World => within_any U b ((calledR m an).init.length : Nat) (r.init.length : Nat) (by omega))
  rw [h2] at HW2
  have HW3 := Lib.hid (fun U : World => within_any U c ((calledR m an).ins.length : Nat) r.regs (by omega))
  rw [h3] at HW3
  have HW4 := Lib.hid (fun U : World => within_any U d ((calledR m an).outs.length : Nat) r.regs (by omega))
  rw [h4] at HW4
  have fl1 := fld1
  have fl2 := fld2
  have fl4 := fld4
  obtain ⟨s9, A91, c91, A92, c92, g9, A93, c93, A94, c94, hCL⟩ := called_fix x an (by omega)
  have HCL := Lib.hid hCL
  clear hCL
  have hk1 := Lib.hid (fun U (hU : After w U) => known_9 w0 U hO (after_after hw hU))
  have hf1 := Lib.hid (fun U : World => fields_any U 9 an b c d)
  have x' := Lib.hid x
  clear x
  go_enter Tryd.func51, Tryd.ntmps51
  go_wp2_with fail
  refine (hk1.out _ inferInstance).mono ?_
  rintro e w2 ⟨rfl, a2⟩
  have z0 := Lib.hid ((((Blk.new w 29 #[.slice A m.enums.length c_, .slice (some ⟨bq, pq, none⟩) m.rts.length cm_]).alloc (.cells #[.int .i64 9, .int .i64 an, .int .i64 b, .int .i64 c, .int .i64 d] 61)).alloc (.cells #[.string s, .slice A1 r.ins.length c1, .slice A2 r.outs.length c2, .int .i64 r.regs, .slice A3 r.init.length c3, .slice A4 r.code.length c4] 52)).after (w' := w2))
  have z1 := Lib.hid (((Blk.new1 w (.cells #[.slice A m.enums.length c_, .slice (some ⟨bq, pq, none⟩) m.rts.length cm_] 29) 61 #[.int .i64 9, .int .i64 an, .int .i64 b, .int .i64 c, .int .i64 d]).alloc (.cells #[.string s, .slice A1 r.ins.length c1, .slice A2 r.outs.length c2, .int .i64 r.regs, .slice A3 r.init.length c3, .slice A4 r.code.length c4] 52)).after (w' := w2))
  have z2 := Lib.hid ((Blk.new2 w (.cells #[.slice A m.enums.length c_, .slice (some ⟨bq, pq, none⟩) m.rts.length cm_] 29) (.cells #[.int .i64 9, .int .i64 an, .int .i64 b, .int .i64 c, .int .i64 d] 61) 52 #[.string s, .slice A1 r.ins.length c1, .slice A2 r.outs.length c2, .int .i64 r.regs, .slice A3 r.init.length c3, .slice A4 r.code.length c4]).after (w' := w2))
  have aw2 : After w w2 := after_after inferInstance a2
  clear a2
  have i0_ : w2.cell? ⟨w.heap.size + 1, 0, none⟩ = some (.int .i64 9) := by rw [z1.out.cell]; rfl
  have i1_ : w2.cell? ⟨w.heap.size + 1, 1, none⟩ = some (.int .i64 an) := by rw [z1.out.cell]; rfl
  have i2_ : w2.cell? ⟨w.heap.size + 1, 2, none⟩ = some (.int .i64 b) := by rw [z1.out.cell]; rfl
  have i3_ : w2.cell? ⟨w.heap.size + 1, 3, none⟩ = some (.int .i64 c) := by rw [z1.out.cell]; rfl
  have i4_ : w2.cell? ⟨w.heap.size + 1, 4, none⟩ = some (.int .i64 d) := by rw [z1.out.cell]; rfl
  have li_ := z1.out.is_le
  have ZB := Lib.hid (Blk.new w2 87 #[.string ⟨#[99, 97, 108, 108]⟩, .int .i64 6, .int .i64 7, .int .i64 8, .int .i64 9, .int .i64 0])
  have Z0 := Lib.hid (z0.out.alloc (.cells #[.string ⟨#[99, 97, 108, 108]⟩, .int .i64 6, .int .i64 7, .int .i64 8, .int .i64 9, .int .i64 0] 87))
  have Z1 := Lib.hid (z1.out.alloc (.cells #[.string ⟨#[99, 97, 108, 108]⟩, .int .i64 6, .int .i64 7, .int .i64 8, .int .i64 9, .int .i64 0] 87))
  have Z2 := Lib.hid (z2.out.alloc (.cells #[.string ⟨#[99, 97, 108, 108]⟩, .int .i64 6, .int .i64 7, .int .i64 8, .int .i64 9, .int .i64 0] 87))
  go_wp2_with fail
  refine (hf1.out _).mono ?_
  rintro e w4 ⟨rfl, a4⟩
  have aw4 : After w w4 := after_after aw2 (after_after inferInstance a4)
  obtain ⟨g7, hg7⟩ : ∃ g7, w2.heap.size = g7 := ⟨_, rfl⟩
  have HK : Hid (∀ U : World, After w4 U → U.cell? ⟨g7, 1, none⟩ = some (.int .i64 6) ∧ U.cell? ⟨g7, 2, none⟩ = some (.int .i64 7) ∧ U.cell? ⟨g7, 3, none⟩ = some (.int .i64 8) ∧ U.cell? ⟨g7, 4, none⟩ = some (.int .i64 9) ∧ U.cell? ⟨g7, 5, none⟩ = some (.int .i64 0) ∧ U.cell? ⟨w.heap.size, 0, none⟩ = some (.slice A m.enums.length c_) ∧ U.cell? ⟨w.heap.size, 1, none⟩ = some (.slice (some ⟨bq, pq, none⟩) m.rts.length cm_) ∧ U.cell? ⟨w.heap.size + 1, 1, none⟩ = some (.int .i64 an) ∧ U.cell? ⟨w.heap.size + 2, 3, none⟩ = some (.int .i64 r.regs) ∧ U.cell? ⟨w.heap.size + 2, 4, none⟩ = some (.slice A3 r.init.length c3) ∧ Le (g7 + 1) U ∧ Le (w.heap.size + 2 + 1) U ∧ Le (w.heap.size + 1 + 1) U ∧ Le (w.heap.size + 1) U) := fun U hU => by
    have y0 := (Z0.out.after (w' := w4) (k := a4)).after (w' := U)
    have y1 := (Z1.out.after (w' := w4) (k := a4)).after (w' := U)
    have y2 := (Z2.out.after (w' := w4) (k := a4)).after (w' := U)
    have y3 := (ZB.out.after (w' := w4) (k := a4)).after (w' := U)
    rw [hg7] at y3
    exact ⟨by rw [y3.cell]; rfl, by rw [y3.cell]; rfl, by rw [y3.cell]; rfl, by rw [y3.cell]; rfl, by rw [y3.cell]; rfl, by rw [y0.cell]; rfl, by rw [y0.cell]; rfl, by rw [y1.cell]; rfl, by rw [y2.cell]; rfl, by rw [y2.cell]; rfl, y3.is_le, y2.is_le, y1.is_le, y0.is_le⟩
  clear a4
  obtain ⟨f0_, f1_, f2_, f3_, f4_, f5_, f6_, f7_, f8_, f9_, f10_, f11_, f12_, f13_⟩ := HK.out w4 inferInstance
  have ix0 := fun W : World => idx0 an b c d W
  have ix1 := fun W : World => idx1 an b c d W
  have ix2 := fun W : World => idx2 an b c d W
  have ix3 := fun W : World => idx3 an b c d W
  go_wp2_with fail
  refine wp_loop_rounds 5 ?_
  rw [rounds_succ]
  go_wp2_with fail
  rw [rounds_succ]
  go_wp2_with fail
  have a0_v5 : After w0 w4 := after_after hw aw4
  refine wp_region_more (by kernel_rfl) (by kernel_rfl) ?_
  repeat (go_big_quiet_step ((first | (go_at_call 63; exact Calls.more_of (HCL.out _ inferInstance)) | (go_at_call 62; exact Calls.more_of ((HW2.out _).mono (fun e w_ h_ => ⟨h_.1, by rw [h_.2]; exact After.is_more _ _⟩))))))
  refine wpQuiet_nil ?_
  rintro _ ⟨yv5, rfl⟩
  obtain ⟨v5, hv5⟩ : ∃ v, w4.more yv5 = v := ⟨_, rfl⟩
  have av5 : After w4 v5 := by rw [← hv5]; exact after_after (show After w4 w4 from inferInstance) inferInstance
  rw [hv5]
  clear hv5
  have aw_v5 : After w v5 := after_after aw4 av5
  obtain ⟨f0_v5, f1_v5, f2_v5, f3_v5, f4_v5, f5_v5, f6_v5, f7_v5, f8_v5, f9_v5, f10_v5, f11_v5, f12_v5, f13_v5⟩ := HK.out v5 av5
  go_wp2_with fail
  rw [rounds_succ]
  go_wp2_with fail
  have a0_v6 : After w0 v5 := after_after hw aw_v5
  refine wp_region_more (by kernel_rfl) (by kernel_rfl) ?_
  repeat (go_big_quiet_step ((first | (go_at_call 63; exact Calls.more_of (HCL.out _ inferInstance)) | (go_at_call 62; exact Calls.more_of ((HW3.out _).mono (fun e w_ h_ => ⟨h_.1, by rw [h_.2]; exact After.is_more _ _⟩))))))
  refine wpQuiet_nil ?_
  rintro _ ⟨yv6, rfl⟩
  obtain ⟨v6, hv6⟩ : ∃ v, v5.more yv6 = v := ⟨_, rfl⟩
  have av6 : After w4 v6 := by rw [← hv6]; exact after_after av5 inferInstance
  rw [hv6]
  clear hv6
  have aw_v6 : After w v6 := after_after aw4 av6
  obtain ⟨f0_v6, f1_v6, f2_v6, f3_v6, f4_v6, f5_v6, f6_v6, f7_v6, f8_v6, f9_v6, f10_v6, f11_v6, f12_v6, f13_v6⟩ := HK.out v6 av6
  go_wp2_with fail
  rw [rounds_succ]
  go_wp2_with fail
  have a0_v7 : After w0 v6 := after_after hw aw_v6
  refine wp_region_more (by kernel_rfl) (by kernel_rfl) ?_
  repeat (go_big_quiet_step ((first | (go_at_call 63; exact Calls.more_of (HCL.out _ inferInstance)) | (go_at_call 62; exact Calls.more_of ((HW4.out _).mono (fun e w_ h_ => ⟨h_.1, by rw [h_.2]; exact After.is_more _ _⟩))))))
  refine wpQuiet_nil ?_
  rintro _ ⟨yv7, rfl⟩
  obtain ⟨v7, hv7⟩ : ∃ v, v6.more yv7 = v := ⟨_, rfl⟩
  have av7 : After w4 v7 := by rw [← hv7]; exact after_after av6 inferInstance
  rw [hv7]
  clear hv7
  have aw_v7 : After w v7 := after_after aw4 av7
  obtain ⟨f0_v7, f1_v7, f2_v7, f3_v7, f4_v7, f5_v7, f6_v7, f7_v7, f8_v7, f9_v7, f10_v7, f11_v7, f12_v7, f13_v7⟩ := HK.out v7 av7
  go_wp2_with fail
  rw [rounds_succ]
  go_wp2_with fail
  go_ret
  first | exact ⟨rfl, aw_v7⟩ | exact ⟨rfl, inferInstance⟩ | exact ⟨ret_bool (by simp; omega), inferInstance⟩ | exact ⟨ret_bool (by simp; omega), aw_v7⟩
end Go.Proofs.YtgmojjdojcmnaaaDoor
