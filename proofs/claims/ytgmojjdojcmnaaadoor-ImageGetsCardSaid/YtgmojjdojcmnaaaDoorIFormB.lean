/-
  Contracts: asm.form, an operation a theorem (printed by gen_iform.py).
-/
import Derived.Test.YtgmojjdojcmnaaaDoorICkB
import Derived.Shelf.Abstract
import Derived.LoopN
set_option linter.unusedVariables false
set_option linter.unusedSimpArgs false
namespace Go.Proofs.YtgmojjdojcmnaaaDoor
open Go.RowKit Go.BigFrame

set_option maxRecDepth 100000 in
set_option maxHeartbeats 8000000 in
theorem form_6 (w0 w : World) (hO : Ops w0) (hw : After w0 w) (s : ByteArray) (A1 : Option Addr) (n1 c1 : Nat) (A2 : Option Addr) (n2 c2 : Nat) (g : Int) (A3 : Option Addr) (n3 c3 : Nat) (A4 : Option Addr) (n4 c4 : Nat) (at_ a b c d : Int) :
    Calls Tryd.prog 50 #[.agg #[.string s, .slice A1 n1 c1, .slice A2 n2 c2, .int .i64 g, .slice A3 n3 c3, .slice A4 n4 c4], .int .i64 at_, .agg #[.int .i64 6, .int .i64 a, .int .i64 b, .int .i64 c, .int .i64 d]] w fun e w' => e = .returned (.bool (formB ⟨6, a, b, c, d⟩ at_ (n4 : Nat))) ∧ After w w' := by
  by_cases h0 : opnI d = 2
  rotate_left
  · have HVV : formB ⟨6, a, b, c, d⟩ at_ (n4 : Nat) = false := by
      unfold formB opnI at *; simp at *; omega
    have HQ := Lib.hid (fun U : World => operands_any U d)
    obtain ⟨q_, hq_⟩ : ∃ q, opnI d = q := ⟨_, rfl⟩
    rw [hq_] at HQ h0
    clear hq_
    have b0 : (q_ == 2) = false := by simpa using h0
    have HV : Hid (formB ⟨6, a, b, c, d⟩ at_ (n4 : Nat) = false) := HVV
    rw [HV.out]
    have hk1 := Lib.hid (fun U (hU : After w U) => known_6 w0 U hO (after_after hw hU))
    have hf1 := Lib.hid (fun U : World => fields_any U 6 a b c d)
    go_enter Tryd.func50, Tryd.ntmps50
    go_wp2_with fail
    refine (hk1.out _ inferInstance).mono ?_
    rintro e w2 ⟨rfl, a2⟩
    have z0 := Lib.hid (((Blk.new w 52 #[.string s, .slice A1 n1 c1, .slice A2 n2 c2, .int .i64 g, .slice A3 n3 c3, .slice A4 n4 c4]).alloc (.cells #[.int .i64 6, .int .i64 a, .int .i64 b, .int .i64 c, .int .i64 d] 61)).after (w' := w2))
    have z1 := Lib.hid ((Blk.new1 w (.cells #[.string s, .slice A1 n1 c1, .slice A2 n2 c2, .int .i64 g, .slice A3 n3 c3, .slice A4 n4 c4] 52) 61 #[.int .i64 6, .int .i64 a, .int .i64 b, .int .i64 c, .int .i64 d]).after (w' := w2))
    have aw2 : After w w2 := after_after inferInstance a2
    clear a2
    have i0_ : w2.cell? ⟨w.heap.size + 1, 0, none⟩ = some (.int .i64 6) := by rw [z1.out.cell]; rfl
    have i1_ : w2.cell? ⟨w.heap.size + 1, 1, none⟩ = some (.int .i64 a) := by rw [z1.out.cell]; rfl
    have i2_ : w2.cell? ⟨w.heap.size + 1, 2, none⟩ = some (.int .i64 b) := by rw [z1.out.cell]; rfl
    have i3_ : w2.cell? ⟨w.heap.size + 1, 3, none⟩ = some (.int .i64 c) := by rw [z1.out.cell]; rfl
    have i4_ : w2.cell? ⟨w.heap.size + 1, 4, none⟩ = some (.int .i64 d) := by rw [z1.out.cell]; rfl
    have li_ := z1.out.is_le
    have ZB := Lib.hid (Blk.new w2 87 #[.string ⟨#[97, 112, 112, 108, 121]⟩, .int .i64 1, .int .i64 1, .int .i64 1, .int .i64 5, .int .i64 2])
    have Z0 := Lib.hid (z0.out.alloc (.cells #[.string ⟨#[97, 112, 112, 108, 121]⟩, .int .i64 1, .int .i64 1, .int .i64 1, .int .i64 5, .int .i64 2] 87))
    go_wp2_with fail
    refine (hf1.out _).mono ?_
    rintro e w4 ⟨rfl, a4⟩
    have aw4 : After w w4 := after_after aw2 (after_after inferInstance a4)
    have Y0 := Lib.hid (Z0.out.after (w' := w4))
    have YB := Lib.hid (ZB.out.after (w' := w4))
    clear a4
    obtain ⟨g7, hg7⟩ : ∃ g7, w2.heap.size = g7 := ⟨_, rfl⟩
    rw [hg7] at YB
    have r5_ : w4.cell? ⟨w.heap.size, 5, none⟩ = some (.slice A4 n4 c4) := by rw [Y0.out.cell]; rfl
    have lr_ := Y0.out.is_le
    have o1_ : w4.cell? ⟨g7, 1, none⟩ = some (.int .i64 1) := by rw [YB.out.cell]; rfl
    have o2_ : w4.cell? ⟨g7, 2, none⟩ = some (.int .i64 1) := by rw [YB.out.cell]; rfl
    have o3_ : w4.cell? ⟨g7, 3, none⟩ = some (.int .i64 1) := by rw [YB.out.cell]; rfl
    have o4_ : w4.cell? ⟨g7, 4, none⟩ = some (.int .i64 5) := by rw [YB.out.cell]; rfl
    have o5_ : w4.cell? ⟨g7, 5, none⟩ = some (.int .i64 2) := by rw [YB.out.cell]; rfl
    have ix0 := fun W : World => idx0 a b c d W
    have ix1 := fun W : World => idx1 a b c d W
    have ix2 := fun W : World => idx2 a b c d W
    have ix3 := fun W : World => idx3 a b c d W
    have lo_ := YB.out.is_le
    go_wp2_with fail
    refine wp_loop_rounds 5 ?_
    rw [rounds_succ]
    go_wp2_with fail
    rw [rounds_succ]
    go_wp2_with fail
    rw [rounds_succ]
    go_wp2_with fail
    rw [rounds_succ]
    go_wp2_with fail
    go_region_law (first | (go_simp; go_at_call 61; refine (HQ.out _).mono ?_; rintro e w9 ⟨rfl, rfl⟩))
    all_goals
      go_wp2_with fail
      rw [rounds_succ]
      go_wp2_with fail
      go_ret
      exact ⟨rfl, after_after aw4 inferInstance⟩
  have HVV : formB ⟨6, a, b, c, d⟩ at_ (n4 : Nat) = true := by
    unfold formB opnI at *; simp at *; omega
  have HQ := Lib.hid (fun U : World => operands_any U d)
  obtain ⟨q_, hq_⟩ : ∃ q, opnI d = q := ⟨_, rfl⟩
  rw [hq_] at HQ h0
  clear hq_
  subst h0
  have HV : Hid (formB ⟨6, a, b, c, d⟩ at_ (n4 : Nat) = true) := HVV
  rw [HV.out]
  have hk1 := Lib.hid (fun U (hU : After w U) => known_6 w0 U hO (after_after hw hU))
  have hf1 := Lib.hid (fun U : World => fields_any U 6 a b c d)
  go_enter Tryd.func50, Tryd.ntmps50
  go_wp2_with fail
  refine (hk1.out _ inferInstance).mono ?_
  rintro e w2 ⟨rfl, a2⟩
  have z0 := Lib.hid (((Blk.new w 52 #[.string s, .slice A1 n1 c1, .slice A2 n2 c2, .int .i64 g, .slice A3 n3 c3, .slice A4 n4 c4]).alloc (.cells #[.int .i64 6, .int .i64 a, .int .i64 b, .int .i64 c, .int .i64 d] 61)).after (w' := w2))
  have z1 := Lib.hid ((Blk.new1 w (.cells #[.string s, .slice A1 n1 c1, .slice A2 n2 c2, .int .i64 g, .slice A3 n3 c3, .slice A4 n4 c4] 52) 61 #[.int .i64 6, .int .i64 a, .int .i64 b, .int .i64 c, .int .i64 d]).after (w' := w2))
  have aw2 : After w w2 := after_after inferInstance a2
  clear a2
  have i0_ : w2.cell? ⟨w.heap.size + 1, 0, none⟩ = some (.int .i64 6) := by rw [z1.out.cell]; rfl
  have i1_ : w2.cell? ⟨w.heap.size + 1, 1, none⟩ = some (.int .i64 a) := by rw [z1.out.cell]; rfl
  have i2_ : w2.cell? ⟨w.heap.size + 1, 2, none⟩ = some (.int .i64 b) := by rw [z1.out.cell]; rfl
  have i3_ : w2.cell? ⟨w.heap.size + 1, 3, none⟩ = some (.int .i64 c) := by rw [z1.out.cell]; rfl
  have i4_ : w2.cell? ⟨w.heap.size + 1, 4, none⟩ = some (.int .i64 d) := by rw [z1.out.cell]; rfl
  have li_ := z1.out.is_le
  have ZB := Lib.hid (Blk.new w2 87 #[.string ⟨#[97, 112, 112, 108, 121]⟩, .int .i64 1, .int .i64 1, .int .i64 1, .int .i64 5, .int .i64 2])
  have Z0 := Lib.hid (z0.out.alloc (.cells #[.string ⟨#[97, 112, 112, 108, 121]⟩, .int .i64 1, .int .i64 1, .int .i64 1, .int .i64 5, .int .i64 2] 87))
  go_wp2_with fail
  refine (hf1.out _).mono ?_
  rintro e w4 ⟨rfl, a4⟩
  have aw4 : After w w4 := after_after aw2 (after_after inferInstance a4)
  have Y0 := Lib.hid (Z0.out.after (w' := w4))
  have YB := Lib.hid (ZB.out.after (w' := w4))
  clear a4
  obtain ⟨g7, hg7⟩ : ∃ g7, w2.heap.size = g7 := ⟨_, rfl⟩
  rw [hg7] at YB
  have r5_ : w4.cell? ⟨w.heap.size, 5, none⟩ = some (.slice A4 n4 c4) := by rw [Y0.out.cell]; rfl
  have lr_ := Y0.out.is_le
  have o1_ : w4.cell? ⟨g7, 1, none⟩ = some (.int .i64 1) := by rw [YB.out.cell]; rfl
  have o2_ : w4.cell? ⟨g7, 2, none⟩ = some (.int .i64 1) := by rw [YB.out.cell]; rfl
  have o3_ : w4.cell? ⟨g7, 3, none⟩ = some (.int .i64 1) := by rw [YB.out.cell]; rfl
  have o4_ : w4.cell? ⟨g7, 4, none⟩ = some (.int .i64 5) := by rw [YB.out.cell]; rfl
  have o5_ : w4.cell? ⟨g7, 5, none⟩ = some (.int .i64 2) := by rw [YB.out.cell]; rfl
  have ix0 := fun W : World => idx0 a b c d W
  have ix1 := fun W : World => idx1 a b c d W
  have ix2 := fun W : World => idx2 a b c d W
  have ix3 := fun W : World => idx3 a b c d W
  have lo_ := YB.out.is_le
  go_wp2_with fail
  refine wp_loop_rounds 5 ?_
  rw [rounds_succ]
  go_wp2_with fail
  rw [rounds_succ]
  go_wp2_with fail
  rw [rounds_succ]
  go_wp2_with fail
  rw [rounds_succ]
  go_wp2_with fail
  go_region_law (first | (go_simp; go_at_call 61; refine (HQ.out _).mono ?_; rintro e w9 ⟨rfl, rfl⟩))
  all_goals
    go_wp2_with fail
    rw [rounds_succ]
    go_wp2_with fail
    go_ret
    exact ⟨rfl, after_after aw4 inferInstance⟩

set_option maxRecDepth 100000 in
set_option maxHeartbeats 8000000 in
theorem form_7 (w0 w : World) (hO : Ops w0) (hw : After w0 w) (s : ByteArray) (A1 : Option Addr) (n1 c1 : Nat) (A2 : Option Addr) (n2 c2 : Nat) (g : Int) (A3 : Option Addr) (n3 c3 : Nat) (A4 : Option Addr) (n4 c4 : Nat) (at_ a b c d : Int) :
    Calls Tryd.prog 50 #[.agg #[.string s, .slice A1 n1 c1, .slice A2 n2 c2, .int .i64 g, .slice A3 n3 c3, .slice A4 n4 c4], .int .i64 at_, .agg #[.int .i64 7, .int .i64 a, .int .i64 b, .int .i64 c, .int .i64 d]] w fun e w' => e = .returned (.bool (formB ⟨7, a, b, c, d⟩ at_ (n4 : Nat))) ∧ After w w' := by
  by_cases h0 : a = 0
  rotate_left
  · have b0 : (a == 0) = false := by simpa using h0
    have HV : Hid (formB ⟨7, a, b, c, d⟩ at_ (n4 : Nat) = false) := by show _ = _; unfold formB; simp; omega
    rw [HV.out]
    have hk1 := Lib.hid (fun U (hU : After w U) => known_7 w0 U hO (after_after hw hU))
    have hf1 := Lib.hid (fun U : World => fields_any U 7 a b c d)
    go_enter Tryd.func50, Tryd.ntmps50
    go_wp2_with fail
    refine (hk1.out _ inferInstance).mono ?_
    rintro e w2 ⟨rfl, a2⟩
    have z0 := Lib.hid (((Blk.new w 52 #[.string s, .slice A1 n1 c1, .slice A2 n2 c2, .int .i64 g, .slice A3 n3 c3, .slice A4 n4 c4]).alloc (.cells #[.int .i64 7, .int .i64 a, .int .i64 b, .int .i64 c, .int .i64 d] 61)).after (w' := w2))
    have z1 := Lib.hid ((Blk.new1 w (.cells #[.string s, .slice A1 n1 c1, .slice A2 n2 c2, .int .i64 g, .slice A3 n3 c3, .slice A4 n4 c4] 52) 61 #[.int .i64 7, .int .i64 a, .int .i64 b, .int .i64 c, .int .i64 d]).after (w' := w2))
    have aw2 : After w w2 := after_after inferInstance a2
    clear a2
    have i0_ : w2.cell? ⟨w.heap.size + 1, 0, none⟩ = some (.int .i64 7) := by rw [z1.out.cell]; rfl
    have i1_ : w2.cell? ⟨w.heap.size + 1, 1, none⟩ = some (.int .i64 a) := by rw [z1.out.cell]; rfl
    have i2_ : w2.cell? ⟨w.heap.size + 1, 2, none⟩ = some (.int .i64 b) := by rw [z1.out.cell]; rfl
    have i3_ : w2.cell? ⟨w.heap.size + 1, 3, none⟩ = some (.int .i64 c) := by rw [z1.out.cell]; rfl
    have i4_ : w2.cell? ⟨w.heap.size + 1, 4, none⟩ = some (.int .i64 d) := by rw [z1.out.cell]; rfl
    have li_ := z1.out.is_le
    have ZB := Lib.hid (Blk.new w2 87 #[.string ⟨#[106, 117, 109, 112]⟩, .int .i64 0, .int .i64 4, .int .i64 0, .int .i64 0, .int .i64 0])
    have Z0 := Lib.hid (z0.out.alloc (.cells #[.string ⟨#[106, 117, 109, 112]⟩, .int .i64 0, .int .i64 4, .int .i64 0, .int .i64 0, .int .i64 0] 87))
    go_wp2_with fail
    refine (hf1.out _).mono ?_
    rintro e w4 ⟨rfl, a4⟩
    have aw4 : After w w4 := after_after aw2 (after_after inferInstance a4)
    have Y0 := Lib.hid (Z0.out.after (w' := w4))
    have YB := Lib.hid (ZB.out.after (w' := w4))
    clear a4
    obtain ⟨g7, hg7⟩ : ∃ g7, w2.heap.size = g7 := ⟨_, rfl⟩
    rw [hg7] at YB
    have r5_ : w4.cell? ⟨w.heap.size, 5, none⟩ = some (.slice A4 n4 c4) := by rw [Y0.out.cell]; rfl
    have lr_ := Y0.out.is_le
    have o1_ : w4.cell? ⟨g7, 1, none⟩ = some (.int .i64 0) := by rw [YB.out.cell]; rfl
    have o2_ : w4.cell? ⟨g7, 2, none⟩ = some (.int .i64 4) := by rw [YB.out.cell]; rfl
    have o3_ : w4.cell? ⟨g7, 3, none⟩ = some (.int .i64 0) := by rw [YB.out.cell]; rfl
    have o4_ : w4.cell? ⟨g7, 4, none⟩ = some (.int .i64 0) := by rw [YB.out.cell]; rfl
    have o5_ : w4.cell? ⟨g7, 5, none⟩ = some (.int .i64 0) := by rw [YB.out.cell]; rfl
    have ix0 := fun W : World => idx0 a b c d W
    have ix1 := fun W : World => idx1 a b c d W
    have ix2 := fun W : World => idx2 a b c d W
    have ix3 := fun W : World => idx3 a b c d W
    have lo_ := YB.out.is_le
    go_wp2_with fail
    refine wp_loop_rounds 5 ?_
    rw [rounds_succ]
    go_wp2_with fail
    rw [rounds_succ]
    go_wp2_with fail
    rw [rounds_succ]
    go_wp2_with fail
    rw [rounds_succ]
    go_wp2_with fail
    rw [rounds_succ]
    go_wp2_with fail
    go_ret
    exact ⟨rfl, aw4⟩
  by_cases h1 : at_ < b
  rotate_left
  · subst h0
    have HV : Hid (formB ⟨7, 0, b, c, d⟩ at_ (n4 : Nat) = false) := by show _ = _; unfold formB; simp; omega
    rw [HV.out]
    have hk1 := Lib.hid (fun U (hU : After w U) => known_7 w0 U hO (after_after hw hU))
    have hf1 := Lib.hid (fun U : World => fields_any U 7 0 b c d)
    go_enter Tryd.func50, Tryd.ntmps50
    go_wp2_with fail
    refine (hk1.out _ inferInstance).mono ?_
    rintro e w2 ⟨rfl, a2⟩
    have z0 := Lib.hid (((Blk.new w 52 #[.string s, .slice A1 n1 c1, .slice A2 n2 c2, .int .i64 g, .slice A3 n3 c3, .slice A4 n4 c4]).alloc (.cells #[.int .i64 7, .int .i64 0, .int .i64 b, .int .i64 c, .int .i64 d] 61)).after (w' := w2))
    have z1 := Lib.hid ((Blk.new1 w (.cells #[.string s, .slice A1 n1 c1, .slice A2 n2 c2, .int .i64 g, .slice A3 n3 c3, .slice A4 n4 c4] 52) 61 #[.int .i64 7, .int .i64 0, .int .i64 b, .int .i64 c, .int .i64 d]).after (w' := w2))
    have aw2 : After w w2 := after_after inferInstance a2
    clear a2
    have i0_ : w2.cell? ⟨w.heap.size + 1, 0, none⟩ = some (.int .i64 7) := by rw [z1.out.cell]; rfl
    have i1_ : w2.cell? ⟨w.heap.size + 1, 1, none⟩ = some (.int .i64 0) := by rw [z1.out.cell]; rfl
    have i2_ : w2.cell? ⟨w.heap.size + 1, 2, none⟩ = some (.int .i64 b) := by rw [z1.out.cell]; rfl
    have i3_ : w2.cell? ⟨w.heap.size + 1, 3, none⟩ = some (.int .i64 c) := by rw [z1.out.cell]; rfl
    have i4_ : w2.cell? ⟨w.heap.size + 1, 4, none⟩ = some (.int .i64 d) := by rw [z1.out.cell]; rfl
    have li_ := z1.out.is_le
    have ZB := Lib.hid (Blk.new w2 87 #[.string ⟨#[106, 117, 109, 112]⟩, .int .i64 0, .int .i64 4, .int .i64 0, .int .i64 0, .int .i64 0])
    have Z0 := Lib.hid (z0.out.alloc (.cells #[.string ⟨#[106, 117, 109, 112]⟩, .int .i64 0, .int .i64 4, .int .i64 0, .int .i64 0, .int .i64 0] 87))
    go_wp2_with fail
    refine (hf1.out _).mono ?_
    rintro e w4 ⟨rfl, a4⟩
    have aw4 : After w w4 := after_after aw2 (after_after inferInstance a4)
    have Y0 := Lib.hid (Z0.out.after (w' := w4))
    have YB := Lib.hid (ZB.out.after (w' := w4))
    clear a4
    obtain ⟨g7, hg7⟩ : ∃ g7, w2.heap.size = g7 := ⟨_, rfl⟩
    rw [hg7] at YB
    have r5_ : w4.cell? ⟨w.heap.size, 5, none⟩ = some (.slice A4 n4 c4) := by rw [Y0.out.cell]; rfl
    have lr_ := Y0.out.is_le
    have o1_ : w4.cell? ⟨g7, 1, none⟩ = some (.int .i64 0) := by rw [YB.out.cell]; rfl
    have o2_ : w4.cell? ⟨g7, 2, none⟩ = some (.int .i64 4) := by rw [YB.out.cell]; rfl
    have o3_ : w4.cell? ⟨g7, 3, none⟩ = some (.int .i64 0) := by rw [YB.out.cell]; rfl
    have o4_ : w4.cell? ⟨g7, 4, none⟩ = some (.int .i64 0) := by rw [YB.out.cell]; rfl
    have o5_ : w4.cell? ⟨g7, 5, none⟩ = some (.int .i64 0) := by rw [YB.out.cell]; rfl
    have ix0 := fun W : World => idx0 0 b c d W
    have ix1 := fun W : World => idx1 0 b c d W
    have ix2 := fun W : World => idx2 0 b c d W
    have ix3 := fun W : World => idx3 0 b c d W
    have lo_ := YB.out.is_le
    go_wp2_with fail
    refine wp_loop_rounds 5 ?_
    rw [rounds_succ]
    go_wp2_with fail
    rw [rounds_succ]
    go_wp2_with fail
    rw [rounds_succ]
    go_wp2_with fail
    rw [rounds_succ]
    go_wp2_with fail
    rw [rounds_succ]
    go_wp2_with fail
    go_ret
    exact ⟨rfl, aw4⟩
  by_cases h2 : b ≤ (n4 : Int)
  rotate_left
  · subst h0
    have HV : Hid (formB ⟨7, 0, b, c, d⟩ at_ (n4 : Nat) = false) := by show _ = _; unfold formB; simp; omega
    rw [HV.out]
    have hk1 := Lib.hid (fun U (hU : After w U) => known_7 w0 U hO (after_after hw hU))
    have hf1 := Lib.hid (fun U : World => fields_any U 7 0 b c d)
    go_enter Tryd.func50, Tryd.ntmps50
    go_wp2_with fail
    refine (hk1.out _ inferInstance).mono ?_
    rintro e w2 ⟨rfl, a2⟩
    have z0 := Lib.hid (((Blk.new w 52 #[.string s, .slice A1 n1 c1, .slice A2 n2 c2, .int .i64 g, .slice A3 n3 c3, .slice A4 n4 c4]).alloc (.cells #[.int .i64 7, .int .i64 0, .int .i64 b, .int .i64 c, .int .i64 d] 61)).after (w' := w2))
    have z1 := Lib.hid ((Blk.new1 w (.cells #[.string s, .slice A1 n1 c1, .slice A2 n2 c2, .int .i64 g, .slice A3 n3 c3, .slice A4 n4 c4] 52) 61 #[.int .i64 7, .int .i64 0, .int .i64 b, .int .i64 c, .int .i64 d]).after (w' := w2))
    have aw2 : After w w2 := after_after inferInstance a2
    clear a2
    have i0_ : w2.cell? ⟨w.heap.size + 1, 0, none⟩ = some (.int .i64 7) := by rw [z1.out.cell]; rfl
    have i1_ : w2.cell? ⟨w.heap.size + 1, 1, none⟩ = some (.int .i64 0) := by rw [z1.out.cell]; rfl
    have i2_ : w2.cell? ⟨w.heap.size + 1, 2, none⟩ = some (.int .i64 b) := by rw [z1.out.cell]; rfl
    have i3_ : w2.cell? ⟨w.heap.size + 1, 3, none⟩ = some (.int .i64 c) := by rw [z1.out.cell]; rfl
    have i4_ : w2.cell? ⟨w.heap.size + 1, 4, none⟩ = some (.int .i64 d) := by rw [z1.out.cell]; rfl
    have li_ := z1.out.is_le
    have ZB := Lib.hid (Blk.new w2 87 #[.string ⟨#[106, 117, 109, 112]⟩, .int .i64 0, .int .i64 4, .int .i64 0, .int .i64 0, .int .i64 0])
    have Z0 := Lib.hid (z0.out.alloc (.cells #[.string ⟨#[106, 117, 109, 112]⟩, .int .i64 0, .int .i64 4, .int .i64 0, .int .i64 0, .int .i64 0] 87))
    go_wp2_with fail
    refine (hf1.out _).mono ?_
    rintro e w4 ⟨rfl, a4⟩
    have aw4 : After w w4 := after_after aw2 (after_after inferInstance a4)
    have Y0 := Lib.hid (Z0.out.after (w' := w4))
    have YB := Lib.hid (ZB.out.after (w' := w4))
    clear a4
    obtain ⟨g7, hg7⟩ : ∃ g7, w2.heap.size = g7 := ⟨_, rfl⟩
    rw [hg7] at YB
    have r5_ : w4.cell? ⟨w.heap.size, 5, none⟩ = some (.slice A4 n4 c4) := by rw [Y0.out.cell]; rfl
    have lr_ := Y0.out.is_le
    have o1_ : w4.cell? ⟨g7, 1, none⟩ = some (.int .i64 0) := by rw [YB.out.cell]; rfl
    have o2_ : w4.cell? ⟨g7, 2, none⟩ = some (.int .i64 4) := by rw [YB.out.cell]; rfl
    have o3_ : w4.cell? ⟨g7, 3, none⟩ = some (.int .i64 0) := by rw [YB.out.cell]; rfl
    have o4_ : w4.cell? ⟨g7, 4, none⟩ = some (.int .i64 0) := by rw [YB.out.cell]; rfl
    have o5_ : w4.cell? ⟨g7, 5, none⟩ = some (.int .i64 0) := by rw [YB.out.cell]; rfl
    have ix0 := fun W : World => idx0 0 b c d W
    have ix1 := fun W : World => idx1 0 b c d W
    have ix2 := fun W : World => idx2 0 b c d W
    have ix3 := fun W : World => idx3 0 b c d W
    have lo_ := YB.out.is_le
    go_wp2_with fail
    refine wp_loop_rounds 5 ?_
    rw [rounds_succ]
    go_wp2_with fail
    rw [rounds_succ]
    go_wp2_with fail
    rw [rounds_succ]
    go_wp2_with fail
    rw [rounds_succ]
    go_wp2_with fail
    rw [rounds_succ]
    go_wp2_with fail
    go_ret
    exact ⟨rfl, aw4⟩
  by_cases h3 : c = 0
  rotate_left
  · subst h0
    have b3 : (c == 0) = false := by simpa using h3
    have HV : Hid (formB ⟨7, 0, b, c, d⟩ at_ (n4 : Nat) = false) := by show _ = _; unfold formB; simp; omega
    rw [HV.out]
    have hk1 := Lib.hid (fun U (hU : After w U) => known_7 w0 U hO (after_after hw hU))
    have hf1 := Lib.hid (fun U : World => fields_any U 7 0 b c d)
    go_enter Tryd.func50, Tryd.ntmps50
    go_wp2_with fail
    refine (hk1.out _ inferInstance).mono ?_
    rintro e w2 ⟨rfl, a2⟩
    have z0 := Lib.hid (((Blk.new w 52 #[.string s, .slice A1 n1 c1, .slice A2 n2 c2, .int .i64 g, .slice A3 n3 c3, .slice A4 n4 c4]).alloc (.cells #[.int .i64 7, .int .i64 0, .int .i64 b, .int .i64 c, .int .i64 d] 61)).after (w' := w2))
    have z1 := Lib.hid ((Blk.new1 w (.cells #[.string s, .slice A1 n1 c1, .slice A2 n2 c2, .int .i64 g, .slice A3 n3 c3, .slice A4 n4 c4] 52) 61 #[.int .i64 7, .int .i64 0, .int .i64 b, .int .i64 c, .int .i64 d]).after (w' := w2))
    have aw2 : After w w2 := after_after inferInstance a2
    clear a2
    have i0_ : w2.cell? ⟨w.heap.size + 1, 0, none⟩ = some (.int .i64 7) := by rw [z1.out.cell]; rfl
    have i1_ : w2.cell? ⟨w.heap.size + 1, 1, none⟩ = some (.int .i64 0) := by rw [z1.out.cell]; rfl
    have i2_ : w2.cell? ⟨w.heap.size + 1, 2, none⟩ = some (.int .i64 b) := by rw [z1.out.cell]; rfl
    have i3_ : w2.cell? ⟨w.heap.size + 1, 3, none⟩ = some (.int .i64 c) := by rw [z1.out.cell]; rfl
    have i4_ : w2.cell? ⟨w.heap.size + 1, 4, none⟩ = some (.int .i64 d) := by rw [z1.out.cell]; rfl
    have li_ := z1.out.is_le
    have ZB := Lib.hid (Blk.new w2 87 #[.string ⟨#[106, 117, 109, 112]⟩, .int .i64 0, .int .i64 4, .int .i64 0, .int .i64 0, .int .i64 0])
    have Z0 := Lib.hid (z0.out.alloc (.cells #[.string ⟨#[106, 117, 109, 112]⟩, .int .i64 0, .int .i64 4, .int .i64 0, .int .i64 0, .int .i64 0] 87))
    go_wp2_with fail
    refine (hf1.out _).mono ?_
    rintro e w4 ⟨rfl, a4⟩
    have aw4 : After w w4 := after_after aw2 (after_after inferInstance a4)
    have Y0 := Lib.hid (Z0.out.after (w' := w4))
    have YB := Lib.hid (ZB.out.after (w' := w4))
    clear a4
    obtain ⟨g7, hg7⟩ : ∃ g7, w2.heap.size = g7 := ⟨_, rfl⟩
    rw [hg7] at YB
    have r5_ : w4.cell? ⟨w.heap.size, 5, none⟩ = some (.slice A4 n4 c4) := by rw [Y0.out.cell]; rfl
    have lr_ := Y0.out.is_le
    have o1_ : w4.cell? ⟨g7, 1, none⟩ = some (.int .i64 0) := by rw [YB.out.cell]; rfl
    have o2_ : w4.cell? ⟨g7, 2, none⟩ = some (.int .i64 4) := by rw [YB.out.cell]; rfl
    have o3_ : w4.cell? ⟨g7, 3, none⟩ = some (.int .i64 0) := by rw [YB.out.cell]; rfl
    have o4_ : w4.cell? ⟨g7, 4, none⟩ = some (.int .i64 0) := by rw [YB.out.cell]; rfl
    have o5_ : w4.cell? ⟨g7, 5, none⟩ = some (.int .i64 0) := by rw [YB.out.cell]; rfl
    have ix0 := fun W : World => idx0 0 b c d W
    have ix1 := fun W : World => idx1 0 b c d W
    have ix2 := fun W : World => idx2 0 b c d W
    have ix3 := fun W : World => idx3 0 b c d W
    have lo_ := YB.out.is_le
    go_wp2_with fail
    refine wp_loop_rounds 5 ?_
    rw [rounds_succ]
    go_wp2_with fail
    rw [rounds_succ]
    go_wp2_with fail
    rw [rounds_succ]
    go_wp2_with fail
    rw [rounds_succ]
    go_wp2_with fail
    rw [rounds_succ]
    go_wp2_with fail
    go_ret
    exact ⟨rfl, aw4⟩
  by_cases h4 : d = 0
  rotate_left
  · subst h0
    subst h3
    have b4 : (d == 0) = false := by simpa using h4
    have HV : Hid (formB ⟨7, 0, b, 0, d⟩ at_ (n4 : Nat) = false) := by show _ = _; unfold formB; simp; omega
    rw [HV.out]
    have hk1 := Lib.hid (fun U (hU : After w U) => known_7 w0 U hO (after_after hw hU))
    have hf1 := Lib.hid (fun U : World => fields_any U 7 0 b 0 d)
    go_enter Tryd.func50, Tryd.ntmps50
    go_wp2_with fail
    refine (hk1.out _ inferInstance).mono ?_
    rintro e w2 ⟨rfl, a2⟩
    have z0 := Lib.hid (((Blk.new w 52 #[.string s, .slice A1 n1 c1, .slice A2 n2 c2, .int .i64 g, .slice A3 n3 c3, .slice A4 n4 c4]).alloc (.cells #[.int .i64 7, .int .i64 0, .int .i64 b, .int .i64 0, .int .i64 d] 61)).after (w' := w2))
    have z1 := Lib.hid ((Blk.new1 w (.cells #[.string s, .slice A1 n1 c1, .slice A2 n2 c2, .int .i64 g, .slice A3 n3 c3, .slice A4 n4 c4] 52) 61 #[.int .i64 7, .int .i64 0, .int .i64 b, .int .i64 0, .int .i64 d]).after (w' := w2))
    have aw2 : After w w2 := after_after inferInstance a2
    clear a2
    have i0_ : w2.cell? ⟨w.heap.size + 1, 0, none⟩ = some (.int .i64 7) := by rw [z1.out.cell]; rfl
    have i1_ : w2.cell? ⟨w.heap.size + 1, 1, none⟩ = some (.int .i64 0) := by rw [z1.out.cell]; rfl
    have i2_ : w2.cell? ⟨w.heap.size + 1, 2, none⟩ = some (.int .i64 b) := by rw [z1.out.cell]; rfl
    have i3_ : w2.cell? ⟨w.heap.size + 1, 3, none⟩ = some (.int .i64 0) := by rw [z1.out.cell]; rfl
    have i4_ : w2.cell? ⟨w.heap.size + 1, 4, none⟩ = some (.int .i64 d) := by rw [z1.out.cell]; rfl
    have li_ := z1.out.is_le
    have ZB := Lib.hid (Blk.new w2 87 #[.string ⟨#[106, 117, 109, 112]⟩, .int .i64 0, .int .i64 4, .int .i64 0, .int .i64 0, .int .i64 0])
    have Z0 := Lib.hid (z0.out.alloc (.cells #[.string ⟨#[106, 117, 109, 112]⟩, .int .i64 0, .int .i64 4, .int .i64 0, .int .i64 0, .int .i64 0] 87))
    go_wp2_with fail
    refine (hf1.out _).mono ?_
    rintro e w4 ⟨rfl, a4⟩
    have aw4 : After w w4 := after_after aw2 (after_after inferInstance a4)
    have Y0 := Lib.hid (Z0.out.after (w' := w4))
    have YB := Lib.hid (ZB.out.after (w' := w4))
    clear a4
    obtain ⟨g7, hg7⟩ : ∃ g7, w2.heap.size = g7 := ⟨_, rfl⟩
    rw [hg7] at YB
    have r5_ : w4.cell? ⟨w.heap.size, 5, none⟩ = some (.slice A4 n4 c4) := by rw [Y0.out.cell]; rfl
    have lr_ := Y0.out.is_le
    have o1_ : w4.cell? ⟨g7, 1, none⟩ = some (.int .i64 0) := by rw [YB.out.cell]; rfl
    have o2_ : w4.cell? ⟨g7, 2, none⟩ = some (.int .i64 4) := by rw [YB.out.cell]; rfl
    have o3_ : w4.cell? ⟨g7, 3, none⟩ = some (.int .i64 0) := by rw [YB.out.cell]; rfl
    have o4_ : w4.cell? ⟨g7, 4, none⟩ = some (.int .i64 0) := by rw [YB.out.cell]; rfl
    have o5_ : w4.cell? ⟨g7, 5, none⟩ = some (.int .i64 0) := by rw [YB.out.cell]; rfl
    have ix0 := fun W : World => idx0 0 b 0 d W
    have ix1 := fun W : World => idx1 0 b 0 d W
    have ix2 := fun W : World => idx2 0 b 0 d W
    have ix3 := fun W : World => idx3 0 b 0 d W
    have lo_ := YB.out.is_le
    go_wp2_with fail
    refine wp_loop_rounds 5 ?_
    rw [rounds_succ]
    go_wp2_with fail
    rw [rounds_succ]
    go_wp2_with fail
    rw [rounds_succ]
    go_wp2_with fail
    rw [rounds_succ]
    go_wp2_with fail
    rw [rounds_succ]
    go_wp2_with fail
    go_ret
    exact ⟨rfl, aw4⟩
  subst h0
  subst h3
  subst h4
  have HV : Hid (formB ⟨7, 0, b, 0, 0⟩ at_ (n4 : Nat) = true) := by show _ = _; unfold formB; simp; omega
  rw [HV.out]
  have hk1 := Lib.hid (fun U (hU : After w U) => known_7 w0 U hO (after_after hw hU))
  have hf1 := Lib.hid (fun U : World => fields_any U 7 0 b 0 0)
  go_enter Tryd.func50, Tryd.ntmps50
  go_wp2_with fail
  refine (hk1.out _ inferInstance).mono ?_
  rintro e w2 ⟨rfl, a2⟩
  have z0 := Lib.hid (((Blk.new w 52 #[.string s, .slice A1 n1 c1, .slice A2 n2 c2, .int .i64 g, .slice A3 n3 c3, .slice A4 n4 c4]).alloc (.cells #[.int .i64 7, .int .i64 0, .int .i64 b, .int .i64 0, .int .i64 0] 61)).after (w' := w2))
  have z1 := Lib.hid ((Blk.new1 w (.cells #[.string s, .slice A1 n1 c1, .slice A2 n2 c2, .int .i64 g, .slice A3 n3 c3, .slice A4 n4 c4] 52) 61 #[.int .i64 7, .int .i64 0, .int .i64 b, .int .i64 0, .int .i64 0]).after (w' := w2))
  have aw2 : After w w2 := after_after inferInstance a2
  clear a2
  have i0_ : w2.cell? ⟨w.heap.size + 1, 0, none⟩ = some (.int .i64 7) := by rw [z1.out.cell]; rfl
  have i1_ : w2.cell? ⟨w.heap.size + 1, 1, none⟩ = some (.int .i64 0) := by rw [z1.out.cell]; rfl
  have i2_ : w2.cell? ⟨w.heap.size + 1, 2, none⟩ = some (.int .i64 b) := by rw [z1.out.cell]; rfl
  have i3_ : w2.cell? ⟨w.heap.size + 1, 3, none⟩ = some (.int .i64 0) := by rw [z1.out.cell]; rfl
  have i4_ : w2.cell? ⟨w.heap.size + 1, 4, none⟩ = some (.int .i64 0) := by rw [z1.out.cell]; rfl
  have li_ := z1.out.is_le
  have ZB := Lib.hid (Blk.new w2 87 #[.string ⟨#[106, 117, 109, 112]⟩, .int .i64 0, .int .i64 4, .int .i64 0, .int .i64 0, .int .i64 0])
  have Z0 := Lib.hid (z0.out.alloc (.cells #[.string ⟨#[106, 117, 109, 112]⟩, .int .i64 0, .int .i64 4, .int .i64 0, .int .i64 0, .int .i64 0] 87))
  go_wp2_with fail
  refine (hf1.out _).mono ?_
  rintro e w4 ⟨rfl, a4⟩
  have aw4 : After w w4 := after_after aw2 (after_after inferInstance a4)
  have Y0 := Lib.hid (Z0.out.after (w' := w4))
  have YB := Lib.hid (ZB.out.after (w' := w4))
  clear a4
  obtain ⟨g7, hg7⟩ : ∃ g7, w2.heap.size = g7 := ⟨_, rfl⟩
  rw [hg7] at YB
  have r5_ : w4.cell? ⟨w.heap.size, 5, none⟩ = some (.slice A4 n4 c4) := by rw [Y0.out.cell]; rfl
  have lr_ := Y0.out.is_le
  have o1_ : w4.cell? ⟨g7, 1, none⟩ = some (.int .i64 0) := by rw [YB.out.cell]; rfl
  have o2_ : w4.cell? ⟨g7, 2, none⟩ = some (.int .i64 4) := by rw [YB.out.cell]; rfl
  have o3_ : w4.cell? ⟨g7, 3, none⟩ = some (.int .i64 0) := by rw [YB.out.cell]; rfl
  have o4_ : w4.cell? ⟨g7, 4, none⟩ = some (.int .i64 0) := by rw [YB.out.cell]; rfl
  have o5_ : w4.cell? ⟨g7, 5, none⟩ = some (.int .i64 0) := by rw [YB.out.cell]; rfl
  have ix0 := fun W : World => idx0 0 b 0 0 W
  have ix1 := fun W : World => idx1 0 b 0 0 W
  have ix2 := fun W : World => idx2 0 b 0 0 W
  have ix3 := fun W : World => idx3 0 b 0 0 W
  have lo_ := YB.out.is_le
  go_wp2_with fail
  refine wp_loop_rounds 5 ?_
  rw [rounds_succ]
  go_wp2_with fail
  rw [rounds_succ]
  go_wp2_with fail
  rw [rounds_succ]
  go_wp2_with fail
  rw [rounds_succ]
  go_wp2_with fail
  rw [rounds_succ]
  go_wp2_with fail
  go_ret
  exact ⟨rfl, aw4⟩

set_option maxRecDepth 100000 in
set_option maxHeartbeats 8000000 in
theorem form_8 (w0 w : World) (hO : Ops w0) (hw : After w0 w) (s : ByteArray) (A1 : Option Addr) (n1 c1 : Nat) (A2 : Option Addr) (n2 c2 : Nat) (g : Int) (A3 : Option Addr) (n3 c3 : Nat) (A4 : Option Addr) (n4 c4 : Nat) (at_ a b c d : Int) :
    Calls Tryd.prog 50 #[.agg #[.string s, .slice A1 n1 c1, .slice A2 n2 c2, .int .i64 g, .slice A3 n3 c3, .slice A4 n4 c4], .int .i64 at_, .agg #[.int .i64 8, .int .i64 a, .int .i64 b, .int .i64 c, .int .i64 d]] w fun e w' => e = .returned (.bool (formB ⟨8, a, b, c, d⟩ at_ (n4 : Nat))) ∧ After w w' := by
  by_cases h0 : at_ < b
  rotate_left
  · have HV : Hid (formB ⟨8, a, b, c, d⟩ at_ (n4 : Nat) = false) := by show _ = _; unfold formB; simp; omega
    rw [HV.out]
    have hk1 := Lib.hid (fun U (hU : After w U) => known_8 w0 U hO (after_after hw hU))
    have hf1 := Lib.hid (fun U : World => fields_any U 8 a b c d)
    go_enter Tryd.func50, Tryd.ntmps50
    go_wp2_with fail
    refine (hk1.out _ inferInstance).mono ?_
    rintro e w2 ⟨rfl, a2⟩
    have z0 := Lib.hid (((Blk.new w 52 #[.string s, .slice A1 n1 c1, .slice A2 n2 c2, .int .i64 g, .slice A3 n3 c3, .slice A4 n4 c4]).alloc (.cells #[.int .i64 8, .int .i64 a, .int .i64 b, .int .i64 c, .int .i64 d] 61)).after (w' := w2))
    have z1 := Lib.hid ((Blk.new1 w (.cells #[.string s, .slice A1 n1 c1, .slice A2 n2 c2, .int .i64 g, .slice A3 n3 c3, .slice A4 n4 c4] 52) 61 #[.int .i64 8, .int .i64 a, .int .i64 b, .int .i64 c, .int .i64 d]).after (w' := w2))
    have aw2 : After w w2 := after_after inferInstance a2
    clear a2
    have i0_ : w2.cell? ⟨w.heap.size + 1, 0, none⟩ = some (.int .i64 8) := by rw [z1.out.cell]; rfl
    have i1_ : w2.cell? ⟨w.heap.size + 1, 1, none⟩ = some (.int .i64 a) := by rw [z1.out.cell]; rfl
    have i2_ : w2.cell? ⟨w.heap.size + 1, 2, none⟩ = some (.int .i64 b) := by rw [z1.out.cell]; rfl
    have i3_ : w2.cell? ⟨w.heap.size + 1, 3, none⟩ = some (.int .i64 c) := by rw [z1.out.cell]; rfl
    have i4_ : w2.cell? ⟨w.heap.size + 1, 4, none⟩ = some (.int .i64 d) := by rw [z1.out.cell]; rfl
    have li_ := z1.out.is_le
    have ZB := Lib.hid (Blk.new w2 87 #[.string ⟨#[122, 101, 114, 111]⟩, .int .i64 1, .int .i64 4, .int .i64 0, .int .i64 0, .int .i64 0])
    have Z0 := Lib.hid (z0.out.alloc (.cells #[.string ⟨#[122, 101, 114, 111]⟩, .int .i64 1, .int .i64 4, .int .i64 0, .int .i64 0, .int .i64 0] 87))
    go_wp2_with fail
    refine (hf1.out _).mono ?_
    rintro e w4 ⟨rfl, a4⟩
    have aw4 : After w w4 := after_after aw2 (after_after inferInstance a4)
    have Y0 := Lib.hid (Z0.out.after (w' := w4))
    have YB := Lib.hid (ZB.out.after (w' := w4))
    clear a4
    obtain ⟨g7, hg7⟩ : ∃ g7, w2.heap.size = g7 := ⟨_, rfl⟩
    rw [hg7] at YB
    have r5_ : w4.cell? ⟨w.heap.size, 5, none⟩ = some (.slice A4 n4 c4) := by rw [Y0.out.cell]; rfl
    have lr_ := Y0.out.is_le
    have o1_ : w4.cell? ⟨g7, 1, none⟩ = some (.int .i64 1) := by rw [YB.out.cell]; rfl
    have o2_ : w4.cell? ⟨g7, 2, none⟩ = some (.int .i64 4) := by rw [YB.out.cell]; rfl
    have o3_ : w4.cell? ⟨g7, 3, none⟩ = some (.int .i64 0) := by rw [YB.out.cell]; rfl
    have o4_ : w4.cell? ⟨g7, 4, none⟩ = some (.int .i64 0) := by rw [YB.out.cell]; rfl
    have o5_ : w4.cell? ⟨g7, 5, none⟩ = some (.int .i64 0) := by rw [YB.out.cell]; rfl
    have ix0 := fun W : World => idx0 a b c d W
    have ix1 := fun W : World => idx1 a b c d W
    have ix2 := fun W : World => idx2 a b c d W
    have ix3 := fun W : World => idx3 a b c d W
    have lo_ := YB.out.is_le
    go_wp2_with fail
    refine wp_loop_rounds 5 ?_
    rw [rounds_succ]
    go_wp2_with fail
    rw [rounds_succ]
    go_wp2_with fail
    rw [rounds_succ]
    go_wp2_with fail
    rw [rounds_succ]
    go_wp2_with fail
    rw [rounds_succ]
    go_wp2_with fail
    go_ret
    exact ⟨rfl, aw4⟩
  by_cases h1 : b ≤ (n4 : Int)
  rotate_left
  · have HV : Hid (formB ⟨8, a, b, c, d⟩ at_ (n4 : Nat) = false) := by show _ = _; unfold formB; simp; omega
    rw [HV.out]
    have hk1 := Lib.hid (fun U (hU : After w U) => known_8 w0 U hO (after_after hw hU))
    have hf1 := Lib.hid (fun U : World => fields_any U 8 a b c d)
    go_enter Tryd.func50, Tryd.ntmps50
    go_wp2_with fail
    refine (hk1.out _ inferInstance).mono ?_
    rintro e w2 ⟨rfl, a2⟩
    have z0 := Lib.hid (((Blk.new w 52 #[.string s, .slice A1 n1 c1, .slice A2 n2 c2, .int .i64 g, .slice A3 n3 c3, .slice A4 n4 c4]).alloc (.cells #[.int .i64 8, .int .i64 a, .int .i64 b, .int .i64 c, .int .i64 d] 61)).after (w' := w2))
    have z1 := Lib.hid ((Blk.new1 w (.cells #[.string s, .slice A1 n1 c1, .slice A2 n2 c2, .int .i64 g, .slice A3 n3 c3, .slice A4 n4 c4] 52) 61 #[.int .i64 8, .int .i64 a, .int .i64 b, .int .i64 c, .int .i64 d]).after (w' := w2))
    have aw2 : After w w2 := after_after inferInstance a2
    clear a2
    have i0_ : w2.cell? ⟨w.heap.size + 1, 0, none⟩ = some (.int .i64 8) := by rw [z1.out.cell]; rfl
    have i1_ : w2.cell? ⟨w.heap.size + 1, 1, none⟩ = some (.int .i64 a) := by rw [z1.out.cell]; rfl
    have i2_ : w2.cell? ⟨w.heap.size + 1, 2, none⟩ = some (.int .i64 b) := by rw [z1.out.cell]; rfl
    have i3_ : w2.cell? ⟨w.heap.size + 1, 3, none⟩ = some (.int .i64 c) := by rw [z1.out.cell]; rfl
    have i4_ : w2.cell? ⟨w.heap.size + 1, 4, none⟩ = some (.int .i64 d) := by rw [z1.out.cell]; rfl
    have li_ := z1.out.is_le
    have ZB := Lib.hid (Blk.new w2 87 #[.string ⟨#[122, 101, 114, 111]⟩, .int .i64 1, .int .i64 4, .int .i64 0, .int .i64 0, .int .i64 0])
    have Z0 := Lib.hid (z0.out.alloc (.cells #[.string ⟨#[122, 101, 114, 111]⟩, .int .i64 1, .int .i64 4, .int .i64 0, .int .i64 0, .int .i64 0] 87))
    go_wp2_with fail
    refine (hf1.out _).mono ?_
    rintro e w4 ⟨rfl, a4⟩
    have aw4 : After w w4 := after_after aw2 (after_after inferInstance a4)
    have Y0 := Lib.hid (Z0.out.after (w' := w4))
    have YB := Lib.hid (ZB.out.after (w' := w4))
    clear a4
    obtain ⟨g7, hg7⟩ : ∃ g7, w2.heap.size = g7 := ⟨_, rfl⟩
    rw [hg7] at YB
    have r5_ : w4.cell? ⟨w.heap.size, 5, none⟩ = some (.slice A4 n4 c4) := by rw [Y0.out.cell]; rfl
    have lr_ := Y0.out.is_le
    have o1_ : w4.cell? ⟨g7, 1, none⟩ = some (.int .i64 1) := by rw [YB.out.cell]; rfl
    have o2_ : w4.cell? ⟨g7, 2, none⟩ = some (.int .i64 4) := by rw [YB.out.cell]; rfl
    have o3_ : w4.cell? ⟨g7, 3, none⟩ = some (.int .i64 0) := by rw [YB.out.cell]; rfl
    have o4_ : w4.cell? ⟨g7, 4, none⟩ = some (.int .i64 0) := by rw [YB.out.cell]; rfl
    have o5_ : w4.cell? ⟨g7, 5, none⟩ = some (.int .i64 0) := by rw [YB.out.cell]; rfl
    have ix0 := fun W : World => idx0 a b c d W
    have ix1 := fun W : World => idx1 a b c d W
    have ix2 := fun W : World => idx2 a b c d W
    have ix3 := fun W : World => idx3 a b c d W
    have lo_ := YB.out.is_le
    go_wp2_with fail
    refine wp_loop_rounds 5 ?_
    rw [rounds_succ]
    go_wp2_with fail
    rw [rounds_succ]
    go_wp2_with fail
    rw [rounds_succ]
    go_wp2_with fail
    rw [rounds_succ]
    go_wp2_with fail
    rw [rounds_succ]
    go_wp2_with fail
    go_ret
    exact ⟨rfl, aw4⟩
  by_cases h2 : c = 0
  rotate_left
  · have b2 : (c == 0) = false := by simpa using h2
    have HV : Hid (formB ⟨8, a, b, c, d⟩ at_ (n4 : Nat) = false) := by show _ = _; unfold formB; simp; omega
    rw [HV.out]
    have hk1 := Lib.hid (fun U (hU : After w U) => known_8 w0 U hO (after_after hw hU))
    have hf1 := Lib.hid (fun U : World => fields_any U 8 a b c d)
    go_enter Tryd.func50, Tryd.ntmps50
    go_wp2_with fail
    refine (hk1.out _ inferInstance).mono ?_
    rintro e w2 ⟨rfl, a2⟩
    have z0 := Lib.hid (((Blk.new w 52 #[.string s, .slice A1 n1 c1, .slice A2 n2 c2, .int .i64 g, .slice A3 n3 c3, .slice A4 n4 c4]).alloc (.cells #[.int .i64 8, .int .i64 a, .int .i64 b, .int .i64 c, .int .i64 d] 61)).after (w' := w2))
    have z1 := Lib.hid ((Blk.new1 w (.cells #[.string s, .slice A1 n1 c1, .slice A2 n2 c2, .int .i64 g, .slice A3 n3 c3, .slice A4 n4 c4] 52) 61 #[.int .i64 8, .int .i64 a, .int .i64 b, .int .i64 c, .int .i64 d]).after (w' := w2))
    have aw2 : After w w2 := after_after inferInstance a2
    clear a2
    have i0_ : w2.cell? ⟨w.heap.size + 1, 0, none⟩ = some (.int .i64 8) := by rw [z1.out.cell]; rfl
    have i1_ : w2.cell? ⟨w.heap.size + 1, 1, none⟩ = some (.int .i64 a) := by rw [z1.out.cell]; rfl
    have i2_ : w2.cell? ⟨w.heap.size + 1, 2, none⟩ = some (.int .i64 b) := by rw [z1.out.cell]; rfl
    have i3_ : w2.cell? ⟨w.heap.size + 1, 3, none⟩ = some (.int .i64 c) := by rw [z1.out.cell]; rfl
    have i4_ : w2.cell? ⟨w.heap.size + 1, 4, none⟩ = some (.int .i64 d) := by rw [z1.out.cell]; rfl
    have li_ := z1.out.is_le
    have ZB := Lib.hid (Blk.new w2 87 #[.string ⟨#[122, 101, 114, 111]⟩, .int .i64 1, .int .i64 4, .int .i64 0, .int .i64 0, .int .i64 0])
    have Z0 := Lib.hid (z0.out.alloc (.cells #[.string ⟨#[122, 101, 114, 111]⟩, .int .i64 1, .int .i64 4, .int .i64 0, .int .i64 0, .int .i64 0] 87))
    go_wp2_with fail
    refine (hf1.out _).mono ?_
    rintro e w4 ⟨rfl, a4⟩
    have aw4 : After w w4 := after_after aw2 (after_after inferInstance a4)
    have Y0 := Lib.hid (Z0.out.after (w' := w4))
    have YB := Lib.hid (ZB.out.after (w' := w4))
    clear a4
    obtain ⟨g7, hg7⟩ : ∃ g7, w2.heap.size = g7 := ⟨_, rfl⟩
    rw [hg7] at YB
    have r5_ : w4.cell? ⟨w.heap.size, 5, none⟩ = some (.slice A4 n4 c4) := by rw [Y0.out.cell]; rfl
    have lr_ := Y0.out.is_le
    have o1_ : w4.cell? ⟨g7, 1, none⟩ = some (.int .i64 1) := by rw [YB.out.cell]; rfl
    have o2_ : w4.cell? ⟨g7, 2, none⟩ = some (.int .i64 4) := by rw [YB.out.cell]; rfl
    have o3_ : w4.cell? ⟨g7, 3, none⟩ = some (.int .i64 0) := by rw [YB.out.cell]; rfl
    have o4_ : w4.cell? ⟨g7, 4, none⟩ = some (.int .i64 0) := by rw [YB.out.cell]; rfl
    have o5_ : w4.cell? ⟨g7, 5, none⟩ = some (.int .i64 0) := by rw [YB.out.cell]; rfl
    have ix0 := fun W : World => idx0 a b c d W
    have ix1 := fun W : World => idx1 a b c d W
    have ix2 := fun W : World => idx2 a b c d W
    have ix3 := fun W : World => idx3 a b c d W
    have lo_ := YB.out.is_le
    go_wp2_with fail
    refine wp_loop_rounds 5 ?_
    rw [rounds_succ]
    go_wp2_with fail
    rw [rounds_succ]
    go_wp2_with fail
    rw [rounds_succ]
    go_wp2_with fail
    rw [rounds_succ]
    go_wp2_with fail
    rw [rounds_succ]
    go_wp2_with fail
    go_ret
    exact ⟨rfl, aw4⟩
  by_cases h3 : d = 0
  rotate_left
  · subst h2
    have b3 : (d == 0) = false := by simpa using h3
    have HV : Hid (formB ⟨8, a, b, 0, d⟩ at_ (n4 : Nat) = false) := by show _ = _; unfold formB; simp; omega
    rw [HV.out]
    have hk1 := Lib.hid (fun U (hU : After w U) => known_8 w0 U hO (after_after hw hU))
    have hf1 := Lib.hid (fun U : World => fields_any U 8 a b 0 d)
    go_enter Tryd.func50, Tryd.ntmps50
    go_wp2_with fail
    refine (hk1.out _ inferInstance).mono ?_
    rintro e w2 ⟨rfl, a2⟩
    have z0 := Lib.hid (((Blk.new w 52 #[.string s, .slice A1 n1 c1, .slice A2 n2 c2, .int .i64 g, .slice A3 n3 c3, .slice A4 n4 c4]).alloc (.cells #[.int .i64 8, .int .i64 a, .int .i64 b, .int .i64 0, .int .i64 d] 61)).after (w' := w2))
    have z1 := Lib.hid ((Blk.new1 w (.cells #[.string s, .slice A1 n1 c1, .slice A2 n2 c2, .int .i64 g, .slice A3 n3 c3, .slice A4 n4 c4] 52) 61 #[.int .i64 8, .int .i64 a, .int .i64 b, .int .i64 0, .int .i64 d]).after (w' := w2))
    have aw2 : After w w2 := after_after inferInstance a2
    clear a2
    have i0_ : w2.cell? ⟨w.heap.size + 1, 0, none⟩ = some (.int .i64 8) := by rw [z1.out.cell]; rfl
    have i1_ : w2.cell? ⟨w.heap.size + 1, 1, none⟩ = some (.int .i64 a) := by rw [z1.out.cell]; rfl
    have i2_ : w2.cell? ⟨w.heap.size + 1, 2, none⟩ = some (.int .i64 b) := by rw [z1.out.cell]; rfl
    have i3_ : w2.cell? ⟨w.heap.size + 1, 3, none⟩ = some (.int .i64 0) := by rw [z1.out.cell]; rfl
    have i4_ : w2.cell? ⟨w.heap.size + 1, 4, none⟩ = some (.int .i64 d) := by rw [z1.out.cell]; rfl
    have li_ := z1.out.is_le
    have ZB := Lib.hid (Blk.new w2 87 #[.string ⟨#[122, 101, 114, 111]⟩, .int .i64 1, .int .i64 4, .int .i64 0, .int .i64 0, .int .i64 0])
    have Z0 := Lib.hid (z0.out.alloc (.cells #[.string ⟨#[122, 101, 114, 111]⟩, .int .i64 1, .int .i64 4, .int .i64 0, .int .i64 0, .int .i64 0] 87))
    go_wp2_with fail
    refine (hf1.out _).mono ?_
    rintro e w4 ⟨rfl, a4⟩
    have aw4 : After w w4 := after_after aw2 (after_after inferInstance a4)
    have Y0 := Lib.hid (Z0.out.after (w' := w4))
    have YB := Lib.hid (ZB.out.after (w' := w4))
    clear a4
    obtain ⟨g7, hg7⟩ : ∃ g7, w2.heap.size = g7 := ⟨_, rfl⟩
    rw [hg7] at YB
    have r5_ : w4.cell? ⟨w.heap.size, 5, none⟩ = some (.slice A4 n4 c4) := by rw [Y0.out.cell]; rfl
    have lr_ := Y0.out.is_le
    have o1_ : w4.cell? ⟨g7, 1, none⟩ = some (.int .i64 1) := by rw [YB.out.cell]; rfl
    have o2_ : w4.cell? ⟨g7, 2, none⟩ = some (.int .i64 4) := by rw [YB.out.cell]; rfl
    have o3_ : w4.cell? ⟨g7, 3, none⟩ = some (.int .i64 0) := by rw [YB.out.cell]; rfl
    have o4_ : w4.cell? ⟨g7, 4, none⟩ = some (.int .i64 0) := by rw [YB.out.cell]; rfl
    have o5_ : w4.cell? ⟨g7, 5, none⟩ = some (.int .i64 0) := by rw [YB.out.cell]; rfl
    have ix0 := fun W : World => idx0 a b 0 d W
    have ix1 := fun W : World => idx1 a b 0 d W
    have ix2 := fun W : World => idx2 a b 0 d W
    have ix3 := fun W : World => idx3 a b 0 d W
    have lo_ := YB.out.is_le
    go_wp2_with fail
    refine wp_loop_rounds 5 ?_
    rw [rounds_succ]
    go_wp2_with fail
    rw [rounds_succ]
    go_wp2_with fail
    rw [rounds_succ]
    go_wp2_with fail
    rw [rounds_succ]
    go_wp2_with fail
    rw [rounds_succ]
    go_wp2_with fail
    go_ret
    exact ⟨rfl, aw4⟩
  subst h2
  subst h3
  have HV : Hid (formB ⟨8, a, b, 0, 0⟩ at_ (n4 : Nat) = true) := by show _ = _; unfold formB; simp; omega
  rw [HV.out]
  have hk1 := Lib.hid (fun U (hU : After w U) => known_8 w0 U hO (after_after hw hU))
  have hf1 := Lib.hid (fun U : World => fields_any U 8 a b 0 0)
  go_enter Tryd.func50, Tryd.ntmps50
  go_wp2_with fail
  refine (hk1.out _ inferInstance).mono ?_
  rintro e w2 ⟨rfl, a2⟩
  have z0 := Lib.hid (((Blk.new w 52 #[.string s, .slice A1 n1 c1, .slice A2 n2 c2, .int .i64 g, .slice A3 n3 c3, .slice A4 n4 c4]).alloc (.cells #[.int .i64 8, .int .i64 a, .int .i64 b, .int .i64 0, .int .i64 0] 61)).after (w' := w2))
  have z1 := Lib.hid ((Blk.new1 w (.cells #[.string s, .slice A1 n1 c1, .slice A2 n2 c2, .int .i64 g, .slice A3 n3 c3, .slice A4 n4 c4] 52) 61 #[.int .i64 8, .int .i64 a, .int .i64 b, .int .i64 0, .int .i64 0]).after (w' := w2))
  have aw2 : After w w2 := after_after inferInstance a2
  clear a2
  have i0_ : w2.cell? ⟨w.heap.size + 1, 0, none⟩ = some (.int .i64 8) := by rw [z1.out.cell]; rfl
  have i1_ : w2.cell? ⟨w.heap.size + 1, 1, none⟩ = some (.int .i64 a) := by rw [z1.out.cell]; rfl
  have i2_ : w2.cell? ⟨w.heap.size + 1, 2, none⟩ = some (.int .i64 b) := by rw [z1.out.cell]; rfl
  have i3_ : w2.cell? ⟨w.heap.size + 1, 3, none⟩ = some (.int .i64 0) := by rw [z1.out.cell]; rfl
  have i4_ : w2.cell? ⟨w.heap.size + 1, 4, none⟩ = some (.int .i64 0) := by rw [z1.out.cell]; rfl
  have li_ := z1.out.is_le
  have ZB := Lib.hid (Blk.new w2 87 #[.string ⟨#[122, 101, 114, 111]⟩, .int .i64 1, .int .i64 4, .int .i64 0, .int .i64 0, .int .i64 0])
  have Z0 := Lib.hid (z0.out.alloc (.cells #[.string ⟨#[122, 101, 114, 111]⟩, .int .i64 1, .int .i64 4, .int .i64 0, .int .i64 0, .int .i64 0] 87))
  go_wp2_with fail
  refine (hf1.out _).mono ?_
  rintro e w4 ⟨rfl, a4⟩
  have aw4 : After w w4 := after_after aw2 (after_after inferInstance a4)
  have Y0 := Lib.hid (Z0.out.after (w' := w4))
  have YB := Lib.hid (ZB.out.after (w' := w4))
  clear a4
  obtain ⟨g7, hg7⟩ : ∃ g7, w2.heap.size = g7 := ⟨_, rfl⟩
  rw [hg7] at YB
  have r5_ : w4.cell? ⟨w.heap.size, 5, none⟩ = some (.slice A4 n4 c4) := by rw [Y0.out.cell]; rfl
  have lr_ := Y0.out.is_le
  have o1_ : w4.cell? ⟨g7, 1, none⟩ = some (.int .i64 1) := by rw [YB.out.cell]; rfl
  have o2_ : w4.cell? ⟨g7, 2, none⟩ = some (.int .i64 4) := by rw [YB.out.cell]; rfl
  have o3_ : w4.cell? ⟨g7, 3, none⟩ = some (.int .i64 0) := by rw [YB.out.cell]; rfl
  have o4_ : w4.cell? ⟨g7, 4, none⟩ = some (.int .i64 0) := by rw [YB.out.cell]; rfl
  have o5_ : w4.cell? ⟨g7, 5, none⟩ = some (.int .i64 0) := by rw [YB.out.cell]; rfl
  have ix0 := fun W : World => idx0 a b 0 0 W
  have ix1 := fun W : World => idx1 a b 0 0 W
  have ix2 := fun W : World => idx2 a b 0 0 W
  have ix3 := fun W : World => idx3 a b 0 0 W
  have lo_ := YB.out.is_le
  go_wp2_with fail
  refine wp_loop_rounds 5 ?_
  rw [rounds_succ]
  go_wp2_with fail
  rw [rounds_succ]
  go_wp2_with fail
  rw [rounds_succ]
  go_wp2_with fail
  rw [rounds_succ]
  go_wp2_with fail
  rw [rounds_succ]
  go_wp2_with fail
  go_ret
  exact ⟨rfl, aw4⟩

set_option maxRecDepth 100000 in
set_option maxHeartbeats 8000000 in
theorem form_9 (w0 w : World) (hO : Ops w0) (hw : After w0 w) (s : ByteArray) (A1 : Option Addr) (n1 c1 : Nat) (A2 : Option Addr) (n2 c2 : Nat) (g : Int) (A3 : Option Addr) (n3 c3 : Nat) (A4 : Option Addr) (n4 c4 : Nat) (at_ a b c d : Int) :
    Calls Tryd.prog 50 #[.agg #[.string s, .slice A1 n1 c1, .slice A2 n2 c2, .int .i64 g, .slice A3 n3 c3, .slice A4 n4 c4], .int .i64 at_, .agg #[.int .i64 9, .int .i64 a, .int .i64 b, .int .i64 c, .int .i64 d]] w fun e w' => e = .returned (.bool (formB ⟨9, a, b, c, d⟩ at_ (n4 : Nat))) ∧ After w w' := by
  have HV : Hid (formB ⟨9, a, b, c, d⟩ at_ (n4 : Nat) = true) := by show _ = _; unfold formB; simp; done
  rw [HV.out]
  have hk1 := Lib.hid (fun U (hU : After w U) => known_9 w0 U hO (after_after hw hU))
  have hf1 := Lib.hid (fun U : World => fields_any U 9 a b c d)
  go_enter Tryd.func50, Tryd.ntmps50
  go_wp2_with fail
  refine (hk1.out _ inferInstance).mono ?_
  rintro e w2 ⟨rfl, a2⟩
  have z0 := Lib.hid (((Blk.new w 52 #[.string s, .slice A1 n1 c1, .slice A2 n2 c2, .int .i64 g, .slice A3 n3 c3, .slice A4 n4 c4]).alloc (.cells #[.int .i64 9, .int .i64 a, .int .i64 b, .int .i64 c, .int .i64 d] 61)).after (w' := w2))
  have z1 := Lib.hid ((Blk.new1 w (.cells #[.string s, .slice A1 n1 c1, .slice A2 n2 c2, .int .i64 g, .slice A3 n3 c3, .slice A4 n4 c4] 52) 61 #[.int .i64 9, .int .i64 a, .int .i64 b, .int .i64 c, .int .i64 d]).after (w' := w2))
  have aw2 : After w w2 := after_after inferInstance a2
  clear a2
  have i0_ : w2.cell? ⟨w.heap.size + 1, 0, none⟩ = some (.int .i64 9) := by rw [z1.out.cell]; rfl
  have i1_ : w2.cell? ⟨w.heap.size + 1, 1, none⟩ = some (.int .i64 a) := by rw [z1.out.cell]; rfl
  have i2_ : w2.cell? ⟨w.heap.size + 1, 2, none⟩ = some (.int .i64 b) := by rw [z1.out.cell]; rfl
  have i3_ : w2.cell? ⟨w.heap.size + 1, 3, none⟩ = some (.int .i64 c) := by rw [z1.out.cell]; rfl
  have i4_ : w2.cell? ⟨w.heap.size + 1, 4, none⟩ = some (.int .i64 d) := by rw [z1.out.cell]; rfl
  have li_ := z1.out.is_le
  have ZB := Lib.hid (Blk.new w2 87 #[.string ⟨#[99, 97, 108, 108]⟩, .int .i64 6, .int .i64 7, .int .i64 8, .int .i64 9, .int .i64 0])
  have Z0 := Lib.hid (z0.out.alloc (.cells #[.string ⟨#[99, 97, 108, 108]⟩, .int .i64 6, .int .i64 7, .int .i64 8, .int .i64 9, .int .i64 0] 87))
  go_wp2_with fail
  refine (hf1.out _).mono ?_
  rintro e w4 ⟨rfl, a4⟩
  have aw4 : After w w4 := after_after aw2 (after_after inferInstance a4)
  have Y0 := Lib.hid (Z0.out.after (w' := w4))
  have YB := Lib.hid (ZB.out.after (w' := w4))
  clear a4
  obtain ⟨g7, hg7⟩ : ∃ g7, w2.heap.size = g7 := ⟨_, rfl⟩
  rw [hg7] at YB
  have r5_ : w4.cell? ⟨w.heap.size, 5, none⟩ = some (.slice A4 n4 c4) := by rw [Y0.out.cell]; rfl
  have lr_ := Y0.out.is_le
  have o1_ : w4.cell? ⟨g7, 1, none⟩ = some (.int .i64 6) := by rw [YB.out.cell]; rfl
  have o2_ : w4.cell? ⟨g7, 2, none⟩ = some (.int .i64 7) := by rw [YB.out.cell]; rfl
  have o3_ : w4.cell? ⟨g7, 3, none⟩ = some (.int .i64 8) := by rw [YB.out.cell]; rfl
  have o4_ : w4.cell? ⟨g7, 4, none⟩ = some (.int .i64 9) := by rw [YB.out.cell]; rfl
  have o5_ : w4.cell? ⟨g7, 5, none⟩ = some (.int .i64 0) := by rw [YB.out.cell]; rfl
  have ix0 := fun W : World => idx0 a b c d W
  have ix1 := fun W : World => idx1 a b c d W
  have ix2 := fun W : World => idx2 a b c d W
  have ix3 := fun W : World => idx3 a b c d W
  have lo_ := YB.out.is_le
  go_wp2_with fail
  refine wp_loop_rounds 5 ?_
  rw [rounds_succ]
  go_wp2_with fail
  rw [rounds_succ]
  go_wp2_with fail
  rw [rounds_succ]
  go_wp2_with fail
  rw [rounds_succ]
  go_wp2_with fail
  rw [rounds_succ]
  go_wp2_with fail
  go_ret
  exact ⟨rfl, aw4⟩

set_option maxRecDepth 100000 in
set_option maxHeartbeats 8000000 in
theorem form_10 (w0 w : World) (hO : Ops w0) (hw : After w0 w) (s : ByteArray) (A1 : Option Addr) (n1 c1 : Nat) (A2 : Option Addr) (n2 c2 : Nat) (g : Int) (A3 : Option Addr) (n3 c3 : Nat) (A4 : Option Addr) (n4 c4 : Nat) (at_ a b c d : Int) :
    Calls Tryd.prog 50 #[.agg #[.string s, .slice A1 n1 c1, .slice A2 n2 c2, .int .i64 g, .slice A3 n3 c3, .slice A4 n4 c4], .int .i64 at_, .agg #[.int .i64 10, .int .i64 a, .int .i64 b, .int .i64 c, .int .i64 d]] w fun e w' => e = .returned (.bool (formB ⟨10, a, b, c, d⟩ at_ (n4 : Nat))) ∧ After w w' := by
  by_cases h0 : c = 0
  rotate_left
  · have b0 : (c == 0) = false := by simpa using h0
    have HV : Hid (formB ⟨10, a, b, c, d⟩ at_ (n4 : Nat) = false) := by show _ = _; unfold formB; simp; omega
    rw [HV.out]
    have hk1 := Lib.hid (fun U (hU : After w U) => known_10 w0 U hO (after_after hw hU))
    have hf1 := Lib.hid (fun U : World => fields_any U 10 a b c d)
    go_enter Tryd.func50, Tryd.ntmps50
    go_wp2_with fail
    refine (hk1.out _ inferInstance).mono ?_
    rintro e w2 ⟨rfl, a2⟩
    have z0 := Lib.hid (((Blk.new w 52 #[.string s, .slice A1 n1 c1, .slice A2 n2 c2, .int .i64 g, .slice A3 n3 c3, .slice A4 n4 c4]).alloc (.cells #[.int .i64 10, .int .i64 a, .int .i64 b, .int .i64 c, .int .i64 d] 61)).after (w' := w2))
    have z1 := Lib.hid ((Blk.new1 w (.cells #[.string s, .slice A1 n1 c1, .slice A2 n2 c2, .int .i64 g, .slice A3 n3 c3, .slice A4 n4 c4] 52) 61 #[.int .i64 10, .int .i64 a, .int .i64 b, .int .i64 c, .int .i64 d]).after (w' := w2))
    have aw2 : After w w2 := after_after inferInstance a2
    clear a2
    have i0_ : w2.cell? ⟨w.heap.size + 1, 0, none⟩ = some (.int .i64 10) := by rw [z1.out.cell]; rfl
    have i1_ : w2.cell? ⟨w.heap.size + 1, 1, none⟩ = some (.int .i64 a) := by rw [z1.out.cell]; rfl
    have i2_ : w2.cell? ⟨w.heap.size + 1, 2, none⟩ = some (.int .i64 b) := by rw [z1.out.cell]; rfl
    have i3_ : w2.cell? ⟨w.heap.size + 1, 3, none⟩ = some (.int .i64 c) := by rw [z1.out.cell]; rfl
    have i4_ : w2.cell? ⟨w.heap.size + 1, 4, none⟩ = some (.int .i64 d) := by rw [z1.out.cell]; rfl
    have li_ := z1.out.is_le
    have ZB := Lib.hid (Blk.new w2 87 #[.string ⟨#[114, 101, 115, 101, 116]⟩, .int .i64 6, .int .i64 7, .int .i64 0, .int .i64 0, .int .i64 0])
    have Z0 := Lib.hid (z0.out.alloc (.cells #[.string ⟨#[114, 101, 115, 101, 116]⟩, .int .i64 6, .int .i64 7, .int .i64 0, .int .i64 0, .int .i64 0] 87))
    go_wp2_with fail
    refine (hf1.out _).mono ?_
    rintro e w4 ⟨rfl, a4⟩
    have aw4 : After w w4 := after_after aw2 (after_after inferInstance a4)
    have Y0 := Lib.hid (Z0.out.after (w' := w4))
    have YB := Lib.hid (ZB.out.after (w' := w4))
    clear a4
    obtain ⟨g7, hg7⟩ : ∃ g7, w2.heap.size = g7 := ⟨_, rfl⟩
    rw [hg7] at YB
    have r5_ : w4.cell? ⟨w.heap.size, 5, none⟩ = some (.slice A4 n4 c4) := by rw [Y0.out.cell]; rfl
    have lr_ := Y0.out.is_le
    have o1_ : w4.cell? ⟨g7, 1, none⟩ = some (.int .i64 6) := by rw [YB.out.cell]; rfl
    have o2_ : w4.cell? ⟨g7, 2, none⟩ = some (.int .i64 7) := by rw [YB.out.cell]; rfl
    have o3_ : w4.cell? ⟨g7, 3, none⟩ = some (.int .i64 0) := by rw [YB.out.cell]; rfl
    have o4_ : w4.cell? ⟨g7, 4, none⟩ = some (.int .i64 0) := by rw [YB.out.cell]; rfl
    have o5_ : w4.cell? ⟨g7, 5, none⟩ = some (.int .i64 0) := by rw [YB.out.cell]; rfl
    have ix0 := fun W : World => idx0 a b c d W
    have ix1 := fun W : World => idx1 a b c d W
    have ix2 := fun W : World => idx2 a b c d W
    have ix3 := fun W : World => idx3 a b c d W
    have lo_ := YB.out.is_le
    go_wp2_with fail
    refine wp_loop_rounds 5 ?_
    rw [rounds_succ]
    go_wp2_with fail
    rw [rounds_succ]
    go_wp2_with fail
    rw [rounds_succ]
    go_wp2_with fail
    rw [rounds_succ]
    go_wp2_with fail
    rw [rounds_succ]
    go_wp2_with fail
    go_ret
    exact ⟨rfl, aw4⟩
  by_cases h1 : d = 0
  rotate_left
  · subst h0
    have b1 : (d == 0) = false := by simpa using h1
    have HV : Hid (formB ⟨10, a, b, 0, d⟩ at_ (n4 : Nat) = false) := by show _ = _; unfold formB; simp; omega
    rw [HV.out]
    have hk1 := Lib.hid (fun U (hU : After w U) => known_10 w0 U hO (after_after hw hU))
    have hf1 := Lib.hid (fun U : World => fields_any U 10 a b 0 d)
    go_enter Tryd.func50, Tryd.ntmps50
    go_wp2_with fail
    refine (hk1.out _ inferInstance).mono ?_
    rintro e w2 ⟨rfl, a2⟩
    have z0 := Lib.hid (((Blk.new w 52 #[.string s, .slice A1 n1 c1, .slice A2 n2 c2, .int .i64 g, .slice A3 n3 c3, .slice A4 n4 c4]).alloc (.cells #[.int .i64 10, .int .i64 a, .int .i64 b, .int .i64 0, .int .i64 d] 61)).after (w' := w2))
    have z1 := Lib.hid ((Blk.new1 w (.cells #[.string s, .slice A1 n1 c1, .slice A2 n2 c2, .int .i64 g, .slice A3 n3 c3, .slice A4 n4 c4] 52) 61 #[.int .i64 10, .int .i64 a, .int .i64 b, .int .i64 0, .int .i64 d]).after (w' := w2))
    have aw2 : After w w2 := after_after inferInstance a2
    clear a2
    have i0_ : w2.cell? ⟨w.heap.size + 1, 0, none⟩ = some (.int .i64 10) := by rw [z1.out.cell]; rfl
    have i1_ : w2.cell? ⟨w.heap.size + 1, 1, none⟩ = some (.int .i64 a) := by rw [z1.out.cell]; rfl
    have i2_ : w2.cell? ⟨w.heap.size + 1, 2, none⟩ = some (.int .i64 b) := by rw [z1.out.cell]; rfl
    have i3_ : w2.cell? ⟨w.heap.size + 1, 3, none⟩ = some (.int .i64 0) := by rw [z1.out.cell]; rfl
    have i4_ : w2.cell? ⟨w.heap.size + 1, 4, none⟩ = some (.int .i64 d) := by rw [z1.out.cell]; rfl
    have li_ := z1.out.is_le
    have ZB := Lib.hid (Blk.new w2 87 #[.string ⟨#[114, 101, 115, 101, 116]⟩, .int .i64 6, .int .i64 7, .int .i64 0, .int .i64 0, .int .i64 0])
    have Z0 := Lib.hid (z0.out.alloc (.cells #[.string ⟨#[114, 101, 115, 101, 116]⟩, .int .i64 6, .int .i64 7, .int .i64 0, .int .i64 0, .int .i64 0] 87))
    go_wp2_with fail
    refine (hf1.out _).mono ?_
    rintro e w4 ⟨rfl, a4⟩
    have aw4 : After w w4 := after_after aw2 (after_after inferInstance a4)
    have Y0 := Lib.hid (Z0.out.after (w' := w4))
    have YB := Lib.hid (ZB.out.after (w' := w4))
    clear a4
    obtain ⟨g7, hg7⟩ : ∃ g7, w2.heap.size = g7 := ⟨_, rfl⟩
    rw [hg7] at YB
    have r5_ : w4.cell? ⟨w.heap.size, 5, none⟩ = some (.slice A4 n4 c4) := by rw [Y0.out.cell]; rfl
    have lr_ := Y0.out.is_le
    have o1_ : w4.cell? ⟨g7, 1, none⟩ = some (.int .i64 6) := by rw [YB.out.cell]; rfl
    have o2_ : w4.cell? ⟨g7, 2, none⟩ = some (.int .i64 7) := by rw [YB.out.cell]; rfl
    have o3_ : w4.cell? ⟨g7, 3, none⟩ = some (.int .i64 0) := by rw [YB.out.cell]; rfl
    have o4_ : w4.cell? ⟨g7, 4, none⟩ = some (.int .i64 0) := by rw [YB.out.cell]; rfl
    have o5_ : w4.cell? ⟨g7, 5, none⟩ = some (.int .i64 0) := by rw [YB.out.cell]; rfl
    have ix0 := fun W : World => idx0 a b 0 d W
    have ix1 := fun W : World => idx1 a b 0 d W
    have ix2 := fun W : World => idx2 a b 0 d W
    have ix3 := fun W : World => idx3 a b 0 d W
    have lo_ := YB.out.is_le
    go_wp2_with fail
    refine wp_loop_rounds 5 ?_
    rw [rounds_succ]
    go_wp2_with fail
    rw [rounds_succ]
    go_wp2_with fail
    rw [rounds_succ]
    go_wp2_with fail
    rw [rounds_succ]
    go_wp2_with fail
    rw [rounds_succ]
    go_wp2_with fail
    go_ret
    exact ⟨rfl, aw4⟩
  subst h0
  subst h1
  have HV : Hid (formB ⟨10, a, b, 0, 0⟩ at_ (n4 : Nat) = true) := by show _ = _; unfold formB; simp; done
  rw [HV.out]
  have hk1 := Lib.hid (fun U (hU : After w U) => known_10 w0 U hO (after_after hw hU))
  have hf1 := Lib.hid (fun U : World => fields_any U 10 a b 0 0)
  go_enter Tryd.func50, Tryd.ntmps50
  go_wp2_with fail
  refine (hk1.out _ inferInstance).mono ?_
  rintro e w2 ⟨rfl, a2⟩
  have z0 := Lib.hid (((Blk.new w 52 #[.string s, .slice A1 n1 c1, .slice A2 n2 c2, .int .i64 g, .slice A3 n3 c3, .slice A4 n4 c4]).alloc (.cells #[.int .i64 10, .int .i64 a, .int .i64 b, .int .i64 0, .int .i64 0] 61)).after (w' := w2))
  have z1 := Lib.hid ((Blk.new1 w (.cells #[.string s, .slice A1 n1 c1, .slice A2 n2 c2, .int .i64 g, .slice A3 n3 c3, .slice A4 n4 c4] 52) 61 #[.int .i64 10, .int .i64 a, .int .i64 b, .int .i64 0, .int .i64 0]).after (w' := w2))
  have aw2 : After w w2 := after_after inferInstance a2
  clear a2
  have i0_ : w2.cell? ⟨w.heap.size + 1, 0, none⟩ = some (.int .i64 10) := by rw [z1.out.cell]; rfl
  have i1_ : w2.cell? ⟨w.heap.size + 1, 1, none⟩ = some (.int .i64 a) := by rw [z1.out.cell]; rfl
  have i2_ : w2.cell? ⟨w.heap.size + 1, 2, none⟩ = some (.int .i64 b) := by rw [z1.out.cell]; rfl
  have i3_ : w2.cell? ⟨w.heap.size + 1, 3, none⟩ = some (.int .i64 0) := by rw [z1.out.cell]; rfl
  have i4_ : w2.cell? ⟨w.heap.size + 1, 4, none⟩ = some (.int .i64 0) := by rw [z1.out.cell]; rfl
  have li_ := z1.out.is_le
  have ZB := Lib.hid (Blk.new w2 87 #[.string ⟨#[114, 101, 115, 101, 116]⟩, .int .i64 6, .int .i64 7, .int .i64 0, .int .i64 0, .int .i64 0])
  have Z0 := Lib.hid (z0.out.alloc (.cells #[.string ⟨#[114, 101, 115, 101, 116]⟩, .int .i64 6, .int .i64 7, .int .i64 0, .int .i64 0, .int .i64 0] 87))
  go_wp2_with fail
  refine (hf1.out _).mono ?_
  rintro e w4 ⟨rfl, a4⟩
  have aw4 : After w w4 := after_after aw2 (after_after inferInstance a4)
  have Y0 := Lib.hid (Z0.out.after (w' := w4))
  have YB := Lib.hid (ZB.out.after (w' := w4))
  clear a4
  obtain ⟨g7, hg7⟩ : ∃ g7, w2.heap.size = g7 := ⟨_, rfl⟩
  rw [hg7] at YB
  have r5_ : w4.cell? ⟨w.heap.size, 5, none⟩ = some (.slice A4 n4 c4) := by rw [Y0.out.cell]; rfl
  have lr_ := Y0.out.is_le
  have o1_ : w4.cell? ⟨g7, 1, none⟩ = some (.int .i64 6) := by rw [YB.out.cell]; rfl
  have o2_ : w4.cell? ⟨g7, 2, none⟩ = some (.int .i64 7) := by rw [YB.out.cell]; rfl
  have o3_ : w4.cell? ⟨g7, 3, none⟩ = some (.int .i64 0) := by rw [YB.out.cell]; rfl
  have o4_ : w4.cell? ⟨g7, 4, none⟩ = some (.int .i64 0) := by rw [YB.out.cell]; rfl
  have o5_ : w4.cell? ⟨g7, 5, none⟩ = some (.int .i64 0) := by rw [YB.out.cell]; rfl
  have ix0 := fun W : World => idx0 a b 0 0 W
  have ix1 := fun W : World => idx1 a b 0 0 W
  have ix2 := fun W : World => idx2 a b 0 0 W
  have ix3 := fun W : World => idx3 a b 0 0 W
  have lo_ := YB.out.is_le
  go_wp2_with fail
  refine wp_loop_rounds 5 ?_
  rw [rounds_succ]
  go_wp2_with fail
  rw [rounds_succ]
  go_wp2_with fail
  rw [rounds_succ]
  go_wp2_with fail
  rw [rounds_succ]
  go_wp2_with fail
  rw [rounds_succ]
  go_wp2_with fail
  go_ret
  exact ⟨rfl, aw4⟩
end Go.Proofs.YtgmojjdojcmnaaaDoor
