/-
  Contracts: asm.ranges: what it computes (printed by gen_irange.py).
-/
import Derived.Test.YtgmojjdojcmnaaaDoorICkB
import Derived.Shelf.Abstract
import Derived.LoopN
set_option linter.unusedVariables false
set_option linter.unusedSimpArgs false
namespace Go.Proofs.YtgmojjdojcmnaaaDoor
open Go.RowKit Go.BigFrame

theorem Blk.new2 (w : World) (o o2 : Obj) (t : TypeId) (cs : Array Value) : Blk (((w.alloc o).alloc o2).alloc (.cells cs t)) (w.heap.size + 2) t cs := by
  have h := Blk.new ((w.alloc o).alloc o2) t cs
  rwa [size_alloc_, size_alloc_] at h
theorem fld1 (s : ByteArray) (A1 : Option Addr) (n1 c1 : Nat) (A2 : Option Addr) (n2 c2 : Nat) (g : Int) (A3 : Option Addr) (n3 c3 : Nat) (A4 : Option Addr) (n4 c4 : Nat) (W : World) : (Instr.field 52 (.agg #[.string s, .slice A1 n1 c1, .slice A2 n2 c2, .int .i64 g, .slice A3 n3 c3, .slice A4 n4 c4]) 1).run Tryd.prog W = .ok (.slice A1 n1 c1) W := by kernel_rfl
theorem fld2 (s : ByteArray) (A1 : Option Addr) (n1 c1 : Nat) (A2 : Option Addr) (n2 c2 : Nat) (g : Int) (A3 : Option Addr) (n3 c3 : Nat) (A4 : Option Addr) (n4 c4 : Nat) (W : World) : (Instr.field 52 (.agg #[.string s, .slice A1 n1 c1, .slice A2 n2 c2, .int .i64 g, .slice A3 n3 c3, .slice A4 n4 c4]) 2).run Tryd.prog W = .ok (.slice A2 n2 c2) W := by kernel_rfl
theorem fld4 (s : ByteArray) (A1 : Option Addr) (n1 c1 : Nat) (A2 : Option Addr) (n2 c2 : Nat) (g : Int) (A3 : Option Addr) (n3 c3 : Nat) (A4 : Option Addr) (n4 c4 : Nat) (W : World) : (Instr.field 52 (.agg #[.string s, .slice A1 n1 c1, .slice A2 n2 c2, .int .i64 g, .slice A3 n3 c3, .slice A4 n4 c4]) 4).run Tryd.prog W = .ok (.slice A3 n3 c3) W := by kernel_rfl
set_option maxRecDepth 100000 in
set_option maxHeartbeats 1600000 in
theorem called_fix {w0 : World} {A c A' c' m} (x : RIm w0 A c A' c' m) (n : Nat) (hn : n < m.rts.length) :
    ∃ s A1 c1 A2 c2 g A3 c3 A4 c4, ∀ U : World, After w0 U → Calls Tryd.prog 63 #[.agg #[.slice A m.enums.length c, .slice A' m.rts.length c'], .int .i64 (n : Nat)] U fun e w' => e = .returned (.agg #[.string s, .slice A1 (calledR m n).ins.length c1, .slice A2 (calledR m n).outs.length c2, .int .i64 g, .slice A3 (calledR m n).init.length c3, .slice A4 (calledR m n).code.length c4]) ∧ ∃ z, w' = U.more z := by
  have hl := x.rts.len
  have hnI : ¬ ((m.rts.length : Int) ≤ (n : Int)) := by omega
  obtain ⟨b, p, s, A1, c1, A2, c2, A3, c3, A4, c4, r, rfl, hle, HX, HR, e0, e1, e2, e3, e4, e5⟩ := x.rts.part hn
  have hc : calledR m n = r := by
    unfold calledR
    rw [if_pos (by omega), Int.toNat_natCast, List.getD_eq_getElem?_getD, HX.out]; rfl
  rw [hc]
  clear hc x
  refine ⟨s, A1, c1, A2, c2, r.regs, A3, c3, A4, c4, fun U hU => ?_⟩
  have kk : ∀ j v, w0.cell? ⟨b, j, none⟩ = some v → U.cell? ⟨b, j, none⟩ = some v := fun j v hv => (hU.below.cell (p := ⟨b, j, none⟩) hle.le).trans hv
  have hlU : Le (b + 1) U := ⟨Nat.le_trans hle.le hU.below.size⟩
  replace e0 := kk _ _ e0
  replace e1 := kk _ _ e1
  replace e2 := kk _ _ e2
  replace e3 := kk _ _ e3
  replace e4 := kk _ _ e4
  replace e5 := kk _ _ e5
  clear kk
  have hz1 := Blk.new1 U (.cells #[.slice A m.enums.length c, .slice (some ⟨b, p, none⟩) m.rts.length c'] 29) 52 #[.string s, .slice A1 r.ins.length c1, .slice A2 r.outs.length c2, .int .i64 r.regs, .slice A3 r.init.length c3, .slice A4 r.code.length c4]
  have m0 := (hz1.cell 0).trans rfl
  have m1 := (hz1.cell 1).trans rfl
  have m2 := (hz1.cell 2).trans rfl
  have m3 := (hz1.cell 3).trans rfl
  have m4 := (hz1.cell 4).trans rfl
  have m5 := (hz1.cell 5).trans rfl
  clear hz1
  go_enter Tryd.func63, Tryd.ntmps63
  go_wp2_with fail
  refine bodyPost_ret (v := .agg #[.string s, .slice A1 r.ins.length c1, .slice A2 r.outs.length c2, .int .i64 r.regs, .slice A3 r.init.length c3, .slice A4 r.code.length c4]) (by simp [results, Tryd.results63, go_sem, m0, m1, m2, m3, m4, m5]) rfl ?_
  exact ⟨rfl, After.is_more _ _⟩
theorem rangeB_1 (m : Img) (r : Rtn) (k_ : Nat) (a b c d : Int) : rangeB m r k_ ⟨1, a, b, c, d⟩ = (withinB a 1 r.regs && decide (-32768 ≤ b) && decide (b ≤ 32767)) := by
  have e : rangeB m r k_ ⟨1, a, b, c, d⟩ = (withinB a 1 r.regs && (decide (-32768 ≤ b) && decide (b ≤ 32767))) := rfl
  rw [e]
  try simp only [Bool.and_assoc]
theorem rangeB_2 (m : Img) (r : Rtn) (k_ : Nat) (a b c d : Int) : rangeB m r k_ ⟨2, a, b, c, d⟩ = (withinB a 1 r.regs && withinB b 1 r.regs) := by
  have e : rangeB m r k_ ⟨2, a, b, c, d⟩ = (withinB a 1 r.regs && withinB b 1 r.regs) := rfl
  rw [e]
  try simp only [Bool.and_assoc]
theorem rangeB_3 (m : Img) (r : Rtn) (k_ : Nat) (a b c d : Int) : rangeB m r k_ ⟨3, a, b, c, d⟩ = (withinB a 1 r.regs && withinB b 1 r.init.length) := by
  have e : rangeB m r k_ ⟨3, a, b, c, d⟩ = (withinB a 1 r.regs && withinB b 1 r.init.length) := rfl
  rw [e]
  try simp only [Bool.and_assoc]
theorem rangeB_4 (m : Img) (r : Rtn) (k_ : Nat) (a b c d : Int) : rangeB m r k_ ⟨4, a, b, c, d⟩ = (withinB a 1 r.init.length && withinB b 1 r.regs) := by
  have e : rangeB m r k_ ⟨4, a, b, c, d⟩ = (withinB a 1 r.init.length && withinB b 1 r.regs) := rfl
  rw [e]
  try simp only [Bool.and_assoc]
theorem rangeB_5 (m : Img) (r : Rtn) (k_ : Nat) (a b c d : Int) : rangeB m r k_ ⟨5, a, b, c, d⟩ = (withinB a 1 r.regs && withinB b 1 r.regs) := by
  have e : rangeB m r k_ ⟨5, a, b, c, d⟩ = (withinB a 1 r.regs && withinB b 1 r.regs) := rfl
  rw [e]
  try simp only [Bool.and_assoc]
theorem rangeB_6 (m : Img) (r : Rtn) (k_ : Nat) (a b c d : Int) : rangeB m r k_ ⟨6, a, b, c, d⟩ = (withinB a 1 r.regs && withinB b 1 r.regs && withinB c 1 r.regs) := by
  have e : rangeB m r k_ ⟨6, a, b, c, d⟩ = (withinB a 1 r.regs && withinB b 1 r.regs && withinB c 1 r.regs) := rfl
  rw [e]
  try simp only [Bool.and_assoc]
theorem rangeB_7 (m : Img) (r : Rtn) (k_ : Nat) (a b c d : Int) : rangeB m r k_ ⟨7, a, b, c, d⟩ = (true) := by
  have e : rangeB m r k_ ⟨7, a, b, c, d⟩ = (true) := rfl
  rw [e]
  try simp only [Bool.and_assoc]
theorem rangeB_8 (m : Img) (r : Rtn) (k_ : Nat) (a b c d : Int) : rangeB m r k_ ⟨8, a, b, c, d⟩ = (withinB a 1 r.regs) := by
  have e : rangeB m r k_ ⟨8, a, b, c, d⟩ = (withinB a 1 r.regs) := rfl
  rw [e]
  try simp only [Bool.and_assoc]
theorem rangeB_9 (m : Img) (r : Rtn) (k_ : Nat) (a b c d : Int) : rangeB m r k_ ⟨9, a, b, c, d⟩ = (decide (0 ≤ a) && decide (a < (k_ : Nat)) && withinB b (calledR m a).init.length r.init.length && withinB c (calledR m a).ins.length r.regs && withinB d (calledR m a).outs.length r.regs) := by
  have e : rangeB m r k_ ⟨9, a, b, c, d⟩ = ((decide (0 ≤ a) && decide (a < (k_ : Nat))) && withinB b (calledR m a).init.length r.init.length && withinB c (calledR m a).ins.length r.regs && withinB d (calledR m a).outs.length r.regs) := rfl
  rw [e]
  try simp only [Bool.and_assoc]
theorem rangeB_10 (m : Img) (r : Rtn) (k_ : Nat) (a b c d : Int) : rangeB m r k_ ⟨10, a, b, c, d⟩ = (decide (0 ≤ a) && decide (a < (k_ : Nat)) && withinB b (calledR m a).init.length r.init.length) := by
  have e : rangeB m r k_ ⟨10, a, b, c, d⟩ = ((decide (0 ≤ a) && decide (a < (k_ : Nat))) && withinB b (calledR m a).init.length r.init.length) := rfl
  rw [e]
  try simp only [Bool.and_assoc]
end Go.Proofs.YtgmojjdojcmnaaaDoor
