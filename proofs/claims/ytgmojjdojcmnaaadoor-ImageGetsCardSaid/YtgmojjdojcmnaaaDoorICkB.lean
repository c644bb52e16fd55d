/-
  Contracts: asm's called, valid; the validation's literals; slices.IndexFunc, ContainsFunc at ints.
-/
import Derived.Test.YtgmojjdojcmnaaaDoorICkA
set_option linter.unusedVariables false
set_option linter.unusedSimpArgs false
namespace Go.Proofs.YtgmojjdojcmnaaaDoor
open Go.RowKit Go.BigFrame

def nilR : Rtn := ⟨[], [], [], 0, [], []⟩
def calledR (m : Img) (k : Int) : Rtn := if 0 ≤ k then m.rts.getD k.toNat ⟨[], [], [], 0, [], []⟩ else ⟨[], [], [], 0, [], []⟩
set_option maxRecDepth 100000 in
set_option maxHeartbeats 1600000 in
theorem called_any {w0 : World} {A c A' c' m} (x : RIm w0 A c A' c' m) (w : World) (hw : After w0 w) (k : Int) :
    Calls Tryd.prog 63 #[.agg #[.slice A m.enums.length c, .slice A' m.rts.length c'], .int .i64 k] w fun e w' => ∃ s A1 c1 A2 c2 g A3 c3 A4 c4, e = .returned (.agg #[.string s, .slice A1 (calledR m k).ins.length c1, .slice A2 (calledR m k).outs.length c2, .int .i64 g, .slice A3 (calledR m k).init.length c3, .slice A4 (calledR m k).code.length c4]) ∧ After w w' := by
  have hl := x.rts.len
  have hle_ := x.rts.le
  have hcap_ := x.rts.cap
  by_cases hneg : k < 0
  · have hc : calledR m k = ⟨[], [], [], 0, [], []⟩ := by unfold calledR; rw [if_neg (by omega)]
    rw [hc]
    clear hc x
    have hz1 := Blk.new1 w (.cells #[.slice A m.enums.length c, .slice A' m.rts.length c'] 29) 52 #[.string ⟨#[]⟩, .slice none 0 0, .slice none 0 0, .int .i64 0, .slice none 0 0, .slice none 0 0]
    have m0 := (hz1.cell 0).trans rfl
    have m1 := (hz1.cell 1).trans rfl
    have m2 := (hz1.cell 2).trans rfl
    have m3 := (hz1.cell 3).trans rfl
    have m4 := (hz1.cell 4).trans rfl
    have m5 := (hz1.cell 5).trans rfl
    clear hz1
    go_enter Tryd.func63, Tryd.ntmps63
    go_wp2_with fail
    refine bodyPost_ret (v := .agg #[.string ⟨#[]⟩, .slice none 0 0, .slice none 0 0, .int .i64 0, .slice none 0 0, .slice none 0 0]) (by simp [results, Tryd.results63, go_sem, m0, m1, m2, m3, m4, m5]) rfl ?_
    first | exact ⟨⟨#[]⟩, none, 0, none, 0, 0, none, 0, none, 0, rfl, inferInstance⟩ | exact ⟨⟨⟨#[]⟩, none, 0, none, 0, 0, none, 0, none, 0, rfl⟩, inferInstance⟩ | trace_state
  · have h0 : 0 ≤ k := by omega
    obtain ⟨n, rfl⟩ : ∃ n : Nat, k = n := ⟨k.toNat, by omega⟩
    by_cases hn : n < m.rts.length
    · have hnI : ¬ ((m.rts.length : Int) ≤ (n : Int)) := by omega
      obtain ⟨b, p, s, A1, c1, A2, c2, A3, c3, A4, c4, r, rfl, hle, HX, HR, e0, e1, e2, e3, e4, e5⟩ := (x.rts.here w).part hn
      have hc : calledR m n = r := by
        unfold calledR
        rw [if_pos h0, Int.toNat_natCast, List.getD_eq_getElem?_getD, HX.out]; rfl
      rw [hc]
      clear hc x
      have hz1 := Blk.new1 w (.cells #[.slice A m.enums.length c, .slice (some ⟨b, p, none⟩) m.rts.length c'] 29) 52 #[.string s, .slice A1 r.ins.length c1, .slice A2 r.outs.length c2, .int .i64 r.regs, .slice A3 r.init.length c3, .slice A4 r.code.length c4]
      have m0 := (hz1.cell 0).trans rfl
      have m1 := (hz1.cell 1).trans rfl
      have m2 := (hz1.cell 2).trans rfl
      have m3 := (hz1.cell 3).trans rfl
      have m4 := (hz1.cell 4).trans rfl
      have m5 := (hz1.cell 5).trans rfl
      clear hz1
      go_enter Tryd.func63, Tryd.ntmps63
      go_wp2_with fail
      refine bodyPost_ret (v := .agg #[.string s, .slice A1 r.ins.length c1, .slice A2 r.outs.length c2, .int .i64 r.regs, .slice A3 r.init.length c3, .slice A4 r.code.length c4]) (by simp [results, Tryd.results63, go_sem, m0, m1, m2, m3, m4, m5]) rfl ?_
      first | exact ⟨s, A1, c1, A2, c2, r.regs, A3, c3, A4, c4, rfl, inferInstance⟩ | exact ⟨⟨s, A1, c1, A2, c2, r.regs, A3, c3, A4, c4, rfl⟩, inferInstance⟩ | trace_state
    · have hnI : (m.rts.length : Int) ≤ (n : Int) := by omega
      have hc : calledR m n = ⟨[], [], [], 0, [], []⟩ := by
        unfold calledR
        rw [if_pos h0, Int.toNat_natCast, List.getD_eq_getElem?_getD, List.getElem?_eq_none (by omega)]; rfl
      rw [hc]
      clear hc x
      have hz1 := Blk.new1 w (.cells #[.slice A m.enums.length c, .slice A' m.rts.length c'] 29) 52 #[.string ⟨#[]⟩, .slice none 0 0, .slice none 0 0, .int .i64 0, .slice none 0 0, .slice none 0 0]
      have m0 := (hz1.cell 0).trans rfl
      have m1 := (hz1.cell 1).trans rfl
      have m2 := (hz1.cell 2).trans rfl
      have m3 := (hz1.cell 3).trans rfl
      have m4 := (hz1.cell 4).trans rfl
      have m5 := (hz1.cell 5).trans rfl
      clear hz1
      go_enter Tryd.func63, Tryd.ntmps63
      go_wp2_with fail
      refine bodyPost_ret (v := .agg #[.string ⟨#[]⟩, .slice none 0 0, .slice none 0 0, .int .i64 0, .slice none 0 0, .slice none 0 0]) (by simp [results, Tryd.results63, go_sem, m0, m1, m2, m3, m4, m5]) rfl ?_
      first | exact ⟨⟨#[]⟩, none, 0, none, 0, 0, none, 0, none, 0, rfl, inferInstance⟩ | exact ⟨⟨⟨#[]⟩, none, 0, none, 0, 0, none, 0, none, 0, rfl⟩, inferInstance⟩ | trace_state

def validI (k : Nat) (t : Int) : Bool := validB k t
theorem valid_any {w0 : World} {A c A' c' m} (x : RIm w0 A c A' c' m) (w : World) (hw : After w0 w) (t : Int) (ht : t ≤ 9223372036854775807) :
    Calls Tryd.prog 48 #[.agg #[.slice A m.enums.length c, .slice A' m.rts.length c'], .int .i64 t] w fun e w' => e = .returned (.bool (validB m.enums.length t)) ∧ After w w' := by
  have hl := x.enums.len
  by_cases h1 : t = 1
  · subst h1
    go_enter Tryd.func48, Tryd.ntmps48
    go_wp2_with fail
    go_ret
    exact ⟨ret_bool (by unfold validB; simp; omega), inferInstance⟩
  by_cases h2 : t = 2
  · subst h2
    go_enter Tryd.func48, Tryd.ntmps48
    go_wp2_with fail
    go_ret
    exact ⟨ret_bool (by unfold validB; simp; omega), inferInstance⟩
  have b1 : (t == 1) = false := by simpa using h1
  have b2 : (t == 2) = false := by simpa using h2
  by_cases h3 : 3 ≤ t
  · have hw1 : IntKind.i64.wrap (t - 3) = t - 3 := IntWalk.i64_in _ (by omega)
    by_cases h4 : t - 3 < m.enums.length
    all_goals
      go_enter Tryd.func48, Tryd.ntmps48
      go_wp2_with fail
      go_ret
      exact ⟨ret_bool (by unfold validB; simp; omega), inferInstance⟩
  · go_enter Tryd.func48, Tryd.ntmps48
    go_wp2_with fail
    go_ret
    exact ⟨ret_bool (by unfold validB; simp; omega), inferInstance⟩
theorem idx0 (a b c d : Int) (W : World) : (Instr.index 85 (.agg #[.int .i64 a, .int .i64 b, .int .i64 c, .int .i64 d]) (.int .i64 0)).run Tryd.prog W = .ok (.int .i64 a) W := by kernel_rfl
theorem idx1 (a b c d : Int) (W : World) : (Instr.index 85 (.agg #[.int .i64 a, .int .i64 b, .int .i64 c, .int .i64 d]) (.int .i64 1)).run Tryd.prog W = .ok (.int .i64 b) W := by kernel_rfl
theorem idx2 (a b c d : Int) (W : World) : (Instr.index 85 (.agg #[.int .i64 a, .int .i64 b, .int .i64 c, .int .i64 d]) (.int .i64 2)).run Tryd.prog W = .ok (.int .i64 c) W := by kernel_rfl
theorem idx3 (a b c d : Int) (W : World) : (Instr.index 85 (.agg #[.int .i64 a, .int .i64 b, .int .i64 c, .int .i64 d]) (.int .i64 3)).run Tryd.prog W = .ok (.int .i64 d) W := by kernel_rfl
end Go.Proofs.YtgmojjdojcmnaaaDoor
