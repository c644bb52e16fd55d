/-
  Contracts: slices.Grow of nil, slices.Concat of two lists of ints.
-/
import Derived.Test.YtgmojjdojcmnaaaDoorICkC
import Derived.Lib.AppendZeros
import Derived.LoopN
set_option linter.unusedVariables false
set_option linter.unusedSimpArgs false
namespace Go.Proofs.YtgmojjdojcmnaaaDoor
open Go.RowKit Go.BigFrame Go.Lib

set_option maxHeartbeats 1600000 in
theorem grow_any (w : World) (n : Nat) (hn : n ≤ 1000) : Calls Tryd.prog 58 #[.slice none 0 0, .int .i64 n] w fun e w' => ∃ A c, e = .returned (.slice A 0 c) ∧ w'.ownsRow w.heap.size 3 1 (.slice A 0 c) 0 [] ∧ After w w' := by
  obtain ⟨i0, hi, hz0, hz1, hz2⟩ := info_parts intInfo
  rcases Nat.eq_zero_or_pos n with h0 | h0
  · subst h0
    go_enter Tryd.func58, Tryd.ntmps58
    go_wp2_with fail
    go_ret
    exact ⟨none, 0, rfl, World.ownsRow_nil _ _ _ _, inferInstance⟩
  · have hI : ¬ ((n : Int) < 0) := by omega
    have hI2 : (0 : Int) < (n : Int) := by omega
    have hr := Lib.hid (fun W : World => run_append_nil_zeros (P := Tryd.prog) W 26 3 26 3 i0 (.int .i64 0) .i64 .i64 Tryd.underlying26 Tryd.underlying3 hi hz0 n h0 (by omega) (by omega) (by rw [hz2]; omega))
    go_enter Tryd.func58, Tryd.ntmps58
    go_wp2_with (at_builtin; refine Lib.wpList_append_run _ rfl (.tmp 20) (.tmp 21) 26 3 rfl (.slice none 0 0) (.int .i64 n) rfl rfl _ _ (hr.out _) ?_)
    go_ret
    refine ⟨_, _, rfl, ?_, inferInstance⟩
    have h1 := grownCap_ge w n 0 3
    exact (World.ownsRow_made w _ _ (Nat.le_refl _) (grownCap_le_maxLen w n 0 3 (by unfold maxLen; omega)) (by rw [Array.size_append, size_zeroCells, size_zeroCells]; simp; omega)).drew

set_option maxRecDepth 100000 in
set_option maxHeartbeats 3200000 in
theorem concat_any {w0 : World} {A1 c1 l1 A2 c2 l2} (x1 : RI w0 A1 c1 l1) (x2 : RI w0 A2 c2 l2) (h1 : l1.length ≤ 64) (h2 : l2.length ≤ 64) (w : World) (hw : After w0 w) (gp : Nat) (hp : Le (gp + 1) w)
    (k0 : w.cell? ⟨gp, 0, none⟩ = some (.slice A1 l1.length c1)) (k1 : w.cell? ⟨gp, 1, none⟩ = some (.slice A2 l2.length c2)) :
    Calls Tryd.prog 46 #[.slice (some ⟨gp, 0, none⟩) 2 2] w fun e w' => ∃ A c, e = .returned (.slice A (l1 ++ l2).length c) ∧ RI w' A c (l1 ++ l2) ∧ After w w' := by
  obtain ⟨i0, hi, hz0, hz1, hz2⟩ := info_parts intInfo
  have hw1 : IntKind.i64.wrap ((l1.length : Int) + (l2.length : Int)) = ((l1.length + l2.length : Nat) : Int) := IntWalk.i64_in _ (by omega)
  have hN1 : ¬ ((l1.length : Int) < 0) := by omega
  have hN2 : ¬ (((l1.length + l2.length : Nat) : Int) < 0) := by omega
  have HG := Lib.hid (fun W : World => grow_any W (l1.length + l2.length) (by omega))
  have X1 := Lib.hid x1
  have X2 := Lib.hid x2
  have hgp := hp.le
  have hcast : ((l1.length + l2.length : Nat) : Int) = (l1.length : Int) + (l2.length : Int) := by omega
  clear x1 x2
  go_enter Tryd.func46, Tryd.ntmps46
  go_wp2_with fail
  refine wp_loop_rounds 3 ?_
  rw [rounds_succ]
  go_wp2_with fail
  rw [rounds_succ]
  go_wp2_with fail
  rw [rounds_succ]
  go_wp2_with fail
  rw [hcast] at HG
  refine (HG.out w).mono ?_
  rintro e w2 ⟨A0, c0, rfl, hown0, a2⟩
  have kk : ∀ U : World, After w U → U.cell? ⟨gp, 0, none⟩ = some (.slice A1 l1.length c1) ∧ U.cell? ⟨gp, 1, none⟩ = some (.slice A2 l2.length c2) := fun U hU => ⟨(hU.below.cell (p := ⟨gp, 0, none⟩) (by exact hgp)).trans k0, (hU.below.cell (p := ⟨gp, 1, none⟩) (by exact hgp)).trans k1⟩
  have KK := Lib.hid kk
  obtain ⟨p0, p1⟩ := kk w2 a2
  have hp2 : Le (gp + 1) w2 := ⟨Nat.le_trans hgp a2.below.size⟩
  have HO0 := Lib.hid hown0
  have R1 := Lib.hid (X1.out.here w2 (k := after_after hw a2))
  have sz2 := a2.below.size
  clear hown0 kk k0 k1
  go_wp2_with fail
  refine wp_loop_rounds 3 ?_
  rw [rounds_succ]
  go_wp2_with (at_builtin; go_loud (refine wpList_append_any _ rfl (.tmp 31) (.tmp 32) 26 rfl w.heap.size 3 i0 (.int .i64 0) 1 8 Tryd.underlying26 hi hz0 hz1 hz2 rfl (by omega) (.slice A0 0 c0) 0 [] rfl HO0.out w2.heap.size A1 l1.length c1 (iv l1) rfl R1.out.reads ?c2 ?c3 ?c4 ?c5 ?_))
  case c2 => intro u hu; simp only [iv, List.mem_map] at hu; obtain ⟨b, _, rfl⟩ := hu; rfl
  case c3 => unfold maxLen; omega
  case c4 => omega
  case c5 => omega
  intro v3 w3 hown3 hgr3 _
  have a3 : After w w3 := after_grown_ (w0 := w) (h := a2) HO0.out (Nat.le_refl _) hgr3
  try rw [Nat.zero_add, List.nil_append] at hown3
  obtain ⟨A3, c3, rfl, hc3, hc3'⟩ := own_slice hown3
  obtain ⟨q0, q1⟩ := KK.out w3 a3
  have hp3 : Le (gp + 1) w3 := ⟨Nat.le_trans hgp a3.below.size⟩
  have HO3 := Lib.hid hown3
  have R2 := Lib.hid (X2.out.here w3 (k := after_after hw a3))
  have sz3 := a3.below.size
  clear hown3 hgr3 p0 p1
  go_wp2_with fail
  rw [rounds_succ]
  go_wp2_with (at_builtin; go_loud (refine wpList_append_any _ rfl (.tmp 31) (.tmp 32) 26 rfl w.heap.size 3 i0 (.int .i64 0) 1 8 Tryd.underlying26 hi hz0 hz1 hz2 rfl (by omega) (.slice A3 l1.length c3) l1.length (iv l1) rfl HO3.out w3.heap.size A2 l2.length c2 (iv l2) rfl R2.out.reads ?d2 ?d3 ?d4 ?d5 ?_))
  case d2 => intro u hu; simp only [iv, List.mem_map] at hu; obtain ⟨b, _, rfl⟩ := hu; rfl
  case d3 => unfold maxLen; omega
  case d4 => omega
  case d5 => omega
  intro v4 w4 hown4 hgr4 _
  have a4 : After w w4 := after_grown_ (w0 := w) (h := a3) HO3.out (Nat.le_refl _) hgr4
  have e4 : (l1 ++ l2).length = l1.length + l2.length := List.length_append
  have e5 : iv (l1 ++ l2) = iv l1 ++ iv l2 := by simp [iv]
  rw [← e4, ← e5] at hown4
  obtain ⟨A4, c4, rfl, hc4, hc4'⟩ := own_slice hown4
  have HO4 := Lib.hid hown4
  clear hown4 hgr4
  go_wp2_with fail
  rw [rounds_succ]
  go_wp2_with fail
  go_ret
  exact ⟨A4, c4, rfl, ⟨Reads.of_own HO4.out, hc4, hc4', by rw [e4]; omega⟩, a4⟩
end Go.Proofs.YtgmojjdojcmnaaaDoor
