/-
  Contracts: Weigh of the reference (some number), heavy (some truth value).
-/
import Derived.Test.YtgmojjdojcmnaaaDoorIMem
set_option linter.unusedVariables false
set_option linter.unusedSimpArgs false
namespace Go.Proofs.YtgmojjdojcmnaaaDoor
open Go.RowKit Go.BigFrame

set_option maxRecDepth 100000 in
set_option maxHeartbeats 3200000 in
theorem weigh_any {w0 : World} {A c A' c' m} (x : RIm w0 A c A' c' m) (w : World) (hw : After w0 w) (most : Int) :
    Calls Tryd.prog 33 #[.agg #[.slice A m.enums.length c, .slice A' m.rts.length c'], .int .i64 most] w fun e w' => (∃ z : Int, e = .returned (.int .i64 z)) ∧ After w w' := by
  have X := Lib.hid x
  have hl1 := x.enums.len
  have hl2 := x.rts.len
  have hE1 : ((m.enums.length : Nat) : Int) ≤ 140737488355328 := by omega
  have hE2 : ((m.rts.length : Nat) : Int) ≤ 140737488355328 := by omega
  obtain ⟨W1, hW1, HK, a1⟩ : ∃ W1, w.alloc (.cells #[.slice A m.enums.length c, .slice A' m.rts.length c'] 29) = W1 ∧ Hid (∀ U : World, After W1 U → U.cell? ⟨w.heap.size, 0, none⟩ = some (.slice A m.enums.length c) ∧ U.cell? ⟨w.heap.size, 1, none⟩ = some (.slice A' m.rts.length c') ∧ Le (w.heap.size + 1) U) ∧ After w W1 := by
    refine ⟨_, rfl, fun U hU => ?_, inferInstance⟩
    have y0 := (Blk.new w 29 #[.slice A m.enums.length c, .slice A' m.rts.length c']).after (w' := U)
    exact ⟨by rw [y0.cell]; rfl, by rw [y0.cell]; rfl, y0.is_le⟩
  clear x
  obtain ⟨k0, k1, k2⟩ := HK.out W1 inferInstance
  go_enter Tryd.func33, Tryd.ntmps33
  go_wp2_with fail
  go_loopw [5, 6] (fun n i wr => ∃ (k : Nat) (z : Int), k ≤ m.rts.length ∧ n = .int .i64 z ∧ i = .int .i64 (k : Nat) ∧ After W1 wr) (fun _ i _ => m.rts.length - (intOf i).toNat)
  case atStart => exact ⟨0, _, by omega, rfl, rfl, by first | (rw [hW1]; infer_instance) | infer_instance⟩
  case round =>
    obtain ⟨k, z, hk, rfl, rfl, ar⟩ := hrel
    have dr : After w wr := after_after a1 ar
    clear k0 k1 k2
    obtain ⟨k0, k1, k2⟩ := HK.out wr ar
    by_cases hlt : k < m.rts.length
    · have hltI : (k : Int) < (m.rts.length : Int) := by omega
      by_cases hz : z < most
      · obtain ⟨b, p, s, A1, c1, A2, c2, A3, c3, A4, c4, r, rfl, hle, HX, HR, e0, e1, e2, e3, e4, e5⟩ := (X.out.rts.here wr (k := after_after hw dr)).part (i := k) hlt
        go_wp2_with fail
        go_round
        case rel => exact ⟨k + 1, _, by omega, rfl, by go_num, inferInstance⟩
        case measure => simp only [intOf]; omega
      · go_wp2_with fail
        go_ret
        exact ⟨⟨_, rfl⟩, dr⟩
    · go_wp2_with fail
      go_ret
      exact ⟨⟨_, rfl⟩, dr⟩
set_option maxHeartbeats 1600000 in
theorem heavy_any {w0 : World} {A c A' c' m} (x : RIm w0 A c A' c' m) (w : World) (hw : After w0 w) :
    Calls Tryd.prog 16 #[.agg #[.slice A m.enums.length c, .slice A' m.rts.length c']] w fun e w' => (∃ b : Bool, e = .returned (.bool b)) ∧ After w w' := by
  obtain ⟨W1, hW1, k0, k1, a1, k2⟩ : ∃ W1, w.alloc (.cells #[.slice A m.enums.length c, .slice A' m.rts.length c'] 29) = W1 ∧ W1.cell? ⟨w.heap.size, 0, none⟩ = some (.slice A m.enums.length c) ∧ W1.cell? ⟨w.heap.size, 1, none⟩ = some (.slice A' m.rts.length c') ∧ After w W1 ∧ Le (w.heap.size + 1) W1 := by
    have y0 := Blk.new w 29 #[.slice A m.enums.length c, .slice A' m.rts.length c']
    exact ⟨_, rfl, by rw [y0.cell]; rfl, by rw [y0.cell]; rfl, inferInstance, y0.is_le⟩
  have HW := Lib.hid (weigh_any x W1 (after_after hw a1) 1500)
  go_enter Tryd.func16, Tryd.ntmps16
  go_wp2_with fail
  try rw [hW1]
  clear hW1
  refine HW.out.mono ?_
  rintro e w2 ⟨⟨z, rfl⟩, a2⟩
  go_wp2_with fail
  go_ret
  exact ⟨⟨_, rfl⟩, after_after a1 a2⟩
end Go.Proofs.YtgmojjdojcmnaaaDoor
