/-
  Contract of the reference: form (printed by gen_rform.py).
-/
import Derived.Test.YtgmojjdojcmnaaaDoorIRb
import Derived.BigQuiet
import Derived.Test.YtgmojjdojcmnaaaDoorIOne
set_option linter.unusedVariables false
set_option linter.unusedSimpArgs false
namespace Go.Proofs.YtgmojjdojcmnaaaDoor
open Go.RowKit Go.BigFrame

def hasB (op : Int) (j : Nat) : Bool := (fS op).data.toList.any (fun x => x == UInt8.ofNat (65 + j))
def endB (i : Ins) (at_ code : Int) : Bool :=
  if i.op = 5 then (i.c == 1 || i.c == 2) else if i.op = 6 then decide (3 ≤ i.d) && decide (i.d ≤ 16) else if i.op = 7 ∨ i.op = 8 then decide (at_ < i.b) && decide (i.b ≤ code) else true
theorem form_good {op a b c d at_ code : Int} (ho : 1 ≤ op ∧ op ≤ 10) (h : ∀ j, j < 4 → hasB op j = true ∨ [a, b, c, d].getD j 0 = 0) : formB ⟨op, a, b, c, d⟩ at_ code = endB ⟨op, a, b, c, d⟩ at_ code := by
  have hc : op = 1 ∨ op = 2 ∨ op = 3 ∨ op = 4 ∨ op = 5 ∨ op = 6 ∨ op = 7 ∨ op = 8 ∨ op = 9 ∨ op = 10 := by omega
  clear ho
  rcases hc with rfl | rfl | rfl | rfl | rfl | rfl | rfl | rfl | rfl | rfl
  · have e2 : c = 0 := (h 2 (by omega)).resolve_left (by decide)
    have e3 : d = 0 := (h 3 (by omega)).resolve_left (by decide)
    subst e2
    subst e3
    simp [formB, endB]
  · have e2 : c = 0 := (h 2 (by omega)).resolve_left (by decide)
    have e3 : d = 0 := (h 3 (by omega)).resolve_left (by decide)
    subst e2
    subst e3
    simp [formB, endB]
  · have e2 : c = 0 := (h 2 (by omega)).resolve_left (by decide)
    have e3 : d = 0 := (h 3 (by omega)).resolve_left (by decide)
    subst e2
    subst e3
    simp [formB, endB]
  · have e2 : c = 0 := (h 2 (by omega)).resolve_left (by decide)
    have e3 : d = 0 := (h 3 (by omega)).resolve_left (by decide)
    subst e2
    subst e3
    simp [formB, endB]
  · have e3 : d = 0 := (h 3 (by omega)).resolve_left (by decide)
    subst e3
    simp [formB, endB]
  · simp [formB, endB]
  · have e0 : a = 0 := (h 0 (by omega)).resolve_left (by decide)
    have e2 : c = 0 := (h 2 (by omega)).resolve_left (by decide)
    have e3 : d = 0 := (h 3 (by omega)).resolve_left (by decide)
    subst e0
    subst e2
    subst e3
    simp [formB, endB]
  · have e2 : c = 0 := (h 2 (by omega)).resolve_left (by decide)
    have e3 : d = 0 := (h 3 (by omega)).resolve_left (by decide)
    subst e2
    subst e3
    simp [formB, endB]
  · simp [formB, endB]
  · have e2 : c = 0 := (h 2 (by omega)).resolve_left (by decide)
    have e3 : d = 0 := (h 3 (by omega)).resolve_left (by decide)
    subst e2
    subst e3
    simp [formB, endB]
theorem form_miss {op a b c d at_ code : Int} (ho : 1 ≤ op ∧ op ≤ 10) {j : Nat} (hj : j < 4) (h : hasB op j = false) (hx : [a, b, c, d].getD j 0 ≠ 0) : formB ⟨op, a, b, c, d⟩ at_ code = false := by
  have hc : op = 1 ∨ op = 2 ∨ op = 3 ∨ op = 4 ∨ op = 5 ∨ op = 6 ∨ op = 7 ∨ op = 8 ∨ op = 9 ∨ op = 10 := by omega
  have hc2 : j = 0 ∨ j = 1 ∨ j = 2 ∨ j = 3 := by omega
  clear ho hj
  rcases hc with rfl | rfl | rfl | rfl | rfl | rfl | rfl | rfl | rfl | rfl <;> rcases hc2 with rfl | rfl | rfl | rfl
  all_goals
    first
      | exact absurd h (by decide)
      | (simp at hx; simp [formB, hx])

set_option maxRecDepth 100000 in
set_option maxHeartbeats 8000000 in
theorem rform_in (w : World) (op a b c d at_ code : Int) (ho : 1 ≤ op ∧ op ≤ 10) :
    Calls Tryd.prog 54 #[.agg #[.int .i64 op, .int .i64 a, .int .i64 b, .int .i64 c, .int .i64 d], .int .i64 at_, .int .i64 code] w fun e w' => e = .returned (.bool (formB ⟨op, a, b, c, d⟩ at_ code)) ∧ After w w' := by
  obtain ⟨R, hR⟩ : ∃ R, formB ⟨op, a, b, c, d⟩ at_ code = R := ⟨_, rfl⟩
  have HG : Hid ((∀ j, j < 4 → hasB op j = true ∨ [a, b, c, d].getD j 0 = 0) → R = endB ⟨op, a, b, c, d⟩ at_ code) := fun h => by rw [← hR]; exact form_good ho h
  have HM : Hid (∀ j, j < 4 → hasB op j = false → [a, b, c, d].getD j 0 ≠ 0 → R = false) := fun j hj h hx => by rw [← hR]; exact form_miss ho hj h hx
  rw [hR]
  clear hR
  obtain ⟨S, hS⟩ : ∃ S, fS op = S := ⟨_, rfl⟩
  have hsz : S.size ≤ 4 := by rw [← hS]; unfold fS; split; decide; split; decide; split; decide; decide
  have HF : Hid (∀ U : World, Calls Tryd.prog 65 #[.int .i64 op] U fun e w' => e = .returned (.string S) ∧ ∃ z, w' = U.more z) := fun U => (rfields_any U op ho).mono fun e w_ h_ => ⟨by rw [← hS]; exact h_.1, have := h_.2; After.is_more _ _⟩
  have HB : Hid (∀ j : Nat, hasB op j = S.data.toList.any (fun x => x == UInt8.ofNat (65 + j))) := fun j => by unfold hasB; rw [hS]
  obtain ⟨b0, hb0⟩ : ∃ q, hasB op 0 = q := ⟨_, rfl⟩
  have HB0 := Lib.hid hb0
  have HH0 : Hid (∀ U : World, Calls Tryd.prog 64 #[.string S, .int .u8 65] U fun e w' => e = .returned (.bool b0) ∧ ∃ z, w' = U.more z) := fun U => by
    have h1 := rhas_any S 65 (by omega) U
    refine Calls.mono (show Calls Tryd.prog 64 #[.string S, .int .u8 65] U _ from h1) fun e w_ h_ => ⟨?_, by rw [h_.2]; exact After.is_more _ _⟩
    rw [← hb0, HB.out 0]; exact h_.1
  clear hb0
  have HD0 : Hid (∀ U : World, Calls Tryd.prog 66 #[.agg #[.int .i64 op, .int .i64 a, .int .i64 b, .int .i64 c, .int .i64 d], .int .u8 65] U fun e w' => e = .returned (.int .i64 a) ∧ ∃ z, w' = U.more z) := fun U => (rfield_any U op a b c d 0 (by omega)).mono fun e w_ h_ => ⟨h_.1, have := h_.2; After.is_more _ _⟩
  obtain ⟨b1, hb1⟩ : ∃ q, hasB op 1 = q := ⟨_, rfl⟩
  have HB1 := Lib.hid hb1
  have HH1 : Hid (∀ U : World, Calls Tryd.prog 64 #[.string S, .int .u8 66] U fun e w' => e = .returned (.bool b1) ∧ ∃ z, w' = U.more z) := fun U => by
    have h1 := rhas_any S 66 (by omega) U
    refine Calls.mono (show Calls Tryd.prog 64 #[.string S, .int .u8 66] U _ from h1) fun e w_ h_ => ⟨?_, by rw [h_.2]; exact After.is_more _ _⟩
    rw [← hb1, HB.out 1]; exact h_.1
  clear hb1
  have HD1 : Hid (∀ U : World, Calls Tryd.prog 66 #[.agg #[.int .i64 op, .int .i64 a, .int .i64 b, .int .i64 c, .int .i64 d], .int .u8 66] U fun e w' => e = .returned (.int .i64 b) ∧ ∃ z, w' = U.more z) := fun U => (rfield_any U op a b c d 1 (by omega)).mono fun e w_ h_ => ⟨h_.1, have := h_.2; After.is_more _ _⟩
  obtain ⟨b2, hb2⟩ : ∃ q, hasB op 2 = q := ⟨_, rfl⟩
  have HB2 := Lib.hid hb2
  have HH2 : Hid (∀ U : World, Calls Tryd.prog 64 #[.string S, .int .u8 67] U fun e w' => e = .returned (.bool b2) ∧ ∃ z, w' = U.more z) := fun U => by
    have h1 := rhas_any S 67 (by omega) U
    refine Calls.mono (show Calls Tryd.prog 64 #[.string S, .int .u8 67] U _ from h1) fun e w_ h_ => ⟨?_, by rw [h_.2]; exact After.is_more _ _⟩
    rw [← hb2, HB.out 2]; exact h_.1
  clear hb2
  have HD2 : Hid (∀ U : World, Calls Tryd.prog 66 #[.agg #[.int .i64 op, .int .i64 a, .int .i64 b, .int .i64 c, .int .i64 d], .int .u8 67] U fun e w' => e = .returned (.int .i64 c) ∧ ∃ z, w' = U.more z) := fun U => (rfield_any U op a b c d 2 (by omega)).mono fun e w_ h_ => ⟨h_.1, have := h_.2; After.is_more _ _⟩
  obtain ⟨b3, hb3⟩ : ∃ q, hasB op 3 = q := ⟨_, rfl⟩
  have HB3 := Lib.hid hb3
  have HH3 : Hid (∀ U : World, Calls Tryd.prog 64 #[.string S, .int .u8 68] U fun e w' => e = .returned (.bool b3) ∧ ∃ z, w' = U.more z) := fun U => by
    have h1 := rhas_any S 68 (by omega) U
    refine Calls.mono (show Calls Tryd.prog 64 #[.string S, .int .u8 68] U _ from h1) fun e w_ h_ => ⟨?_, by rw [h_.2]; exact After.is_more _ _⟩
    rw [← hb3, HB.out 3]; exact h_.1
  clear hb3
  have HD3 : Hid (∀ U : World, Calls Tryd.prog 66 #[.agg #[.int .i64 op, .int .i64 a, .int .i64 b, .int .i64 c, .int .i64 d], .int .u8 68] U fun e w' => e = .returned (.int .i64 d) ∧ ∃ z, w' = U.more z) := fun U => (rfield_any U op a b c d 3 (by omega)).mono fun e w_ h_ => ⟨h_.1, have := h_.2; After.is_more _ _⟩
  have o1 : ¬ (op < 1) := by omega
  have o2 : ¬ (10 < op) := by omega
  clear hS
  obtain ⟨W1, hW1, HK, a1⟩ : ∃ W1, w.alloc (.cells #[.int .i64 op, .int .i64 a, .int .i64 b, .int .i64 c, .int .i64 d] 61) = W1 ∧ Hid (∀ U : World, After W1 U → U.cell? ⟨w.heap.size, 0, none⟩ = some (.int .i64 op) ∧ U.cell? ⟨w.heap.size, 1, none⟩ = some (.int .i64 a) ∧ U.cell? ⟨w.heap.size, 2, none⟩ = some (.int .i64 b) ∧ U.cell? ⟨w.heap.size, 3, none⟩ = some (.int .i64 c) ∧ U.cell? ⟨w.heap.size, 4, none⟩ = some (.int .i64 d) ∧ Le (w.heap.size + 1) U) ∧ After w W1 := by
    refine ⟨_, rfl, fun U hU => ?_, inferInstance⟩
    have y0 := (Blk.new w 61 #[.int .i64 op, .int .i64 a, .int .i64 b, .int .i64 c, .int .i64 d]).after (w' := U)
    exact ⟨by rw [y0.cell]; rfl, by rw [y0.cell]; rfl, by rw [y0.cell]; rfl, by rw [y0.cell]; rfl, by rw [y0.cell]; rfl, y0.is_le⟩
  obtain ⟨g8, hg8⟩ : ∃ g8, w.heap.size = g8 := ⟨_, rfl⟩
  rw [hg8] at HK
  obtain ⟨k0, k1, k2, k3, k4, k5⟩ := HK.out W1 inferInstance
  go_enter Tryd.func54, Tryd.ntmps54
  go_wp2_with fail
  try rw [hW1]
  try rw [hg8]
  clear hW1 hg8
  go_loopw [8] (fun i wr => ∃ k : Nat, k ≤ 4 ∧ i = .int .i64 (k : Nat) ∧ Hid (∀ j, j < k → hasB op j = true ∨ [a, b, c, d].getD j 0 = 0) ∧ After W1 wr) (fun i _ => 4 - (intOf i).toNat)
  case atStart => exact ⟨0, by omega, rfl, fun j h => by omega, inferInstance⟩
  case round =>
    obtain ⟨k, hk, rfl, HJ, ar⟩ := hrel
    have dr : After w wr := after_after a1 ar
    clear k0 k1 k2 k3 k4 k5
    obtain ⟨k0, k1, k2, k3, k4, k5⟩ := HK.out wr ar
    have hkc : k = 0 ∨ k = 1 ∨ k = 2 ∨ k = 3 ∨ k = 4 := by omega
    rcases hkc with rfl | rfl | rfl | rfl | rfl
    · cases b0 with
      | true =>
        have HN : Hid (∀ j, j < 1 → hasB op j = true ∨ [a, b, c, d].getD j 0 = 0) := fun i hi => by
          rcases Nat.lt_or_ge i 0 with h | h
          · exact HJ.out i h
          · obtain rfl : i = 0 := by omega
            exact .inl HB0.out
        go_wp2_with fail
        refine wp_region_more (by kernel_rfl) (by kernel_rfl) ?_
        repeat (go_big_quiet_step ((first | (go_at_call 65; exact Calls.more_of (HF.out _)) | (go_at_call 64; exact Calls.more_of (HH0.out _)) | (go_at_call 66; exact Calls.more_of (HD0.out _)))))
        refine wpQuiet_nil ?_
        rintro _ ⟨y5, rfl⟩
        obtain ⟨v5, hv5⟩ : ∃ v, wr.more y5 = v := ⟨_, rfl⟩
        have av5 : After wr v5 := by rw [← hv5]; infer_instance
        rw [hv5]
        clear hv5
        have a5 : After W1 v5 := after_after ar av5
        have d5 : After w v5 := after_after a1 a5
        go_wp2_with fail
        go_roundw
        case rel => exact ⟨1, by omega, by go_num, HN, a5⟩
        case measure => simp only [intOf]; omega
      | false =>
        by_cases hx : a = 0
        · have b9 : (a == 0) = true := by rw [beq_iff_eq]; exact hx
          have b8 : (a != 0) = false := by rw [bne, b9]; rfl
          have HN : Hid (∀ j, j < 1 → hasB op j = true ∨ [a, b, c, d].getD j 0 = 0) := fun i hi => by
            rcases Nat.lt_or_ge i 0 with h | h
            · exact HJ.out i h
            · obtain rfl : i = 0 := by omega
              exact .inr hx
          clear hx
          go_wp2_with fail
          refine wp_region_more (by kernel_rfl) (by kernel_rfl) ?_
          repeat (go_big_quiet_step ((first | (go_at_call 65; exact Calls.more_of (HF.out _)) | (go_at_call 64; exact Calls.more_of (HH0.out _)) | (go_at_call 66; exact Calls.more_of (HD0.out _)))))
          refine wpQuiet_nil ?_
          rintro _ ⟨y5, rfl⟩
          obtain ⟨v5, hv5⟩ : ∃ v, wr.more y5 = v := ⟨_, rfl⟩
          have av5 : After wr v5 := by rw [← hv5]; infer_instance
          rw [hv5]
          clear hv5
          have a5 : After W1 v5 := after_after ar av5
          have d5 : After w v5 := after_after a1 a5
          go_wp2_with fail
          go_roundw
          case rel => exact ⟨1, by omega, by go_num, HN, a5⟩
          case measure => simp only [intOf]; omega
        · have b9 : (a == 0) = false := by rw [beq_eq_false_iff_ne]; exact hx
          have b8 : (a != 0) = true := by rw [bne, b9]; rfl
          have HE : Hid (R = false) := HM.out 0 (by omega) HB0.out hx
          clear hx
          go_wp2_with fail
          refine wp_region_more (by kernel_rfl) (by kernel_rfl) ?_
          repeat (go_big_quiet_step ((first | (go_at_call 65; exact Calls.more_of (HF.out _)) | (go_at_call 64; exact Calls.more_of (HH0.out _)) | (go_at_call 66; exact Calls.more_of (HD0.out _)))))
          refine wpQuiet_nil ?_
          rintro _ ⟨y5, rfl⟩
          obtain ⟨v5, hv5⟩ : ∃ v, wr.more y5 = v := ⟨_, rfl⟩
          have av5 : After wr v5 := by rw [← hv5]; infer_instance
          rw [hv5]
          clear hv5
          have a5 : After W1 v5 := after_after ar av5
          have d5 : After w v5 := after_after a1 a5
          go_wp2_with fail
          go_ret
          exact ⟨by rw [HE.out]; rfl, d5⟩
    · cases b1 with
      | true =>
        have HN : Hid (∀ j, j < 2 → hasB op j = true ∨ [a, b, c, d].getD j 0 = 0) := fun i hi => by
          rcases Nat.lt_or_ge i 1 with h | h
          · exact HJ.out i h
          · obtain rfl : i = 1 := by omega
            exact .inl HB1.out
        go_wp2_with fail
        refine wp_region_more (by kernel_rfl) (by kernel_rfl) ?_
        repeat (go_big_quiet_step ((first | (go_at_call 65; exact Calls.more_of (HF.out _)) | (go_at_call 64; exact Calls.more_of (HH1.out _)) | (go_at_call 66; exact Calls.more_of (HD1.out _)))))
        refine wpQuiet_nil ?_
        rintro _ ⟨y5, rfl⟩
        obtain ⟨v5, hv5⟩ : ∃ v, wr.more y5 = v := ⟨_, rfl⟩
        have av5 : After wr v5 := by rw [← hv5]; infer_instance
        rw [hv5]
        clear hv5
        have a5 : After W1 v5 := after_after ar av5
        have d5 : After w v5 := after_after a1 a5
        go_wp2_with fail
        go_roundw
        case rel => exact ⟨2, by omega, by go_num, HN, a5⟩
        case measure => simp only [intOf]; omega
      | false =>
        by_cases hx : b = 0
        · have b9 : (b == 0) = true := by rw [beq_iff_eq]; exact hx
          have b8 : (b != 0) = false := by rw [bne, b9]; rfl
          have HN : Hid (∀ j, j < 2 → hasB op j = true ∨ [a, b, c, d].getD j 0 = 0) := fun i hi => by
            rcases Nat.lt_or_ge i 1 with h | h
            · exact HJ.out i h
            · obtain rfl : i = 1 := by omega
              exact .inr hx
          clear hx
          go_wp2_with fail
          refine wp_region_more (by kernel_rfl) (by kernel_rfl) ?_
          repeat (go_big_quiet_step ((first | (go_at_call 65; exact Calls.more_of (HF.out _)) | (go_at_call 64; exact Calls.more_of (HH1.out _)) | (go_at_call 66; exact Calls.more_of (HD1.out _)))))
          refine wpQuiet_nil ?_
          rintro _ ⟨y5, rfl⟩
          obtain ⟨v5, hv5⟩ : ∃ v, wr.more y5 = v := ⟨_, rfl⟩
          have av5 : After wr v5 := by rw [← hv5]; infer_instance
          rw [hv5]
          clear hv5
          have a5 : After W1 v5 := after_after ar av5
          have d5 : After w v5 := after_after a1 a5
          go_wp2_with fail
          go_roundw
          case rel => exact ⟨2, by omega, by go_num, HN, a5⟩
          case measure => simp only [intOf]; omega
        · have b9 : (b == 0) = false := by rw [beq_eq_false_iff_ne]; exact hx
          have b8 : (b != 0) = true := by rw [bne, b9]; rfl
          have HE : Hid (R = false) := HM.out 1 (by omega) HB1.out hx
          clear hx
          go_wp2_with fail
          refine wp_region_more (by kernel_rfl) (by kernel_rfl) ?_
          repeat (go_big_quiet_step ((first | (go_at_call 65; exact Calls.more_of (HF.out _)) | (go_at_call 64; exact Calls.more_of (HH1.out _)) | (go_at_call 66; exact Calls.more_of (HD1.out _)))))
          refine wpQuiet_nil ?_
          rintro _ ⟨y5, rfl⟩
          obtain ⟨v5, hv5⟩ : ∃ v, wr.more y5 = v := ⟨_, rfl⟩
          have av5 : After wr v5 := by rw [← hv5]; infer_instance
          rw [hv5]
          clear hv5
          have a5 : After W1 v5 := after_after ar av5
          have d5 : After w v5 := after_after a1 a5
          go_wp2_with fail
          go_ret
          exact ⟨by rw [HE.out]; rfl, d5⟩
    · cases b2 with
      | true =>
        have HN : Hid (∀ j, j < 3 → hasB op j = true ∨ [a, b, c, d].getD j 0 = 0) := fun i hi => by
          rcases Nat.lt_or_ge i 2 with h | h
          · exact HJ.out i h
          · obtain rfl : i = 2 := by omega
            exact .inl HB2.out
        go_wp2_with fail
        refine wp_region_more (by kernel_rfl) (by kernel_rfl) ?_
        repeat (go_big_quiet_step ((first | (go_at_call 65; exact Calls.more_of (HF.out _)) | (go_at_call 64; exact Calls.more_of (HH2.out _)) | (go_at_call 66; exact Calls.more_of (HD2.out _)))))
        refine wpQuiet_nil ?_
        rintro _ ⟨y5, rfl⟩
        obtain ⟨v5, hv5⟩ : ∃ v, wr.more y5 = v := ⟨_, rfl⟩
        have av5 : After wr v5 := by rw [← hv5]; infer_instance
        rw [hv5]
        clear hv5
        have a5 : After W1 v5 := after_after ar av5
        have d5 : After w v5 := after_after a1 a5
        go_wp2_with fail
        go_roundw
        case rel => exact ⟨3, by omega, by go_num, HN, a5⟩
        case measure => simp only [intOf]; omega
      | false =>
        by_cases hx : c = 0
        · have b9 : (c == 0) = true := by rw [beq_iff_eq]; exact hx
          have b8 : (c != 0) = false := by rw [bne, b9]; rfl
          have HN : Hid (∀ j, j < 3 → hasB op j = true ∨ [a, b, c, d].getD j 0 = 0) := fun i hi => by
            rcases Nat.lt_or_ge i 2 with h | h
            · exact HJ.out i h
            · obtain rfl : i = 2 := by omega
              exact .inr hx
          clear hx
          go_wp2_with fail
          refine wp_region_more (by kernel_rfl) (by kernel_rfl) ?_
          repeat (go_big_quiet_step ((first | (go_at_call 65; exact Calls.more_of (HF.out _)) | (go_at_call 64; exact Calls.more_of (HH2.out _)) | (go_at_call 66; exact Calls.more_of (HD2.out _)))))
          refine wpQuiet_nil ?_
          rintro _ ⟨y5, rfl⟩
          obtain ⟨v5, hv5⟩ : ∃ v, wr.more y5 = v := ⟨_, rfl⟩
          have av5 : After wr v5 := by rw [← hv5]; infer_instance
          rw [hv5]
          clear hv5
          have a5 : After W1 v5 := after_after ar av5
          have d5 : After w v5 := after_after a1 a5
          go_wp2_with fail
          go_roundw
          case rel => exact ⟨3, by omega, by go_num, HN, a5⟩
          case measure => simp only [intOf]; omega
        · have b9 : (c == 0) = false := by rw [beq_eq_false_iff_ne]; exact hx
          have b8 : (c != 0) = true := by rw [bne, b9]; rfl
          have HE : Hid (R = false) := HM.out 2 (by omega) HB2.out hx
          clear hx
          go_wp2_with fail
          refine wp_region_more (by kernel_rfl) (by kernel_rfl) ?_
          repeat (go_big_quiet_step ((first | (go_at_call 65; exact Calls.more_of (HF.out _)) | (go_at_call 64; exact Calls.more_of (HH2.out _)) | (go_at_call 66; exact Calls.more_of (HD2.out _)))))
          refine wpQuiet_nil ?_
          rintro _ ⟨y5, rfl⟩
          obtain ⟨v5, hv5⟩ : ∃ v, wr.more y5 = v := ⟨_, rfl⟩
          have av5 : After wr v5 := by rw [← hv5]; infer_instance
          rw [hv5]
          clear hv5
          have a5 : After W1 v5 := after_after ar av5
          have d5 : After w v5 := after_after a1 a5
          go_wp2_with fail
          go_ret
          exact ⟨by rw [HE.out]; rfl, d5⟩
    · cases b3 with
      | true =>
        have HN : Hid (∀ j, j < 4 → hasB op j = true ∨ [a, b, c, d].getD j 0 = 0) := fun i hi => by
          rcases Nat.lt_or_ge i 3 with h | h
          · exact HJ.out i h
          · obtain rfl : i = 3 := by omega
            exact .inl HB3.out
        go_wp2_with fail
        refine wp_region_more (by kernel_rfl) (by kernel_rfl) ?_
        repeat (go_big_quiet_step ((first | (go_at_call 65; exact Calls.more_of (HF.out _)) | (go_at_call 64; exact Calls.more_of (HH3.out _)) | (go_at_call 66; exact Calls.more_of (HD3.out _)))))
        refine wpQuiet_nil ?_
        rintro _ ⟨y5, rfl⟩
        obtain ⟨v5, hv5⟩ : ∃ v, wr.more y5 = v := ⟨_, rfl⟩
        have av5 : After wr v5 := by rw [← hv5]; infer_instance
        rw [hv5]
        clear hv5
        have a5 : After W1 v5 := after_after ar av5
        have d5 : After w v5 := after_after a1 a5
        go_wp2_with fail
        go_roundw
        case rel => exact ⟨4, by omega, by go_num, HN, a5⟩
        case measure => simp only [intOf]; omega
      | false =>
        by_cases hx : d = 0
        · have b9 : (d == 0) = true := by rw [beq_iff_eq]; exact hx
          have b8 : (d != 0) = false := by rw [bne, b9]; rfl
          have HN : Hid (∀ j, j < 4 → hasB op j = true ∨ [a, b, c, d].getD j 0 = 0) := fun i hi => by
            rcases Nat.lt_or_ge i 3 with h | h
            · exact HJ.out i h
            · obtain rfl : i = 3 := by omega
              exact .inr hx
          clear hx
          go_wp2_with fail
          refine wp_region_more (by kernel_rfl) (by kernel_rfl) ?_
          repeat (go_big_quiet_step ((first | (go_at_call 65; exact Calls.more_of (HF.out _)) | (go_at_call 64; exact Calls.more_of (HH3.out _)) | (go_at_call 66; exact Calls.more_of (HD3.out _)))))
          refine wpQuiet_nil ?_
          rintro _ ⟨y5, rfl⟩
          obtain ⟨v5, hv5⟩ : ∃ v, wr.more y5 = v := ⟨_, rfl⟩
          have av5 : After wr v5 := by rw [← hv5]; infer_instance
          rw [hv5]
          clear hv5
          have a5 : After W1 v5 := after_after ar av5
          have d5 : After w v5 := after_after a1 a5
          go_wp2_with fail
          go_roundw
          case rel => exact ⟨4, by omega, by go_num, HN, a5⟩
          case measure => simp only [intOf]; omega
        · have b9 : (d == 0) = false := by rw [beq_eq_false_iff_ne]; exact hx
          have b8 : (d != 0) = true := by rw [bne, b9]; rfl
          have HE : Hid (R = false) := HM.out 3 (by omega) HB3.out hx
          clear hx
          go_wp2_with fail
          refine wp_region_more (by kernel_rfl) (by kernel_rfl) ?_
          repeat (go_big_quiet_step ((first | (go_at_call 65; exact Calls.more_of (HF.out _)) | (go_at_call 64; exact Calls.more_of (HH3.out _)) | (go_at_call 66; exact Calls.more_of (HD3.out _)))))
          refine wpQuiet_nil ?_
          rintro _ ⟨y5, rfl⟩
          obtain ⟨v5, hv5⟩ : ∃ v, wr.more y5 = v := ⟨_, rfl⟩
          have av5 : After wr v5 := by rw [← hv5]; infer_instance
          rw [hv5]
          clear hv5
          have a5 : After W1 v5 := after_after ar av5
          have d5 : After w v5 := after_after a1 a5
          go_wp2_with fail
          go_ret
          exact ⟨by rw [HE.out]; rfl, d5⟩
    · have HE : Hid (R = endB ⟨op, a, b, c, d⟩ at_ code) := HG.out HJ.out
      have hcs : op = 5 ∨ op = 6 ∨ op = 7 ∨ op = 8 ∨ (op ≠ 5 ∧ op ≠ 6 ∧ op ≠ 7 ∧ op ≠ 8) := by omega
      have hfin : ∀ q : Bool, endB ⟨op, a, b, c, d⟩ at_ code = q → Hid (R = q) := fun q h => HE.out.trans h
      clear HM HG HJ HE HB
      rcases hcs with rfl | rfl | rfl | rfl | ⟨h5, h6, h7, h8⟩
      · have t6 : ((5 : Int) == 6) = false := rfl
        by_cases h1 : c = 1
        · subst h1
          have HQ := hfin true (by unfold endB; simp)
          clear hfin
          go_wp2_with fail
          go_ret
          exact ⟨by rw [HQ.out]; rfl, dr⟩
        · have c1 : (c == 1) = false := by rw [beq_eq_false_iff_ne]; exact h1
          by_cases h2 : c = 2
          · subst h2
            have HQ := hfin true (by unfold endB; simp)
            clear hfin
            go_wp2_with fail
            go_ret
            exact ⟨by rw [HQ.out]; rfl, dr⟩
          · have c2 : (c == 2) = false := by rw [beq_eq_false_iff_ne]; exact h2
            have HQ := hfin false (by unfold endB; simp [c1, c2])
            clear h1 h2
            clear hfin
            go_wp2_with fail
            go_ret
            exact ⟨by rw [HQ.out]; rfl, dr⟩
      · by_cases h1 : 3 ≤ d
        · by_cases h2 : d ≤ 16
          · have HQ := hfin true (by unfold endB; simp [h1, h2])
            clear hfin
            go_wp2_with fail
            go_ret
            exact ⟨by rw [HQ.out]; rfl, dr⟩
          · have HQ := hfin false (by unfold endB; simp [h1, h2])
            clear hfin
            go_wp2_with fail
            go_ret
            exact ⟨by rw [HQ.out]; rfl, dr⟩
        · have HQ := hfin false (by unfold endB; simp [h1])
          clear hfin
          go_wp2_with fail
          go_ret
          exact ⟨by rw [HQ.out]; rfl, dr⟩
      · by_cases h1 : at_ < b
        · by_cases h2 : b ≤ code
          · have HQ := hfin true (by unfold endB; simp [h1, h2])
            clear hfin
            go_wp2_with fail
            go_ret
            exact ⟨by rw [HQ.out]; rfl, dr⟩
          · have HQ := hfin false (by unfold endB; simp [h1, h2])
            clear hfin
            go_wp2_with fail
            go_ret
            exact ⟨by rw [HQ.out]; rfl, dr⟩
        · have HQ := hfin false (by unfold endB; simp [h1])
          clear hfin
          go_wp2_with fail
          go_ret
          exact ⟨by rw [HQ.out]; rfl, dr⟩
      · by_cases h1 : at_ < b
        · by_cases h2 : b ≤ code
          · have HQ := hfin true (by unfold endB; simp [h1, h2])
            clear hfin
            go_wp2_with fail
            go_ret
            exact ⟨by rw [HQ.out]; rfl, dr⟩
          · have HQ := hfin false (by unfold endB; simp [h1, h2])
            clear hfin
            go_wp2_with fail
            go_ret
            exact ⟨by rw [HQ.out]; rfl, dr⟩
        · have HQ := hfin false (by unfold endB; simp [h1])
          clear hfin
          go_wp2_with fail
          go_ret
          exact ⟨by rw [HQ.out]; rfl, dr⟩
      · have c5 : (op == 5) = false := by rw [beq_eq_false_iff_ne]; exact h5
        have c6 : (op == 6) = false := by rw [beq_eq_false_iff_ne]; exact h6
        have c7 : (op == 7) = false := by rw [beq_eq_false_iff_ne]; exact h7
        have c8 : (op == 8) = false := by rw [beq_eq_false_iff_ne]; exact h8
        have HQ := hfin true (by unfold endB; simp [h5, h6, h7, h8])
        clear h5 h6 h7 h8 hfin
        go_wp2_with fail
        go_ret
        exact ⟨by rw [HQ.out]; rfl, dr⟩

theorem rform_any (w : World) (op a b c d at_ code : Int) :
    Calls Tryd.prog 54 #[.agg #[.int .i64 op, .int .i64 a, .int .i64 b, .int .i64 c, .int .i64 d], .int .i64 at_, .int .i64 code] w fun e w' => e = .returned (.bool (formB ⟨op, a, b, c, d⟩ at_ code)) ∧ After w w' := by
  by_cases h1 : op < 1
  · rw [formB_bad (i := ⟨op, a, b, c, d⟩) (.inl h1)]
    go_enter Tryd.func54, Tryd.ntmps54
    go_wp2_with fail
    go_ret
    exact ⟨rfl, inferInstance⟩
  · by_cases h2 : 10 < op
    · rw [formB_bad (i := ⟨op, a, b, c, d⟩) (.inr h2)]
      go_enter Tryd.func54, Tryd.ntmps54
      go_wp2_with fail
      go_ret
      exact ⟨rfl, inferInstance⟩
    · exact rform_in w op a b c d at_ code (by omega)
end Go.Proofs.YtgmojjdojcmnaaaDoor
