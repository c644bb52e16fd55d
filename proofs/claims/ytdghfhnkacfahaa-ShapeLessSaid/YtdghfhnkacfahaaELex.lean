/-
  Contracts: identifiers of the program and of the reference.
-/
import Derived.Test.YtdghfhnkacfahaaELet
set_option linter.unusedVariables false
set_option linter.unusedSimpArgs false
namespace Go.Proofs.Ytdghfhnkacfahaa
open Go.RowKit Go.BigFrame

def letterI (c : Int) : Bool := (decide (97 ≤ c) && decide (c ≤ 122)) || (decide (65 ≤ c) && decide (c ≤ 90))
def digitI (c : Int) : Bool := decide (48 ≤ c) && decide (c ≤ 57)
def innerI (c : Int) : Bool := letterI c || digitI c || c == 95
theorem letter_any (c : Int) (w : World) : Calls Try.prog 92 #[.int .u8 c] w fun e w' => e = .returned (.bool (letterI c)) ∧ After w w' := by
  go_enter Try.func92, Try.ntmps92
  go_wp2
  all_goals
    go_ret
    exact ⟨ret_bool (by unfold letterI; apply Bool.eq_iff_iff.2; simp; omega), inferInstance⟩
theorem rletter_any (c : Int) (w : World) : Calls Try.prog 82 #[.int .u8 c] w fun e w' => e = .returned (.bool (letterI c)) ∧ After w w' := by
  go_enter Try.func82, Try.ntmps82
  go_wp2
  all_goals
    go_ret
    exact ⟨ret_bool (by unfold letterI; apply Bool.eq_iff_iff.2; simp; omega), inferInstance⟩
theorem digit_any (c : Int) (w : World) : Calls Try.prog 106 #[.int .u8 c] w fun e w' => e = .returned (.bool (digitI c)) ∧ After w w' := by
  go_enter Try.func106, Try.ntmps106
  go_wp2
  all_goals
    go_ret
    exact ⟨ret_bool (by unfold digitI; apply Bool.eq_iff_iff.2; simp; omega), inferInstance⟩
theorem rdigit_any (c : Int) (w : World) : Calls Try.prog 101 #[.int .u8 c] w fun e w' => e = .returned (.bool (digitI c)) ∧ After w w' := by
  go_enter Try.func101, Try.ntmps101
  go_wp2
  all_goals
    go_ret
    exact ⟨ret_bool (by unfold digitI; apply Bool.eq_iff_iff.2; simp; omega), inferInstance⟩
theorem inner_any (c : Int) (w : World) : Calls Try.prog 94 #[.int .u8 c] w fun e w' => e = .returned (.bool (innerI c)) ∧ After w w' := by
  obtain ⟨a, ha⟩ : ∃ a, letterI c = a := ⟨_, rfl⟩
  obtain ⟨b, hb⟩ : ∃ a, digitI c = a := ⟨_, rfl⟩
  have HI : Hid (innerI c = (a || b || c == 95)) := by show _ = _; unfold innerI; rw [ha, hb]
  have G1 : Hid (∀ U, Calls Try.prog 92 #[.int .u8 c] U fun e w' => e = .returned (.bool a) ∧ After U w') := fun U => ha ▸ letter_any c U
  have G2 : Hid (∀ U, Calls Try.prog 106 #[.int .u8 c] U fun e w' => e = .returned (.bool b) ∧ After U w') := fun U => hb ▸ digit_any c U
  clear ha hb
  cases a
  · cases b
    all_goals
      go_enter Try.func94, Try.ntmps94
      go_wp2_with fail
      refine (G1.out _).mono ?_
      rintro e w2 ⟨rfl, k2⟩
      go_wp2_with fail
      refine (G2.out _).mono ?_
      rintro e w3 ⟨rfl, k3⟩
      have k4 : After w w3 := after_after k2 k3
      go_wp2_with fail
      go_ret
      exact ⟨ret_bool (by rw [HI.out]; first | rfl | simp), k4⟩
  · go_enter Try.func94, Try.ntmps94
    go_wp2_with fail
    refine (G1.out _).mono ?_
    rintro e w2 ⟨rfl, k2⟩
    go_wp2_with fail
    go_ret
    exact ⟨ret_bool (by rw [HI.out]; rfl), k2⟩
theorem rinner_any (c : Int) (w : World) : Calls Try.prog 83 #[.int .u8 c] w fun e w' => e = .returned (.bool (innerI c)) ∧ After w w' := by
  obtain ⟨a, ha⟩ : ∃ a, letterI c = a := ⟨_, rfl⟩
  obtain ⟨b, hb⟩ : ∃ a, digitI c = a := ⟨_, rfl⟩
  have HI : Hid (innerI c = (a || b || c == 95)) := by show _ = _; unfold innerI; rw [ha, hb]
  have G1 : Hid (∀ U, Calls Try.prog 82 #[.int .u8 c] U fun e w' => e = .returned (.bool a) ∧ After U w') := fun U => ha ▸ rletter_any c U
  have G2 : Hid (∀ U, Calls Try.prog 101 #[.int .u8 c] U fun e w' => e = .returned (.bool b) ∧ After U w') := fun U => hb ▸ rdigit_any c U
  clear ha hb
  cases a
  · cases b
    all_goals
      go_enter Try.func83, Try.ntmps83
      go_wp2_with fail
      refine (G1.out _).mono ?_
      rintro e w2 ⟨rfl, k2⟩
      go_wp2_with fail
      refine (G2.out _).mono ?_
      rintro e w3 ⟨rfl, k3⟩
      have k4 : After w w3 := after_after k2 k3
      go_wp2_with fail
      go_ret
      exact ⟨ret_bool (by rw [HI.out]; first | rfl | simp), k4⟩
  · go_enter Try.func83, Try.ntmps83
    go_wp2_with fail
    refine (G1.out _).mono ?_
    rintro e w2 ⟨rfl, k2⟩
    go_wp2_with fail
    go_ret
    exact ⟨ret_bool (by rw [HI.out]; rfl), k2⟩
/-- the keywords -/
def kws : List (List UInt8) := [[97, 115, 115, 117, 109, 101], [97, 110, 100], [97, 117, 116, 111, 109, 97, 116, 111, 110], [98, 111, 111, 108], [99, 111, 110, 116, 105, 110, 117, 101], [100, 111], [100, 111, 110, 101], [101, 108, 115, 101], [101, 110, 100], [101, 110, 115, 117, 114, 101], [101, 118, 101, 114, 121], [102, 97, 108, 115, 101], [102, 98, 121], [105, 102], [105, 110, 116], [108, 101, 116], [109, 101, 114, 103, 101], [109, 111, 100], [110, 111, 100, 101], [110, 111, 116], [111, 114], [112, 114, 101], [114, 101, 116, 117, 114, 110, 115], [115, 116, 97, 116, 101], [116, 101, 108], [116, 104, 101, 110], [116, 114, 117, 101], [116, 121, 112, 101], [117, 110, 108, 101, 115, 115], [117, 110, 116, 105, 108], [118, 97, 114], [119, 104, 101, 110], [120, 111, 114]]
def kwB (s : ByteArray) : Bool := kws.any fun k => s.toList == k
set_option maxHeartbeats 1600000 in
theorem keyword_any (s : ByteArray) (w : World) : Calls Try.prog 93 #[.string s] w fun e w' => e = .returned (.bool (kwB s)) ∧ After w w' := by
  have HK : Hid (kwB s = (s.toList == [97, 115, 115, 117, 109, 101] || s.toList == [97, 110, 100] || s.toList == [97, 117, 116, 111, 109, 97, 116, 111, 110] || s.toList == [98, 111, 111, 108] || s.toList == [99, 111, 110, 116, 105, 110, 117, 101] || s.toList == [100, 111] || s.toList == [100, 111, 110, 101] || s.toList == [101, 108, 115, 101] || s.toList == [101, 110, 100] || s.toList == [101, 110, 115, 117, 114, 101] || s.toList == [101, 118, 101, 114, 121] || s.toList == [102, 97, 108, 115, 101] || s.toList == [102, 98, 121] || s.toList == [105, 102] || s.toList == [105, 110, 116] || s.toList == [108, 101, 116] || s.toList == [109, 101, 114, 103, 101] || s.toList == [109, 111, 100] || s.toList == [110, 111, 100, 101] || s.toList == [110, 111, 116] || s.toList == [111, 114] || s.toList == [112, 114, 101] || s.toList == [114, 101, 116, 117, 114, 110, 115] || s.toList == [115, 116, 97, 116, 101] || s.toList == [116, 101, 108] || s.toList == [116, 104, 101, 110] || s.toList == [116, 114, 117, 101] || s.toList == [116, 121, 112, 101] || s.toList == [117, 110, 108, 101, 115, 115] || s.toList == [117, 110, 116, 105, 108] || s.toList == [118, 97, 114] || s.toList == [119, 104, 101, 110] || s.toList == [120, 111, 114])) := by show _ = _; simp only [kwB, kws, List.any_cons, List.any_nil, Bool.or_false, Bool.or_assoc]
  go_enter Try.func93, Try.ntmps93
  go_wp2
  all_goals
    go_ret
    first
      | (refine ⟨ret_bool ?_, inferInstance⟩; rw [HK.out]; simp only [*, Bool.or_true, Bool.true_or, Bool.or_false, Bool.false_or]; done)
      | (exfalso; simp_all; done)
end Go.Proofs.Ytdghfhnkacfahaa
