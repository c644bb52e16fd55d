/-
  Contracts: asm's title (the names of routines).
-/
import Derived.Test.YtgmojjdojcmnaaaDoorICkC
import Derived.Lib.RabinKarpLaws
set_option linter.unusedVariables false
set_option linter.unusedSimpArgs false
namespace Go.Proofs.YtgmojjdojcmnaaaDoor
open Go.RowKit Go.BigFrame Go.Lib

def nameC (r : Nat) : Bool := r == 95 || (decide (48 ≤ r) && decide (r ≤ 57)) || (decide (65 ≤ r) && decide (r ≤ 90)) || (decide (97 ≤ r) && decide (r ≤ 122))
theorem nameC_high {r : Nat} (h : 128 ≤ r) : nameC r = false := by
  unfold nameC
  have : (r == 95) = false := by simp; omega
  rw [this]
  simp; omega
theorem idx_any (s : ByteArray) : ∀ (f pos : Nat), s.size ≤ pos + f → decide (0 ≤ Lib.idxFuncFrom (fun r => !nameC r) true s f pos) = (s.data.toList.drop pos).any (fun c => !nameC c.toNat)
  | 0, pos, h => by
    have hl : s.data.toList.length = s.size := rfl
    rw [List.drop_eq_nil_of_le (by omega)]
    rfl
  | f + 1, pos, h => by
    have hl : s.data.toList.length = s.size := rfl
    unfold Lib.idxFuncFrom
    by_cases hp : pos < s.size
    · rw [if_pos hp, List.drop_eq_getElem_cons (by omega), List.any_cons]
      have hb : s.data.toList[pos] = s[pos] := rfl
      rw [hb]
      by_cases ha : (s[pos]).toNat < 128
      · rw [decode_ascii s pos hp ha]
        simp only []
        by_cases hn : (!nameC (s[pos]).toNat) = true
        · rw [if_pos hn, hn]; simp
        · rw [if_neg hn, idx_any s f (pos + 1) (by omega)]
          have : (!nameC (s[pos]).toNat) = false := by simpa using hn
          rw [this, Bool.false_or]
      · obtain ⟨h1, h2⟩ := decode_high s pos hp (by omega)
        have e1 : (!nameC (Utf8.decode s pos).1) = true := by rw [nameC_high h1]; rfl
        have e2 : (!nameC (s[pos]).toNat) = true := by rw [nameC_high (by omega)]; rfl
        rw [if_pos e1, e2]; simp
    · rw [if_neg hp, List.drop_eq_nil_of_le (by omega)]
      rfl
theorem idx_all (s : ByteArray) : decide (0 ≤ Lib.idxFunc (fun r => !nameC r) true s) = s.data.toList.any (fun c => !nameC c.toNat) := by
  unfold Lib.idxFunc
  rw [idx_any s s.size 0 (by omega), List.drop_zero]
theorem u8c (c : UInt8) : (c == 95 || (decide (48 ≤ c) && decide (c ≤ 57)) || (decide (65 ≤ c) && decide (c ≤ 90)) || (decide (97 ≤ c) && decide (c ≤ 122))) = nameC c.toNat := by
  have e : (c == 95) = (c.toNat == 95) := by
    rw [Bool.eq_iff_iff, beq_iff_eq, beq_iff_eq]
    exact ⟨fun h => by rw [h]; rfl, fun h => UInt8.toNat.inj h⟩
  unfold nameC
  rw [e]
  rfl
theorem nameB_eq (s : ByteArray) : nameB s.data.toList = (decide (0 < s.size) && decide (s.size ≤ 40) && !s.data.toList.any (fun c => !nameC c.toNat)) := by
  have hl : s.data.toList.length = s.size := rfl
  unfold nameB
  have e1 : (!s.data.toList.isEmpty) = decide (0 < s.size) := by
    rw [← hl]
    cases s.data.toList with
    | nil => rfl
    | cons a l => simp
  have e2 : s.data.toList.all (fun c => c == 95 || (decide (48 ≤ c) && decide (c ≤ 57)) || (decide (65 ≤ c) && decide (c ≤ 90)) || (decide (97 ≤ c) && decide (c ≤ 122))) = !s.data.toList.any (fun c => !nameC c.toNat) := by
    have hf : (fun c : UInt8 => c == 95 || (decide (48 ≤ c) && decide (c ≤ 57)) || (decide (65 ≤ c) && decide (c ≤ 90)) || (decide (97 ≤ c) && decide (c ≤ 122))) = fun c => nameC c.toNat := funext u8c
    rw [hf]
    induction s.data.toList with
    | nil => rfl
    | cons a l ih => rw [List.all_cons, List.any_cons, ih]; simp
  rw [e1, e2, hl]

theorem lit_name (w : World) : PredAt Tryd.prog 57 #[] Go.Proofs.encR (fun r => !nameC r) w := fun W r _ => by
  unfold FnGives
  have hr : r < 48 ∨ (48 ≤ r ∧ r ≤ 57) ∨ (57 < r ∧ r < 65) ∨ (65 ≤ r ∧ r ≤ 90) ∨ (90 < r ∧ r < 95) ∨ r = 95 ∨ r = 96 ∨ (97 ≤ r ∧ r ≤ 122) ∨ 122 < r := by omega
  show Calls Tryd.prog 57 #[.int .i32 r] W fun e w' => e = .returned (.bool (!nameC r)) ∧ ∃ q, w' = W.drewN q
  rcases hr with h | h | h | h | h | h | h | h | h
  all_goals
    first | have z1 : (r : Int) = 95 := by omega | have z1 : ¬ ((r : Int) = 95) := by omega
    first | have z2 : (r : Int) < 48 := by omega | have z2 : ¬ ((r : Int) < 48) := by omega
    first | have z3 : (57 : Int) < r := by omega | have z3 : ¬ ((57 : Int) < r) := by omega
    first | have z4 : (r : Int) < 65 := by omega | have z4 : ¬ ((r : Int) < 65) := by omega
    first | have z5 : (90 : Int) < r := by omega | have z5 : ¬ ((90 : Int) < r) := by omega
    first | have z6 : (r : Int) < 97 := by omega | have z6 : ¬ ((r : Int) < 97) := by omega
    first | have z7 : (122 : Int) < r := by omega | have z7 : ¬ ((122 : Int) < r) := by omega
    first | have hv : (!nameC r) = true := (by unfold nameC; simp; omega) | have hv : (!nameC r) = false := (by unfold nameC; simp; omega)
    rw [hv]
    clear hv
    go_enter Tryd.func57, Tryd.ntmps57
    go_wp2
    go_ret
    exact ⟨by first | (simp; done) | (simp; omega), 0, rfl⟩

set_option maxHeartbeats 1600000 in
theorem title_any (s : ByteArray) (hs : s.size ≤ 140737488355328) (w : World) : Calls Tryd.prog 45 #[.string s] w fun e w' => e = .returned (.bool (nameB s.data.toList)) ∧ After w w' := by
  rw [nameB_eq]
  by_cases h0 : s.size = 0
  · have hl : s.data.toList.length = s.size := rfl
    have hnil : s.data.toList = [] := List.eq_nil_of_length_eq_zero (by omega)
    have he : s.toList.isEmpty = true := by rw [ByteArray.toList_eq, hnil]; rfl
    go_enter Tryd.func45, Tryd.ntmps45
    go_wp2_with fail
    go_ret
    exact ⟨ret_bool (by rw [h0]; simp), inferInstance⟩
  · have hp : 0 < s.size := by omega
    have he : s.toList.isEmpty = false := by
      rw [ByteArray.toList_eq]
      have h1 : s.data.toList.length = s.size := rfl
      cases e : s.data.toList with
      | nil => rw [e] at h1; simp at h1; omega
      | cons a l => rfl
    by_cases h40 : 40 < s.size
    · have hI : ¬ ((s.size : Int) ≤ 40) := by omega
      go_enter Tryd.func45, Tryd.ntmps45
      go_wp2_with fail
      go_ret
      exact ⟨ret_bool (by rw [show decide (s.size ≤ 40) = false by simp; omega]; simp), inferInstance⟩
    · have hI : (s.size : Int) ≤ 40 := by omega
      have HC := Lib.hid (fun W : World => Tryd.strings_ContainsFunc 57 #[] (enters_of Tryd.func57 (by kernel_rfl) rfl) _ s W (lit_name W))
      have HV : Hid ((decide (0 < s.size) && decide (s.size ≤ 40) && !s.data.toList.any (fun c => !nameC c.toNat)) = !decide (0 ≤ Lib.idxFunc (fun r => !nameC r) true s)) := by
        show _ = _
        rw [idx_all, show decide (0 < s.size) = true by simpa using hp, show decide (s.size ≤ 40) = true by simp; omega]; simp
      obtain ⟨q, hq⟩ : ∃ q, decide (0 ≤ Lib.idxFunc (fun r => !nameC r) true s) = q := ⟨_, rfl⟩
      rw [HV.out]
      rw [hq]
      replace HC : Hid (∀ W : World, Calls Tryd.prog 56 #[.string s, .func (.func 57) #[] #[]] W fun e w' => e = .returned (.bool q) ∧ Below W.heap.size W w') := by
        rw [← hq]; exact HC.out
      clear hq
      go_enter Tryd.func45, Tryd.ntmps45
      go_wp2_with fail
      refine (HC.out _).mono ?_
      rintro e w2 ⟨rfl, hb⟩
      have a2 : After w w2 := ⟨hb⟩
      clear hb
      go_wp2_with fail
      go_ret
      exact ⟨rfl, a2⟩
end Go.Proofs.YtgmojjdojcmnaaaDoor
