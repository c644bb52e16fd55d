/-
  Contracts of the reference: within, field, fields, has, name, typed.
-/
import Derived.Test.YtgmojjdojcmnaaaDoorICkD
import Derived.Test.YtgmojjdojcmnaaaDoorICkE
set_option linter.unusedVariables false
set_option linter.unusedSimpArgs false
namespace Go.Proofs.YtgmojjdojcmnaaaDoor
open Go.RowKit Go.BigFrame

theorem rwithin_any (a n most : Int) (w : World) (hm : most ≤ 9223372036854775807) :
    Calls Tryd.prog 67 #[.int .i64 a, .int .i64 n, .int .i64 most] w fun e w' => e = .returned (.bool (withinB a n most)) ∧ w' = w := by
  unfold withinB
  by_cases h0 : 0 ≤ a
  · have d0 : decide (0 ≤ a) = true := by simpa using h0
    by_cases h1 : a ≤ most
    · have d1 : decide (a ≤ most) = true := by simpa using h1
      go_enter Tryd.func67, Tryd.ntmps67
      go_wp2_with fail
      go_ret
      exact ⟨by simp [d0, d1], rfl⟩
    · have d1 : decide (a ≤ most) = false := by simp; omega
      go_enter Tryd.func67, Tryd.ntmps67
      go_wp2_with fail
      go_ret
      exact ⟨by simp [d0, d1], rfl⟩
  · have d0 : decide (0 ≤ a) = false := by simp; omega
    go_enter Tryd.func67, Tryd.ntmps67
    go_wp2_with fail
    go_ret
    exact ⟨by simp [d0], rfl⟩
theorem name_no {s : ByteArray} {k : Nat} (h : k < s.size) (hc : nameC s[k].toNat = false) : s.data.toList.any (fun c => !nameC c.toNat) = true := by
  rw [List.any_eq_true]
  have hl : s.data.toList.length = s.size := rfl
  exact ⟨s[k], by have := List.getElem_mem (l := s.data.toList) (n := k) (by omega); exact this, by simp [hc]⟩
theorem name_yes {s : ByteArray} (h : ∀ k (hk : k < s.size), nameC s[k].toNat = true) : s.data.toList.any (fun c => !nameC c.toNat) = false := by
  rw [List.any_eq_false]
  intro c hc
  obtain ⟨j, hj, rfl⟩ := List.getElem_of_mem hc
  have hl : s.data.toList.length = s.size := rfl
  have := h j (by omega)
  have e : s.data.toList[j] = s[j]'(by omega) := rfl
  rw [e, this]; simp
set_option maxHeartbeats 1600000 in
theorem rname_any (s : ByteArray) (hs : s.size ≤ 140737488355328) (w : World) : Calls Tryd.prog 52 #[.string s] w fun e w' => e = .returned (.bool (nameB s.data.toList)) ∧ w' = w := by
  have hl : s.data.toList.length = s.size := rfl
  by_cases h0 : s.size = 0
  · have : s = ⟨#[]⟩ := by
      have h1 : s.data.toList = [] := List.eq_nil_of_length_eq_zero (by omega)
      cases s with
      | mk d => simp at h1; rw [h1]
    subst this
    go_enter Tryd.func52, Tryd.ntmps52
    go_wp2_with fail
    go_ret
    exact ⟨rfl, rfl⟩
  · have hp : 0 < s.size := by omega
    have hne : s.toList.isEmpty = false := by
      rw [ByteArray.toList_eq]
      cases e : s.data.toList with
      | nil => rw [e] at hl; simp at hl; omega
      | cons a l => rfl
    rw [nameB_eq]
    by_cases h40 : 40 < s.size
    · have h4I : (40 : Int) < (s.size : Int) := by omega
      have HF : Hid ((decide (0 < s.size) && decide (s.size ≤ 40) && !s.data.toList.any (fun c => !nameC c.toNat)) = false) := by show _ = _; rw [show decide (s.size ≤ 40) = false by simpa using h40]; simp
      obtain ⟨R, hR⟩ : ∃ R, (decide (0 < s.size) && decide (s.size ≤ 40) && !s.data.toList.any (fun c => !nameC c.toNat)) = R := ⟨_, rfl⟩
      rw [hR] at HF ⊢
      clear hR hl
      go_enter Tryd.func52, Tryd.ntmps52
      go_wp2_with fail
      go_ret
      exact ⟨by rw [HF.out]; rfl, rfl⟩
    · have h4I : (s.size : Int) ≤ 40 := by omega
      obtain ⟨R, hR⟩ : ∃ R, (decide (0 < s.size) && decide (s.size ≤ 40) && !s.data.toList.any (fun c => !nameC c.toNat)) = R := ⟨_, rfl⟩
      have HR : Hid (R = !s.data.toList.any (fun c => !nameC c.toNat)) := by
        show _ = _
        rw [← hR, show decide (s.size ≤ 40) = true by simp; omega, show decide (0 < s.size) = true by simpa using hp]; simp
      rw [hR]
      clear hR hl
      go_enter Tryd.func52, Tryd.ntmps52
      go_wp2_with fail
      go_loop [3] (fun i => ∃ k : Nat, k ≤ s.size ∧ i = .int .i64 (k : Nat) ∧ Hid (∀ j (hj : j < s.size), j < k → nameC s[j].toNat = true)) (fun i => s.size - (intOf i).toNat)
      case atStart => exact ⟨0, by omega, rfl, fun j _ h => by omega⟩
      case round =>
        obtain ⟨k, hk, rfl, HA⟩ := hrel
        by_cases hlt : k < s.size
        · have hltI : (k : Int) < (s.size : Int) := by omega
          obtain ⟨r, hr⟩ : ∃ r : Nat, s[k].toNat = r := ⟨_, rfl⟩
          obtain ⟨b, hb⟩ : ∃ b, nameC r = b := ⟨_, rfl⟩
          have HB : Hid (nameC s[k].toNat = b) := by show _ = _; rw [hr]; exact hb
          have hcs : r < 48 ∨ (48 ≤ r ∧ r ≤ 57) ∨ (57 < r ∧ r < 65) ∨ (65 ≤ r ∧ r ≤ 90) ∨ (90 < r ∧ r < 95) ∨ r = 95 ∨ r = 96 ∨ (97 ≤ r ∧ r ≤ 122) ∨ 122 < r := by omega
          have hv : b = (decide (48 ≤ r ∧ r ≤ 57 ∨ 65 ≤ r ∧ r ≤ 90 ∨ r = 95 ∨ 97 ≤ r ∧ r ≤ 122)) := by
            rw [← hb]; unfold nameC
            by_cases e : r = 95
            · subst e; rfl
            · rw [show (r == 95) = false by simp; omega]
              rw [Bool.eq_iff_iff]; simp; omega
          clear hb
          rcases hcs with h | h | h | h | h | h | h | h | h
          all_goals
            first
              | (have : b = true := by rw [hv]; simp; omega
                 subst this; clear hv
                 first | have z1 : (r : Int) = 95 := by omega | have z1 : ¬ ((r : Int) = 95) := by omega
                 first | have z2 : (48 : Int) ≤ r := by omega | have z2 : ¬ ((48 : Int) ≤ r) := by omega
                 first | have z3 : (r : Int) ≤ 57 := by omega | have z3 : ¬ ((r : Int) ≤ 57) := by omega
                 first | have z4 : (65 : Int) ≤ r := by omega | have z4 : ¬ ((65 : Int) ≤ r) := by omega
                 first | have z5 : (r : Int) ≤ 90 := by omega | have z5 : ¬ ((r : Int) ≤ 90) := by omega
                 first | have z6 : (97 : Int) ≤ r := by omega | have z6 : ¬ ((97 : Int) ≤ r) := by omega
                 first | have z7 : (r : Int) ≤ 122 := by omega | have z7 : ¬ ((r : Int) ≤ 122) := by omega
                 first | have z8 : ((r : Int) == 95) = true := by (simp; omega) | have z8 : ((r : Int) == 95) = false := by (simp; omega)
                 clear h
                 go_wp2_with fail
                 go_round
                 case rel =>
                   exact ⟨k + 1, by omega, by go_num, fun j hj h => by
                     rcases Nat.lt_or_ge j k with h_ | h_
                     · exact HA.out j hj h_
                     · obtain rfl : j = k := by omega
                       exact HB.out⟩
                 case measure => simp only [intOf]; omega)
              | (have : b = false := by rw [hv]; simp; omega
                 subst this; clear hv
                 first | have z1 : (r : Int) = 95 := by omega | have z1 : ¬ ((r : Int) = 95) := by omega
                 first | have z2 : (48 : Int) ≤ r := by omega | have z2 : ¬ ((48 : Int) ≤ r) := by omega
                 first | have z3 : (r : Int) ≤ 57 := by omega | have z3 : ¬ ((r : Int) ≤ 57) := by omega
                 first | have z4 : (65 : Int) ≤ r := by omega | have z4 : ¬ ((65 : Int) ≤ r) := by omega
                 first | have z5 : (r : Int) ≤ 90 := by omega | have z5 : ¬ ((r : Int) ≤ 90) := by omega
                 first | have z6 : (97 : Int) ≤ r := by omega | have z6 : ¬ ((97 : Int) ≤ r) := by omega
                 first | have z7 : (r : Int) ≤ 122 := by omega | have z7 : ¬ ((r : Int) ≤ 122) := by omega
                 first | have z8 : ((r : Int) == 95) = true := by (simp; omega) | have z8 : ((r : Int) == 95) = false := by (simp; omega)
                 clear h
                 have HF : Hid (R = false) := by show _ = _; rw [HR.out, name_no hlt HB.out]; rfl
                 go_wp2_with fail
                 go_ret
                 exact ⟨by rw [HF.out]; rfl, rfl⟩)
        · obtain rfl : k = s.size := by omega
          have HF : Hid (R = true) := by show _ = _; rw [HR.out, name_yes (s := s) (fun j hj => HA.out j hj hj)]; rfl
          go_wp2_with fail
          go_ret
          exact ⟨by rw [HF.out]; rfl, rfl⟩
end Go.Proofs.YtgmojjdojcmnaaaDoor
