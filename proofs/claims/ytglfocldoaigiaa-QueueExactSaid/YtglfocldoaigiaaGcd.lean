/-
  Contracts of the gcd functions.
-/
import Derived.Test.YtglfocldoaigiaaBase
namespace Go.Proofs.Ytglfocldoaigiaa
open Go.RowKit Go.BigFrame

theorem gcd_step (a b : Nat) : Nat.gcd b (a % b) = Nat.gcd a b := by rw [Nat.gcd_comm, ← Nat.gcd_rec, Nat.gcd_comm]

theorem gcd_pace {w : World} (a b : Nat) (ha : a ≤ 1099511627776) (hb : b ≤ 1099511627776) :
    Calls Try.prog 54 #[.int .i64 a, .int .i64 b] w fun e w' => e = .returned (.int .i64 (Nat.gcd a b : Nat)) ∧ ∃ y, w' = w.more y := by
  go_enter Try.func54, Try.ntmps54
  go_wp2
  go_loopw [0, 1] (fun u v wr => ∃ x y : Nat, u = .int .i64 x ∧ v = .int .i64 y ∧ x ≤ 1099511627776 ∧ y ≤ 1099511627776 ∧ Hid (Nat.gcd x y = Nat.gcd a b) ∧ ∃ z, wr = w.more z) (fun _ v _ => (intOf v).toNat)
  case atStart => exact ⟨a, b, rfl, rfl, ha, hb, rfl, more_self w⟩
  case round =>
    obtain ⟨x, y, rfl, rfl, hx, hy, HG, z, rfl⟩ := hrel
    by_cases h0 : y = 0
    · subst h0
      go_wp2
      go_ret
      exact ⟨ret_int (by rw [← HG.out, Nat.gcd_zero_right]), After.is_more _ _⟩
    · have hyp : 0 < (y : Int) := by omega
      have hne : ¬ ((y : Int) = 0) := by omega
      have hneb : ((y : Int) != 0) = true := by simpa using hne
      have HG2 := Lib.hid ((gcd_step x y).trans HG.out)
      have hlt := Nat.mod_lt x (show 0 < y by omega)
      obtain ⟨r, hr⟩ : ∃ r, x % y = r := ⟨_, rfl⟩
      have e2 : ((x : Int).tmod (y : Int)) = (r : Int) := by rw [Int.tmod_eq_emod_of_nonneg (by omega), ← hr]; simp
      rw [hr] at HG2 hlt
      clear hr
      go_wp2_with fail
      go_quiet (fail)
      go_wp2
      go_roundw
      case rel => exact ⟨y, r, rfl, rfl, hy, by omega, HG2, After.is_more _ _⟩
      case measure => simp [intOf]; omega

theorem gcd_r31 {w : World} (a b : Nat) (ha : a ≤ 1099511627776) (hb : b ≤ 1099511627776) :
    Calls Try.prog 56 #[.int .i64 a, .int .i64 b] w fun e w' => e = .returned (.int .i64 (Nat.gcd a b : Nat)) ∧ ∃ y, w' = w.more y := by
  go_enter Try.func56, Try.ntmps56
  go_wp2
  go_loopw [0, 1] (fun u v wr => ∃ x y : Nat, u = .int .i64 x ∧ v = .int .i64 y ∧ x ≤ 1099511627776 ∧ y ≤ 1099511627776 ∧ Hid (Nat.gcd x y = Nat.gcd a b) ∧ ∃ z, wr = w.more z) (fun _ v _ => (intOf v).toNat)
  case atStart => exact ⟨a, b, rfl, rfl, ha, hb, rfl, more_self w⟩
  case round =>
    obtain ⟨x, y, rfl, rfl, hx, hy, HG, z, rfl⟩ := hrel
    by_cases h0 : y = 0
    · subst h0
      go_wp2
      go_ret
      exact ⟨ret_int (by rw [← HG.out, Nat.gcd_zero_right]), After.is_more _ _⟩
    · have hyp : 0 < (y : Int) := by omega
      have hne : ¬ ((y : Int) = 0) := by omega
      have hneb : ((y : Int) != 0) = true := by simpa using hne
      have HG2 := Lib.hid ((gcd_step x y).trans HG.out)
      have hlt := Nat.mod_lt x (show 0 < y by omega)
      obtain ⟨r, hr⟩ : ∃ r, x % y = r := ⟨_, rfl⟩
      have e2 : ((x : Int).tmod (y : Int)) = (r : Int) := by rw [Int.tmod_eq_emod_of_nonneg (by omega), ← hr]; simp
      rw [hr] at HG2 hlt
      clear hr
      go_wp2_with fail
      go_quiet (fail)
      go_wp2
      go_roundw
      case rel => exact ⟨y, r, rfl, rfl, hy, by omega, HG2, After.is_more _ _⟩
      case measure => simp [intOf]; omega

theorem gcd_law {w : World} (a b : Nat) (ha : a ≤ 1099511627776) (hb : b ≤ 1099511627776) :
    Calls Try.prog 20 #[.int .i64 a, .int .i64 b] w fun e w' => e = .returned (.int .i64 (Nat.gcd a b : Nat)) ∧ ∃ y, w' = w.more y := by
  go_enter Try.func20, Try.ntmps20
  go_wp2
  go_loopw [0, 1] (fun u v wr => ∃ x y : Nat, u = .int .i64 x ∧ v = .int .i64 y ∧ x ≤ 1099511627776 ∧ y ≤ 1099511627776 ∧ Hid (Nat.gcd x y = Nat.gcd a b) ∧ ∃ z, wr = w.more z) (fun _ v _ => (intOf v).toNat)
  case atStart => exact ⟨a, b, rfl, rfl, ha, hb, rfl, more_self w⟩
  case round =>
    obtain ⟨x, y, rfl, rfl, hx, hy, HG, z, rfl⟩ := hrel
    by_cases h0 : y = 0
    · subst h0
      go_wp2
      go_ret
      exact ⟨ret_int (by rw [← HG.out, Nat.gcd_zero_right]), After.is_more _ _⟩
    · have hyp : 0 < (y : Int) := by omega
      have hne : ¬ ((y : Int) = 0) := by omega
      have hneb : ((y : Int) != 0) = true := by simpa using hne
      have HG2 := Lib.hid ((gcd_step x y).trans HG.out)
      have hlt := Nat.mod_lt x (show 0 < y by omega)
      obtain ⟨r, hr⟩ : ∃ r, x % y = r := ⟨_, rfl⟩
      have e2 : ((x : Int).tmod (y : Int)) = (r : Int) := by rw [Int.tmod_eq_emod_of_nonneg (by omega), ← hr]; simp
      rw [hr] at HG2 hlt
      clear hr
      go_wp2_with fail
      go_quiet (fail)
      go_wp2
      go_roundw
      case rel => exact ⟨y, r, rfl, rfl, hy, by omega, HG2, After.is_more _ _⟩
      case measure => simp [intOf]; omega

end Go.Proofs.Ytglfocldoaigiaa
