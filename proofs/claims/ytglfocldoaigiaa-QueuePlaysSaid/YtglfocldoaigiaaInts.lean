/-
  Contract: ints of two equal lists.
-/
import Derived.Test.YtglfocldoaigiaaRQueue
namespace Go.Proofs.Ytglfocldoaigiaa
open Go.RowKit Go.BigFrame

set_option maxHeartbeats 1600000 in
theorem ints_same {w0 : World} {A A' c c' l} (x : RI w0 A c l) (x' : RI w0 A' c' l) (w : World) [After w0 w] :
    Calls Try.prog 44 #[.slice A l.length c, .slice A' l.length c'] w fun e w' => e = .returned (.bool true) ∧ ∃ y, w' = w.more y := by
  have hl := x.len
  go_enter Try.func44, Try.ntmps44
  go_wp2_with fail
  go_loopw [5] (fun i wr => ∃ k : Nat, i = .int .i64 (k : Nat) ∧ k ≤ l.length ∧ After w wr) (fun i _ => l.length - (intOf i).toNat)
  case atStart => exact ⟨0, rfl, by omega, inferInstance⟩
  case round =>
    obtain ⟨k, rfl, hk, haft⟩ := hrel
    obtain ⟨z, rfl⟩ := After.is_more w wr
    by_cases hlt : k < l.length
    · obtain ⟨ad, b, rfl, i1, hc1, he1⟩ := (x.here (w.more z)).int hlt
      obtain ⟨ad', b', rfl, i2, hc2, he2⟩ := (x'.here (w.more z)).int hlt
      obtain rfl : b = b' := by rw [← he1.out, ← he2.out]
      have hltI : (k : Int) < (l.length : Nat) := by omega
      have hbb : (b != b) = false := by simp
      go_wp2_with fail
      go_quiet (fail)
      go_wp2_with fail
      go_roundw
      case rel => first | exact ⟨k + 1, by go_num, by omega, inferInstance⟩ | ((repeat apply Exists.intro); exact ⟨⟨k + 1, by go_num, by omega, inferInstance⟩, rfl⟩)
      case measure => simp [intOf]; omega
    · obtain rfl : k = l.length := by omega
      go_wp2_with fail
      go_ret
      exact ⟨rfl, After.is_more _ _⟩
end Go.Proofs.Ytglfocldoaigiaa
