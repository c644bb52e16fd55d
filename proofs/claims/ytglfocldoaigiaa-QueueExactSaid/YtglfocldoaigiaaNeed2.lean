/-
  Contract: queue.Need.
-/
import Derived.Test.YtglfocldoaigiaaNeed1
namespace Go.Proofs.Ytglfocldoaigiaa
open Go.RowKit Go.BigFrame

def okArgs (h l : List Bool) (fa ta init : Int) : Prop := Valid h l ∧ 0 ≤ fa ∧ fa ≤ 64 ∧ 0 ≤ ta ∧ ta ≤ 64 ∧ 0 ≤ init ∧ init ≤ 65536
open Classical in
noncomputable def needV (h l : List Bool) (fa ta init : Int) (first : Bool) : Int × Int :=
  if okArgs h l fa ta init then
    match (simS h l fa.toNat ta.toNat first init.toNat (max fa.toNat ta.toNat + h.length + l.length)).map (·.2) with
    | some m => (((m : Nat) : Int), 0)
    | none => (0, 20)
  else (0, 2)
theorem needV_bad {h l : List Bool} {fa ta init : Int} (first : Bool) (hb : ¬ okArgs h l fa ta init) : needV h l fa ta init first = (0, 2) := by unfold needV; rw [if_neg hb]
theorem needV_some {h l : List Bool} {fa ta init : Nat} (first : Bool) (hb : okArgs h l fa ta init) (T : Nat) (hT : max fa ta + h.length + l.length ≤ T) {n m : Nat} (e : simS h l fa ta first init T = some (n, m)) :
    needV h l fa ta init first = (((m : Nat) : Int), 0) := by
  have := simS_stable h l fa ta first init hb.1.1 T hT
  rw [e] at this
  unfold needV; rw [if_pos hb]; simp only [Int.toNat_natCast]; rw [← this]; rfl
theorem needV_none {h l : List Bool} {fa ta init : Nat} (first : Bool) (hb : okArgs h l fa ta init) (T : Nat) (hT : max fa ta + h.length + l.length ≤ T) (e : simS h l fa ta first init T = none) :
    needV h l fa ta init first = (0, 20) := by
  have := simS_stable h l fa ta first init hb.1.1 T hT
  rw [e] at this
  unfold needV; rw [if_pos hb]; simp only [Int.toNat_natCast]; rw [← this]; rfl
theorem simS_none_le (h l : List Bool) (fa ta : Nat) (first : Bool) (init : Nat) {a b : Nat} (hab : a ≤ b) (e : simS h l fa ta first init a = none) : simS h l fa ta first init b = none := by
  cases eb : simS h l fa ta first init b with
  | none => rfl
  | some s => obtain ⟨s0, h1, _⟩ := simS_le h l fa ta first init hab eb; rw [e] at h1; cases h1

/-- the tests ahead: which argument is bad -/
theorem need_tests {h l : List Bool} {fa ta init : Int} (hb : ¬ okArgs h l fa ta init) : ¬ Valid h l ∨ (Valid h l ∧ (fa < 0 ∨ ta < 0)) ∨ (Valid h l ∧ 0 ≤ fa ∧ 0 ≤ ta ∧ (64 < fa ∨ 64 < ta)) ∨ (Valid h l ∧ 0 ≤ fa ∧ 0 ≤ ta ∧ fa ≤ 64 ∧ ta ≤ 64 ∧ init < 0) ∨ (Valid h l ∧ 0 ≤ fa ∧ 0 ≤ ta ∧ fa ≤ 64 ∧ ta ≤ 64 ∧ 65536 < init) := by
  unfold okArgs at hb
  by_cases hv : Valid h l
  · by_cases h1 : fa < 0 ∨ ta < 0
    · exact .inr (.inl ⟨hv, h1⟩)
    · by_cases h2 : 64 < fa ∨ 64 < ta
      · exact .inr (.inr (.inl ⟨hv, by omega, by omega, h2⟩))
      · by_cases h3 : init < 0
        · exact .inr (.inr (.inr (.inl ⟨hv, by omega, by omega, by omega, by omega, h3⟩)))
        · by_cases h4 : 65536 < init
          · exact .inr (.inr (.inr (.inr ⟨hv, by omega, by omega, by omega, by omega, h4⟩)))
          · exact absurd ⟨hv, by omega, by omega, by omega, by omega, by omega, by omega⟩ hb
  · exact .inl hv

set_option maxRecDepth 100000 in
set_option maxHeartbeats 1600000 in
theorem need_bad {w0 : World} {A B c d h l} (x : RW w0 A c B d h l) (w : World) [After w0 w] (fa ta init : Int) (first : Bool) (hb : ¬ okArgs h l fa ta init) :
    Calls Try.prog 26 #[.agg #[.slice A h.length c, .slice B l.length d], .int .i64 fa, .int .i64 ta, .int .i64 init, .bool first] w fun e w' => e = .returned (.tuple #[.int .i64 0, .int .i64 2]) ∧ ∃ y, w' = w.more y := by
  rcases need_tests hb with hv | ⟨hv, h1⟩ | ⟨hv, h1, h2, h3⟩ | ⟨hv, h1, h2, h3, h4, h5⟩ | ⟨hv, h1, h2, h3, h4, h5⟩
  · obtain ⟨e, he, hne⟩ : ∃ e, checkI h l = e ∧ (e = 5 ∨ e = 3) := by
      rcases check_cases h l with hv' | ⟨_, h5 | h5⟩
      · exact absurd hv' hv
      · exact ⟨5, h5, .inl rfl⟩
      · exact ⟨3, h5, .inr rfl⟩
    have hc0 := Lib.hid he
    clear he
    rcases hne with rfl | rfl
    all_goals
      go_enter Try.func26, Try.ntmps26
      go_wp2_with (go_at_call 19; with_reducible refine (check_val x _ hc0.out).mono ?_; rintro e w' ⟨rfl, y, rfl⟩)
      go_ret2
      exact ⟨rfl, After.is_more _ _⟩
  · have hc0 := Lib.hid (checkI_0 hv)
    rcases Int.lt_trichotomy ta fa with h2 | rfl | h2
    all_goals
      go_enter Try.func26, Try.ntmps26
      go_wp2_with (go_at_call 19; with_reducible refine (check_val x _ hc0.out).mono ?_; rintro e w' ⟨rfl, y, rfl⟩)
      go_ret2
      exact ⟨rfl, After.is_more _ _⟩
  · have hc0 := Lib.hid (checkI_0 hv)
    rcases Int.lt_trichotomy ta fa with h9 | rfl | h9
    · have h64 : 64 < fa := by omega
      clear h3
      go_enter Try.func26, Try.ntmps26
      go_wp2_with (go_at_call 19; with_reducible refine (check_val x _ hc0.out).mono ?_; rintro e w' ⟨rfl, y, rfl⟩)
      go_ret2
      exact ⟨rfl, After.is_more _ _⟩
    · have h64 : 64 < ta := by omega
      clear h3
      go_enter Try.func26, Try.ntmps26
      go_wp2_with (go_at_call 19; with_reducible refine (check_val x _ hc0.out).mono ?_; rintro e w' ⟨rfl, y, rfl⟩)
      go_ret2
      exact ⟨rfl, After.is_more _ _⟩
    · have h64 : 64 < ta := by omega
      clear h3
      go_enter Try.func26, Try.ntmps26
      go_wp2_with (go_at_call 19; with_reducible refine (check_val x _ hc0.out).mono ?_; rintro e w' ⟨rfl, y, rfl⟩)
      go_ret2
      exact ⟨rfl, After.is_more _ _⟩
  all_goals
    have hc0 := Lib.hid (checkI_0 hv)
    rcases Int.lt_trichotomy ta fa with h9 | rfl | h9
    all_goals
      go_enter Try.func26, Try.ntmps26
      go_wp2_with (go_at_call 19; with_reducible refine (check_val x _ hc0.out).mono ?_; rintro e w' ⟨rfl, y, rfl⟩)
      go_ret2
      exact ⟨rfl, After.is_more _ _⟩

end Go.Proofs.Ytglfocldoaigiaa
