/-
  Contracts of package pace: ones, Rate, Nth, Span, Gap, Before.
-/
import Derived.Test.YtglfocldoaigiaaBw1
import Derived.Test.YtglfocldoaigiaaGcd
import Derived.Test.YtglfocldoaigiaaIdx
namespace Go.Proofs.Ytglfocldoaigiaa
open Go.RowKit Go.BigFrame

theorem int_info : (Try.prog.info? 3).map (fun i => (i.zero, i.size, i.bytes)) = some (some (.int .i64 0), 1, 8) := by kernel_rfl
theorem bool_info : (Try.prog.info? 4).map (fun i => (i.zero, i.size, i.bytes)) = some (some (.bool false), 1, 1) := by kernel_rfl

set_option maxHeartbeats 400000 in
theorem ones_list {w0 : World} {A c l} (x : RB w0 A c l) (w : World) [After w0 w] (hlen : l.length ≤ 64) :
    Calls Try.prog 53 #[.slice A l.length c] w fun e w' => ∃ A' c', e = .returned (.slice A' (idx l).length c') ∧ RI w' A' c' (idx l) ∧ ∃ y, w' = w.more y := by
  replace x := x.here w
  have b1 := x.le; have b2 := x.cap
  go_enter Try.func53, Try.ntmps53
  go_wp2
  go_loopw [3, 8] (fun v i wr => ∃ k : Nat, k ≤ l.length ∧ i = .int .i64 k ∧ wr.ownsRow w.heap.size 3 1 v (idx (l.take k)).length (iv (idx (l.take k))) ∧ After w wr) (fun _ i _ => l.length - (intOf i).toNat)
  case atStart => exact ⟨0, by omega, rfl, World.ownsRow_nil _ _ _ _, after_refl w⟩
  case round =>
    obtain ⟨k, hk, rfl, hown, haft⟩ := hrel
    replace x := x.here wr
    have hle : (idx (l.take k)).length ≤ k := by rw [idx_len]; exact Nat.le_trans (W.cnt_le _) (List.length_take_le _ _)
    by_cases hlt : k < l.length
    · obtain ⟨ad, b, rfl, hbk, hc, HB⟩ := x.bit hlt
      have HS := Lib.hid (idx_take_succ l k hlt)
      cases b
      · go_wp2
        go_roundw
        case rel => exact ⟨k + 1, by omega, by go_num, by rw [HS.out, HB.out]; simpa using hown, haft⟩
        case measure => simp [intOf]; omega
      · go_wp2_with (at_builtin; refine wpList_append_one wr rfl _ _ 40 rfl 3 _ 8 Try.underlying40 int_info rfl _ _ _ (.int .i64 k) rfl hown rfl rfl (by omega) (by omega) ?_; intro v1 w1 hown1 haft1)
        go_roundw
        case rel => exact ⟨k + 1, by omega, by go_num, by rw [HS.out, HB.out]; simpa [iv] using hown1, haft1⟩
        case measure => simp [intOf]; omega
    · have e1 : l.take k = l := List.take_of_length_le (by omega)
      rw [e1] at hown
      clear e1
      go_wp2
      go_ret
      obtain ⟨A', c', rfl, hr⟩ := RI.of_own hown (by rw [idx_len]; have := W.cnt_le l; omega)
      exact ⟨A', c', rfl, hr, After.is_more _ _⟩

theorem tdiv_gcd (a g : Nat) : ((a : Int).tdiv (g : Int)) = ((a / g : Nat) : Int) := by rw [Int.tdiv_eq_ediv_of_nonneg (by omega)]; simp
/-- the rate of a list of ones -/
def rateN (l : List Bool) : Nat × Nat := (W.cnt l / Nat.gcd l.length (W.cnt l), l.length / Nat.gcd l.length (W.cnt l))

set_option maxHeartbeats 400000 in
theorem rate_ok {w0 : World} {A B c d h l} (x : RW w0 A c B d h l) (w : World) [After w0 w] (hv : Valid h l) :
    Calls Try.prog 17 #[.agg #[.slice A h.length c, .slice B l.length d]] w fun e w' => e = .returned (.tuple #[.int .i64 (rateN l).1, .int .i64 (rateN l).2]) ∧ ∃ y, w' = w.more y := by
  have hc0 := Lib.hid (checkI_0 hv)
  have hv2 := hv.2
  have hv1 := hv.1
  have hlen : l.length ≤ 64 := by omega
  have hcnt := W.cnt_le l
  have hil := Lib.hid (idx_len l)
  have hg : 0 < Nat.gcd l.length (W.cnt l) := Nat.gcd_pos_of_pos_left _ hv1
  have q1 := tdiv_gcd (W.cnt l) (Nat.gcd l.length (W.cnt l))
  have q2 := tdiv_gcd l.length (Nat.gcd l.length (W.cnt l))
  have hg1 : ¬ ((Nat.gcd l.length (W.cnt l) : Nat) : Int) = 0 := by omega
  have hr1 : W.cnt l / Nat.gcd l.length (W.cnt l) = (rateN l).1 := rfl
  have hr2 : l.length / Nat.gcd l.length (W.cnt l) = (rateN l).2 := rfl
  have hg2 := Nat.gcd_le_left (W.cnt l) hv1
  rw [hr1] at q1; rw [hr2] at q2
  have l1 : (rateN l).1 ≤ W.cnt l := Nat.div_le_self _ _
  have l2 : (rateN l).2 ≤ l.length := Nat.div_le_self _ _
  clear hr1 hr2
  generalize (rateN l).1 = r1 at *
  generalize (rateN l).2 = r2 at *
  have w1 : IntKind.i64.wrap (r1 : Int) = (r1 : Int) := IntWalk.i64_in _ (by omega)
  have w2 : IntKind.i64.wrap (r2 : Int) = (r2 : Int) := IntWalk.i64_in _ (by omega)
  go_enter Try.func17, Try.ntmps17
  go_wp2_with (first
    | (go_at_call 19; refine (check_val x _ hc0.out).mono ?_; rintro e w' ⟨rfl, y, rfl⟩))
  go_cut [2, 3] (fun a b wx => a = .int .i64 (W.cnt l : Nat) ∧ b = .int .i64 (l.length : Nat) ∧ After w wx)
  case first =>
    go_region_with ((go_at_call 53; refine (ones_list x.loop _ hlen).mono ?_; rintro e w' ⟨A1, c1, rfl, hr1, y1, rfl⟩))
    all_goals
      go_wp2_with fail
      go_meet
      exact ⟨by rw [← hil.out], rfl, inferInstance⟩
  case rest =>
    obtain ⟨rfl, rfl, haft⟩ := hcut
    go_wp2_with (go_at_call 54; refine (gcd_pace _ _ (by omega) (by omega)).mono ?_; rintro e w' ⟨rfl, y2, rfl⟩)
    go_quiet (fail)
    go_wp2
    go_ret2
    exact ⟨rfl, After.is_more _ _⟩

def rateV (h l : List Bool) : Int × Int := if W.check h l = 0 then ((((rateN l).1 : Nat) : Int), (((rateN l).2 : Nat) : Int)) else (0, 0)
theorem rateV_ok {h l : List Bool} (hv : Valid h l) : rateV h l = ((((rateN l).1 : Nat) : Int), (((rateN l).2 : Nat) : Int)) := by unfold rateV; rw [if_pos (check_of_valid hv)]
theorem rateV_bad {h l : List Bool} (hv : ¬ Valid h l) : rateV h l = (0, 0) := by
  unfold rateV; rw [if_neg]; intro e; exact hv (Valid.of_checkI (by unfold checkI; omega))
theorem rate_any {w0 : World} {A B c d h l} (x : RW w0 A c B d h l) (w : World) [After w0 w] :
    Calls Try.prog 17 #[.agg #[.slice A h.length c, .slice B l.length d]] w fun e w' => e = .returned (.tuple #[.int .i64 (rateV h l).1, .int .i64 (rateV h l).2]) ∧ ∃ y, w' = w.more y := by
  rcases check_cases h l with hv | ⟨hv, h5⟩
  · rw [rateV_ok hv]; exact rate_ok x w hv
  · rw [rateV_bad hv]
    rcases h5 with h5 | h5
    all_goals
      have hc0 := Lib.hid h5
      clear h5
      go_enter Try.func17, Try.ntmps17
      go_wp2_with (go_at_call 19; refine (check_val x _ hc0.out).mono ?_; rintro e w' ⟨rfl, y, rfl⟩)
      go_ret2
      exact ⟨rfl, After.is_more _ _⟩
end Go.Proofs.Ytglfocldoaigiaa
