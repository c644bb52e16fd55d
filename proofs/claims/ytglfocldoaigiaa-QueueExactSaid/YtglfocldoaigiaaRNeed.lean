/-
  Contract: the reference's Need.
-/
import Derived.Test.YtglfocldoaigiaaNeed2
namespace Go.Proofs.Ytglfocldoaigiaa
open Go.RowKit Go.BigFrame

theorem rneed_tests {h l : List Bool} {fa ta init : Int} (hb : ¬ okArgs h l fa ta init) : ¬ Valid h l ∨ (Valid h l ∧ fa < 0) ∨ (Valid h l ∧ 0 ≤ fa ∧ 64 < fa) ∨ (Valid h l ∧ 0 ≤ fa ∧ fa ≤ 64 ∧ ta < 0) ∨ (Valid h l ∧ 0 ≤ fa ∧ fa ≤ 64 ∧ 0 ≤ ta ∧ 64 < ta) ∨ (Valid h l ∧ 0 ≤ fa ∧ fa ≤ 64 ∧ 0 ≤ ta ∧ ta ≤ 64 ∧ init < 0) ∨ (Valid h l ∧ 0 ≤ fa ∧ fa ≤ 64 ∧ 0 ≤ ta ∧ ta ≤ 64 ∧ 0 ≤ init ∧ 65536 < init) := by
  unfold okArgs at hb
  by_cases hv : Valid h l
  · have : ¬ (0 ≤ fa ∧ fa ≤ 64 ∧ 0 ≤ ta ∧ ta ≤ 64 ∧ 0 ≤ init ∧ init ≤ 65536) := fun e => hb ⟨hv, e⟩
    by_cases a1 : fa < 0
    · exact .inr (.inl ⟨hv, a1⟩)
    · by_cases a2 : 64 < fa
      · exact .inr (.inr (.inl ⟨hv, by omega, a2⟩))
      · by_cases a3 : ta < 0
        · exact .inr (.inr (.inr (.inl ⟨hv, by omega, by omega, a3⟩)))
        · by_cases a4 : 64 < ta
          · exact .inr (.inr (.inr (.inr (.inl ⟨hv, by omega, by omega, by omega, a4⟩))))
          · by_cases a5 : init < 0
            · exact .inr (.inr (.inr (.inr (.inr (.inl ⟨hv, by omega, by omega, by omega, by omega, a5⟩)))))
            · exact .inr (.inr (.inr (.inr (.inr (.inr ⟨hv, by omega, by omega, by omega, by omega, by omega, by omega⟩)))))
  · exact .inl hv

set_option maxRecDepth 100000 in
set_option maxHeartbeats 1600000 in
theorem rneed_bad {w0 : World} {A B c d h l} (x : RW w0 A c B d h l) (w : World) [After w0 w] (fa ta init : Int) (first : Bool) (hb : ¬ okArgs h l fa ta init) :
    Calls Try.prog 27 #[.agg #[.slice A h.length c, .slice B l.length d], .int .i64 fa, .int .i64 ta, .int .i64 init, .bool first] w fun e w' => e = .returned (.tuple #[.int .i64 0, .int .i64 2]) ∧ ∃ y, w' = w.more y := by
  rcases rneed_tests hb with hv | ⟨hv, h1⟩ | ⟨hv, h1, h2⟩ | ⟨hv, h1, h2, h3⟩ | ⟨hv, h1, h2, h3, h4⟩ | ⟨hv, h1, h2, h3, h4, h5⟩ | ⟨hv, h1, h2, h3, h4, h5, h6⟩
  · obtain ⟨e, he, hne⟩ : ∃ e, checkI h l = e ∧ (e = 5 ∨ e = 3) := by
      rcases check_cases h l with hv' | ⟨_, h5 | h5⟩
      · exact absurd hv' hv
      · exact ⟨5, h5, .inl rfl⟩
      · exact ⟨3, h5, .inr rfl⟩
    have hc0 := Lib.hid he
    clear he
    rcases hne with rfl | rfl
    all_goals
      go_enter Try.func27, Try.ntmps27
      go_wp2_with (go_at_call 28; with_reducible refine (rcheck_val x _ hc0.out).mono ?_; rintro e w' ⟨rfl, y, rfl⟩)
      go_ret2
      exact ⟨rfl, After.is_more _ _⟩
  all_goals
    have hc0 := Lib.hid (checkI_0 hv)
    go_enter Try.func27, Try.ntmps27
    go_wp2_with (go_at_call 28; with_reducible refine (rcheck_val x _ hc0.out).mono ?_; rintro e w' ⟨rfl, y, rfl⟩)
    go_ret2
    exact ⟨rfl, After.is_more _ _⟩

theorem ract_val {w0 : World} {A B c d h l} (x : RW w0 A c B d h l) (w : World) [After w0 w] (hv : Valid h l) (t lag : Nat) (ht : t ≤ 1000000) (hlag : lag ≤ 1000000) {v : Bool} (he : act h l lag t = v) :
    Calls Try.prog 63 #[.agg #[.slice A h.length c, .slice B l.length d], .int .i64 (lag : Nat), .int .i64 (t : Nat)] w fun e w' => e = .returned (.bool v) ∧ ∃ y, w' = w.more y := by
  rw [← he]; exact ractive_any x w hv t lag ht hlag
theorem rsim_next {h l : List Bool} {fa ta : Nat} {first : Bool} {init k : Nat} {s s' : Nat × Nat} {pu po : Bool} (e : simS h l fa ta first init k = some s) (h1 : act h l fa k = pu) (h2 : act h l ta k = po) (h3 : stepS pu po first s = some s') :
    simS h l fa ta first init (k + 1) = some s' := by rw [simS, e, Option.bind_some, h1, h2, h3]
theorem rsim_stop {h l : List Bool} {fa ta : Nat} {first : Bool} {init k : Nat} {s : Nat × Nat} {pu po : Bool} (e : simS h l fa ta first init k = some s) (h1 : act h l fa k = pu) (h2 : act h l ta k = po) (h3 : stepS pu po first s = none) :
    simS h l fa ta first init (k + 1) = none := by rw [simS, e, Option.bind_some, h1, h2, h3]

set_option maxRecDepth 100000 in
set_option maxHeartbeats 8000000 in
theorem rneed_ok {w0 : World} {A B c d h l} (x : RW w0 A c B d h l) (w : World) [After w0 w] (fa ta init : Nat) (first : Bool) (hb : okArgs h l fa ta init) :
    Calls Try.prog 27 #[.agg #[.slice A h.length c, .slice B l.length d], .int .i64 (fa : Nat), .int .i64 (ta : Nat), .int .i64 (init : Nat), .bool first] w fun e w' => e = .returned (.tuple #[.int .i64 (needV h l fa ta init first).1, .int .i64 (needV h l fa ta init first).2]) ∧ ∃ y, w' = w.more y := by
  obtain ⟨hv, a1, a2, a3, a4, a5, a6⟩ := id hb
  have hc0 := Lib.hid (checkI_0 hv)
  have hv1 := hv.1
  have hv2 := hv.2
  obtain ⟨mx, hmx⟩ : ∃ mx : Nat, max fa ta = mx := ⟨_, rfl⟩
  have hmx64 : mx ≤ 64 := by omega
  obtain ⟨N, hN⟩ : ∃ N : Nat, mx + h.length + l.length + 1 = N := ⟨_, rfl⟩
  have hT : max fa ta + h.length + l.length ≤ N := by omega
  have HVS := Lib.hid (fun n m => needV_some (h := h) (l := l) (n := n) (m := m) first hb N hT)
  have HVN := Lib.hid (needV_none (h := h) (l := l) first hb N hT)
  have hcase : (ta < fa ∧ fa = mx) ∨ (fa = mx ∧ ta = mx) ∨ (fa < ta ∧ ta = mx) := by omega
  have HC := Lib.hid hcase
  have HN := Lib.hid hN
  have hNb : N ≤ 400 := by omega
  clear hmx hb hT hcase hN
  go_enter Try.func27, Try.ntmps27
  go_wp2_with (go_at_call 28; with_reducible refine (rcheck_val x _ hc0.out).mono ?_; rintro e w' ⟨rfl, y, rfl⟩)
  go_loopw [12, 13, 14] (fun u v i wr => ∃ k n m : Nat, i = .int .i64 (k : Nat) ∧ u = .int .i64 (n : Nat) ∧ v = .int .i64 (m : Nat) ∧ k ≤ N ∧ Hid (simS h l fa ta first init k = some (n, m)) ∧ After (w.alloc (.cells #[.slice A h.length c, .slice B l.length d] 24)) wr) (fun _ _ i _ => N - (intOf i).toNat)
  case atStart => exact ⟨0, init, init, rfl, rfl, rfl, by omega, rfl, inferInstance⟩
  case round =>
    obtain ⟨k, n, m, rfl, rfl, rfl, hk, HSIM, haft2⟩ := hrel
    have hbd := simS_bd h l fa ta first init k HSIM.out
    obtain ⟨z, rfl⟩ := After.is_more (w.alloc (.cells #[.slice A h.length c, .slice B l.length d] 24)) wr
    by_cases hlt : k < N
    · go_upto_region 5 with fail
      go_cut [56] (fun a wx => a = .bool true ∧ After (w.alloc (.cells #[.slice A h.length c, .slice B l.length d] 24)) wx)
      case first =>
        have hn := HN.out
        rcases HC.out with ⟨h9, rfl⟩ | ⟨rfl, rfl⟩ | ⟨h9, rfl⟩
        · have h8 : (k : Int) ≤ (fa : Nat) + (h.length : Nat) + (l.length : Nat) := by omega
          go_wp2_with fail
          go_meet
          exact ⟨by first | (simp; omega) | simp, inferInstance⟩
        · have h8 : (k : Int) ≤ (ta : Nat) + (h.length : Nat) + (l.length : Nat) := by omega
          go_wp2_with fail
          go_meet
          exact ⟨by first | (simp; omega) | simp, inferInstance⟩
        · have h8 : (k : Int) ≤ (ta : Nat) + (h.length : Nat) + (l.length : Nat) := by omega
          go_wp2_with fail
          go_meet
          exact ⟨by first | (simp; omega) | simp, inferInstance⟩
      case rest =>
        obtain ⟨rfl, haft3⟩ := hcut
        obtain ⟨z2, rfl⟩ := After.is_more (w.alloc (.cells #[.slice A h.length c, .slice B l.length d] 24)) wc
        obtain ⟨pu, hpu⟩ : ∃ pu, act h l fa k = pu := ⟨_, rfl⟩
        obtain ⟨po, hpo⟩ : ∃ po, act h l ta k = po := ⟨_, rfl⟩
        have HPU := Lib.hid hpu
        have HPO := Lib.hid hpo
        clear hpu hpo
        cases pu <;> cases po <;> cases first
        · skip
          go_wp2_with (first | (go_at_call 63; with_reducible refine (ract_val x _ hv k fa (by omega) (by omega) HPU.out).mono ?_; rintro e w' ⟨rfl, y3, rfl⟩) | (go_at_call 63; with_reducible refine (ract_val x _ hv k ta (by omega) (by omega) HPO.out).mono ?_; rintro e w' ⟨rfl, y4, rfl⟩))
          go_roundw
          case rel => first | exact ⟨k + 1, n, m, by go_num, by go_num, rfl, by omega, rsim_next HSIM.out HPU.out HPO.out (by simp [stepS]), inferInstance⟩ | ((repeat apply Exists.intro); exact ⟨⟨k + 1, n, m, by go_num, by go_num, rfl, by omega, rsim_next HSIM.out HPU.out HPO.out (by simp [stepS]), inferInstance⟩, rfl⟩)
          case measure => simp [intOf]; omega
        · skip
          go_wp2_with (first | (go_at_call 63; with_reducible refine (ract_val x _ hv k fa (by omega) (by omega) HPU.out).mono ?_; rintro e w' ⟨rfl, y3, rfl⟩) | (go_at_call 63; with_reducible refine (ract_val x _ hv k ta (by omega) (by omega) HPO.out).mono ?_; rintro e w' ⟨rfl, y4, rfl⟩))
          go_roundw
          case rel => first | exact ⟨k + 1, n, m, by go_num, by go_num, rfl, by omega, rsim_next HSIM.out HPU.out HPO.out (by simp [stepS]), inferInstance⟩ | ((repeat apply Exists.intro); exact ⟨⟨k + 1, n, m, by go_num, by go_num, rfl, by omega, rsim_next HSIM.out HPU.out HPO.out (by simp [stepS]), inferInstance⟩, rfl⟩)
          case measure => simp [intOf]; omega
        · skip
          cases n with
          | zero =>
            go_wp2_with (first | (go_at_call 63; with_reducible refine (ract_val x _ hv k fa (by omega) (by omega) HPU.out).mono ?_; rintro e w' ⟨rfl, y3, rfl⟩) | (go_at_call 63; with_reducible refine (ract_val x _ hv k ta (by omega) (by omega) HPO.out).mono ?_; rintro e w' ⟨rfl, y4, rfl⟩))
            go_ret2
            exact ⟨by rw [HVN.out (simS_none_le _ _ _ _ _ _ (show k + 1 ≤ N by omega) (rsim_stop HSIM.out HPU.out HPO.out (by simp [stepS])))]; rfl, After.is_more _ _⟩
          | succ n =>
            go_wp2_with (first | (go_at_call 63; with_reducible refine (ract_val x _ hv k fa (by omega) (by omega) HPU.out).mono ?_; rintro e w' ⟨rfl, y3, rfl⟩) | (go_at_call 63; with_reducible refine (ract_val x _ hv k ta (by omega) (by omega) HPO.out).mono ?_; rintro e w' ⟨rfl, y4, rfl⟩))
            go_roundw
            case rel => first | exact ⟨k + 1, n, m, by go_num, by go_num, rfl, by omega, rsim_next HSIM.out HPU.out HPO.out (by simp [stepS]), inferInstance⟩ | ((repeat apply Exists.intro); exact ⟨⟨k + 1, n, m, by go_num, by go_num, rfl, by omega, rsim_next HSIM.out HPU.out HPO.out (by simp [stepS]), inferInstance⟩, rfl⟩)
            case measure => simp [intOf]; omega
        · skip
          cases n with
          | zero =>
            go_wp2_with (first | (go_at_call 63; with_reducible refine (ract_val x _ hv k fa (by omega) (by omega) HPU.out).mono ?_; rintro e w' ⟨rfl, y3, rfl⟩) | (go_at_call 63; with_reducible refine (ract_val x _ hv k ta (by omega) (by omega) HPO.out).mono ?_; rintro e w' ⟨rfl, y4, rfl⟩))
            go_ret2
            exact ⟨by rw [HVN.out (simS_none_le _ _ _ _ _ _ (show k + 1 ≤ N by omega) (rsim_stop HSIM.out HPU.out HPO.out (by simp [stepS])))]; rfl, After.is_more _ _⟩
          | succ n =>
            go_wp2_with (first | (go_at_call 63; with_reducible refine (ract_val x _ hv k fa (by omega) (by omega) HPU.out).mono ?_; rintro e w' ⟨rfl, y3, rfl⟩) | (go_at_call 63; with_reducible refine (ract_val x _ hv k ta (by omega) (by omega) HPO.out).mono ?_; rintro e w' ⟨rfl, y4, rfl⟩))
            go_roundw
            case rel => first | exact ⟨k + 1, n, m, by go_num, by go_num, rfl, by omega, rsim_next HSIM.out HPU.out HPO.out (by simp [stepS]), inferInstance⟩ | ((repeat apply Exists.intro); exact ⟨⟨k + 1, n, m, by go_num, by go_num, rfl, by omega, rsim_next HSIM.out HPU.out HPO.out (by simp [stepS]), inferInstance⟩, rfl⟩)
            case measure => simp [intOf]; omega
        · skip
          go_wp2_with (first | (go_at_call 63; with_reducible refine (ract_val x _ hv k fa (by omega) (by omega) HPU.out).mono ?_; rintro e w' ⟨rfl, y3, rfl⟩) | (go_at_call 63; with_reducible refine (ract_val x _ hv k ta (by omega) (by omega) HPO.out).mono ?_; rintro e w' ⟨rfl, y4, rfl⟩))
          go_roundw
          case rel => first | exact ⟨k + 1, (n + 1), (max m (n + 1)), by go_num, by go_num, (by first | exact congrArg (Value.int .i64) (by split <;> omega) | exact congrArg (Value.int .i64) (by omega)), by omega, rsim_next HSIM.out HPU.out HPO.out (by simp [stepS]), inferInstance⟩ | ((repeat apply Exists.intro); exact ⟨⟨k + 1, (n + 1), (max m (n + 1)), by go_num, by go_num, (by first | exact congrArg (Value.int .i64) (by split <;> omega) | exact congrArg (Value.int .i64) (by omega)), by omega, rsim_next HSIM.out HPU.out HPO.out (by simp [stepS]), inferInstance⟩, rfl⟩)
          case measure => simp [intOf]; omega
        · skip
          go_wp2_with (first | (go_at_call 63; with_reducible refine (ract_val x _ hv k fa (by omega) (by omega) HPU.out).mono ?_; rintro e w' ⟨rfl, y3, rfl⟩) | (go_at_call 63; with_reducible refine (ract_val x _ hv k ta (by omega) (by omega) HPO.out).mono ?_; rintro e w' ⟨rfl, y4, rfl⟩))
          go_roundw
          case rel => first | exact ⟨k + 1, (n + 1), (max m (n + 1)), by go_num, by go_num, (by first | exact congrArg (Value.int .i64) (by split <;> omega) | exact congrArg (Value.int .i64) (by omega)), by omega, rsim_next HSIM.out HPU.out HPO.out (by simp [stepS]), inferInstance⟩ | ((repeat apply Exists.intro); exact ⟨⟨k + 1, (n + 1), (max m (n + 1)), by go_num, by go_num, (by first | exact congrArg (Value.int .i64) (by split <;> omega) | exact congrArg (Value.int .i64) (by omega)), by omega, rsim_next HSIM.out HPU.out HPO.out (by simp [stepS]), inferInstance⟩, rfl⟩)
          case measure => simp [intOf]; omega
        · skip
          cases n with
          | zero =>
            go_wp2_with (first | (go_at_call 63; with_reducible refine (ract_val x _ hv k fa (by omega) (by omega) HPU.out).mono ?_; rintro e w' ⟨rfl, y3, rfl⟩) | (go_at_call 63; with_reducible refine (ract_val x _ hv k ta (by omega) (by omega) HPO.out).mono ?_; rintro e w' ⟨rfl, y4, rfl⟩))
            go_ret2
            exact ⟨by rw [HVN.out (simS_none_le _ _ _ _ _ _ (show k + 1 ≤ N by omega) (rsim_stop HSIM.out HPU.out HPO.out (by simp [stepS])))]; rfl, After.is_more _ _⟩
          | succ n =>
            go_wp2_with (first | (go_at_call 63; with_reducible refine (ract_val x _ hv k fa (by omega) (by omega) HPU.out).mono ?_; rintro e w' ⟨rfl, y3, rfl⟩) | (go_at_call 63; with_reducible refine (ract_val x _ hv k ta (by omega) (by omega) HPO.out).mono ?_; rintro e w' ⟨rfl, y4, rfl⟩))
            go_roundw
            case rel => first | exact ⟨k + 1, (n + 1), (max m (n + 1)), by go_num, by go_num, (by first | exact congrArg (Value.int .i64) (by split <;> omega) | exact congrArg (Value.int .i64) (by omega)), by omega, rsim_next HSIM.out HPU.out HPO.out (by simp [stepS]), inferInstance⟩ | ((repeat apply Exists.intro); exact ⟨⟨k + 1, (n + 1), (max m (n + 1)), by go_num, by go_num, (by first | exact congrArg (Value.int .i64) (by split <;> omega) | exact congrArg (Value.int .i64) (by omega)), by omega, rsim_next HSIM.out HPU.out HPO.out (by simp [stepS]), inferInstance⟩, rfl⟩)
            case measure => simp [intOf]; omega
        · skip
          go_wp2_with (first | (go_at_call 63; with_reducible refine (ract_val x _ hv k fa (by omega) (by omega) HPU.out).mono ?_; rintro e w' ⟨rfl, y3, rfl⟩) | (go_at_call 63; with_reducible refine (ract_val x _ hv k ta (by omega) (by omega) HPO.out).mono ?_; rintro e w' ⟨rfl, y4, rfl⟩))
          go_roundw
          case rel => first | exact ⟨k + 1, n, (max m (n + 1)), by go_num, by go_num, (by first | exact congrArg (Value.int .i64) (by split <;> omega) | exact congrArg (Value.int .i64) (by omega)), by omega, rsim_next HSIM.out HPU.out HPO.out (by simp [stepS]), inferInstance⟩ | ((repeat apply Exists.intro); exact ⟨⟨k + 1, n, (max m (n + 1)), by go_num, by go_num, (by first | exact congrArg (Value.int .i64) (by split <;> omega) | exact congrArg (Value.int .i64) (by omega)), by omega, rsim_next HSIM.out HPU.out HPO.out (by simp [stepS]), inferInstance⟩, rfl⟩)
          case measure => simp [intOf]; omega
    · obtain rfl : k = N := by omega
      go_upto_region 5 with fail
      go_cut [56] (fun a wx => a = .bool false ∧ After (w.alloc (.cells #[.slice A h.length c, .slice B l.length d] 24)) wx)
      case first =>
        have hn := HN.out
        rcases HC.out with ⟨h9, rfl⟩ | ⟨rfl, rfl⟩ | ⟨h9, rfl⟩
        all_goals
          go_wp2_with fail
          go_meet
          exact ⟨by first | (simp; omega) | simp, inferInstance⟩
      case rest =>
        obtain ⟨rfl, haft3⟩ := hcut
        obtain ⟨z2, rfl⟩ := After.is_more (w.alloc (.cells #[.slice A h.length c, .slice B l.length d] 24)) wc
        go_wp2_with fail
        go_ret2
        exact ⟨by rw [HVS.out n m HSIM.out]; rfl, After.is_more _ _⟩
end Go.Proofs.Ytglfocldoaigiaa
