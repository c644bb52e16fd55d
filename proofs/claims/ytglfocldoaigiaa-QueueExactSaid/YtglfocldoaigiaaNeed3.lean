/-
  Contract: queue.Need at good arguments.
-/
import Derived.Test.YtglfocldoaigiaaNeed2
namespace Go.Proofs.Ytglfocldoaigiaa
open Go.RowKit Go.BigFrame

theorem acts_val {w0 : World} {A B c d h l} (x : RW w0 A c B d h l) (w : World) [After w0 w] (hv : Valid h l) (t lag : Nat) (ht : t ≤ 1000000) (hlag : lag ≤ 1000000) (b : Nat) {v : Bool} (he : act h l lag t = v)
    (e1 : w.cell? ⟨b, 0, none⟩ = some (.slice A h.length c)) (e2 : w.cell? ⟨b, 1, none⟩ = some (.slice B l.length d)) :
    Calls Try.prog 60 #[.int .i64 (t : Nat), .int .i64 (lag : Nat), .pointer (some ⟨b, 0, none⟩)] w fun e w' => e = .returned (.bool v) ∧ ∃ y, w' = w.more y := by
  rw [← he]; exact acts_any x w hv t lag ht hlag b e1 e2
theorem push_c {w0 : World} (w : World) [After w0 w] (bn bp : Nat) [New w0 bn] [New w0 bp] (n m : Nat) (hn : n ≤ 1000000) (h1 : Blk w bn 3 #[.int .i64 (n : Nat)]) (h2 : Blk w bp 3 #[.int .i64 (m : Nat)]) (hne : bn ≠ bp) :
    Calls Try.prog 61 #[.pointer (some ⟨bn, 0, none⟩), .pointer (some ⟨bp, 0, none⟩)] w fun e w' => e = .returned (.tuple #[]) ∧
      Blk w' bn 3 #[.int .i64 ((n + 1 : Nat) : Int)] ∧ Blk w' bp 3 #[.int .i64 ((max m (n + 1) : Nat) : Int)] ∧ After w0 w' := by
  refine (push_any w bn bp n m (by omega) h1 h2 hne).mono ?_
  rintro e w' ⟨rfl, rfl⟩
  refine ⟨rfl, ?_, ?_, inferInstance⟩
  · exact ((h1.set_ 0 _).alloc _).far (p := ⟨bp, 0, none⟩) hne _
  · have := ((h2.far (p := ⟨bn, 0, none⟩) (fun e => hne e.symm) (.int .i64 ((n : Int) + 1))).alloc (.cells #[.int .i64 ((n : Int) + 1)] 3)).set_ 0 (.int .i64 (max (m : Int) ((n : Int) + 1)))
    have e : (max (m : Int) ((n : Int) + 1)) = ((max m (n + 1) : Nat) : Int) := by omega
    rw [e] at this ⊢
    exact this
theorem sim_next {h l : List Bool} {fa ta : Nat} {first : Bool} {init k : Nat} {s s' : Nat × Nat} {pu po : Bool} (e : simS h l fa ta first init k = some s) (h1 : act h l fa k = pu) (h2 : act h l ta k = po) (h3 : stepS pu po first s = some s') :
    simS h l fa ta first init (k + 1) = some s' := by rw [simS, e, Option.bind_some, h1, h2, h3]
theorem sim_stop {h l : List Bool} {fa ta : Nat} {first : Bool} {init k : Nat} {s : Nat × Nat} {pu po : Bool} (e : simS h l fa ta first init k = some s) (h1 : act h l fa k = pu) (h2 : act h l ta k = po) (h3 : stepS pu po first s = none) :
    simS h l fa ta first init (k + 1) = none := by rw [simS, e, Option.bind_some, h1, h2, h3]

set_option maxRecDepth 100000 in
set_option maxHeartbeats 8000000 in
theorem need_ok {w0 : World} {A B c d h l} (x : RW w0 A c B d h l) (w : World) [After w0 w] (fa ta init : Nat) (first : Bool) (hb : okArgs h l fa ta init) :
    Calls Try.prog 26 #[.agg #[.slice A h.length c, .slice B l.length d], .int .i64 (fa : Nat), .int .i64 (ta : Nat), .int .i64 (init : Nat), .bool first] w fun e w' => e = .returned (.tuple #[.int .i64 (needV h l fa ta init first).1, .int .i64 (needV h l fa ta init first).2]) ∧ ∃ y, w' = w.more y := by
  obtain ⟨hv, a1, a2, a3, a4, a5, a6⟩ := id hb
  have hc0 := Lib.hid (checkI_0 hv)
  have hv1 := hv.1
  have hv2 := hv.2
  obtain ⟨mx, hmx⟩ : ∃ mx : Nat, max fa ta = mx := ⟨_, rfl⟩
  have hmx64 : mx ≤ 64 := by omega
  have hT : max fa ta + h.length + l.length ≤ mx + h.length + 2 * l.length := by omega
  have HVS := Lib.hid (fun n m => needV_some (h := h) (l := l) (n := n) (m := m) first hb (mx + h.length + 2 * l.length) hT)
  have HVN := Lib.hid (needV_none (h := h) (l := l) first hb (mx + h.length + 2 * l.length) hT)
  have hcase : (ta < fa ∧ fa = mx) ∨ (fa = mx ∧ ta = mx) ∨ (fa < ta ∧ ta = mx) := by omega
  have HC := Lib.hid hcase
  clear hmx hb hT hcase
  go_enter Try.func26, Try.ntmps26
  go_upto_region 1 with fail
  go_cut [41] (fun a wx => a = .bool false ∧ After (w.alloc (.cells #[.slice A h.length c, .slice B l.length d] 24)) wx)
  case first =>
    rcases HC.out with ⟨h9, rfl⟩ | ⟨rfl, rfl⟩ | ⟨h9, rfl⟩
    all_goals
      go_wp2_with (go_at_call 19; with_reducible refine (check_val x _ hc0.out).mono ?_; rintro e w' ⟨rfl, y, rfl⟩)
      go_meet
      exact ⟨congrArg Value.bool (by simp; omega), inferInstance⟩
  case rest =>
    obtain ⟨rfl, haft⟩ := hcut
    obtain ⟨z0, rfl⟩ := After.is_more (w.alloc (.cells #[.slice A h.length c, .slice B l.length d] 24)) wc
    have iN : New (w.alloc (.cells #[.slice A h.length c, .slice B l.length d] 24)) ((w.alloc (.cells #[.slice A h.length c, .slice B l.length d] 24)).more z0).heap.size := inferInstance
    have iP : New (w.alloc (.cells #[.slice A h.length c, .slice B l.length d] 24)) (((w.alloc (.cells #[.slice A h.length c, .slice B l.length d] 24)).more z0).heap.size + 1) := inferInstance
    have b0 : Blk ((((w.alloc (.cells #[.slice A h.length c, .slice B l.length d] 24)).more z0).alloc (.cells #[.int .i64 (init : Nat)] 3)).alloc (.cells #[.int .i64 (init : Nat)] 3)) ((w.alloc (.cells #[.slice A h.length c, .slice B l.length d] 24)).more z0).heap.size 3 #[.int .i64 (init : Nat)] := (Blk.new _ _ _).alloc _
    have b1 : Blk ((((w.alloc (.cells #[.slice A h.length c, .slice B l.length d] 24)).more z0).alloc (.cells #[.int .i64 (init : Nat)] 3)).alloc (.cells #[.int .i64 (init : Nat)] 3)) (((w.alloc (.cells #[.slice A h.length c, .slice B l.length d] 24)).more z0).heap.size + 1) 3 #[.int .i64 (init : Nat)] := by
      have := Blk.new (((w.alloc (.cells #[.slice A h.length c, .slice B l.length d] 24)).more z0).alloc (.cells #[.int .i64 (init : Nat)] 3)) 3 #[.int .i64 (init : Nat)]
      rwa [size_alloc_] at this
    go_upto_region 6 with fail
    have hne : ((w.alloc (.cells #[.slice A h.length c, .slice B l.length d] 24)).more z0).heap.size ≠ ((w.alloc (.cells #[.slice A h.length c, .slice B l.length d] 24)).more z0).heap.size + 1 := by omega
    generalize hbn : ((w.alloc (.cells #[.slice A h.length c, .slice B l.length d] 24)).more z0).heap.size = bn at *
    clear hbn
    obtain ⟨N, hN⟩ : ∃ N : Nat, mx + h.length + 2 * l.length = N := ⟨_, rfl⟩
    have HN := Lib.hid hN
    rw [hN] at HVS HVN
    have hNb : N ≤ 400 := by omega
    clear hN
    go_cut [57, 58] (fun a b wx => a = .int .i64 (N : Nat) ∧ b = .int .i64 0 ∧ Blk wx bn 3 #[.int .i64 (init : Nat)] ∧ Blk wx (bn + 1) 3 #[.int .i64 (init : Nat)] ∧ After (w.alloc (.cells #[.slice A h.length c, .slice B l.length d] 24)) wx)
    case first =>
      rcases HC.out with ⟨h9, rfl⟩ | ⟨rfl, rfl⟩ | ⟨h9, rfl⟩
      all_goals
        go_wp2_with fail
        go_meet
        exact ⟨congrArg (Value.int .i64) (by have := HN.out; omega), rfl, b0, b1, inferInstance⟩
    case rest =>
      clear b0 b1
      obtain ⟨rfl, rfl, b0, b1, haft⟩ := hcut
      have iP' : New (w.alloc (.cells #[.slice A h.length c, .slice B l.length d] 24)) (bn + 1) := iP
      go_wp2_with fail
      go_loopw [58] (fun i wr => ∃ k n m : Nat, i = .int .i64 (k : Nat) ∧ k ≤ N ∧ Hid (simS h l fa ta first init k = some (n, m)) ∧ Blk wr bn 3 #[.int .i64 (n : Nat)] ∧ Blk wr (bn + 1) 3 #[.int .i64 (m : Nat)] ∧ After (w.alloc (.cells #[.slice A h.length c, .slice B l.length d] 24)) wr) (fun i _ => N - (intOf i).toNat)
      case atStart => exact ⟨0, init, init, rfl, by omega, rfl, b0, b1, haft⟩
      case round =>
        clear b0 b1
        obtain ⟨k, n, m, rfl, hk, HSIM, b0, b1, haft2⟩ := hrel
        have hbd := simS_bd h l fa ta first init k HSIM.out
        obtain ⟨z, rfl⟩ := After.is_more (w.alloc (.cells #[.slice A h.length c, .slice B l.length d] 24)) wr
        have cn : ((w.alloc (.cells #[.slice A h.length c, .slice B l.length d] 24)).more z).cell? ⟨bn, 0, none⟩ = some (.int .i64 (n : Nat)) := by rw [b0.cell]; rfl
        have cm : ((w.alloc (.cells #[.slice A h.length c, .slice B l.length d] 24)).more z).cell? ⟨bn + 1, 0, none⟩ = some (.int .i64 (m : Nat)) := by rw [b1.cell]; rfl
        by_cases hlt : k < N
        · obtain ⟨pu, hpu⟩ : ∃ pu, act h l fa k = pu := ⟨_, rfl⟩
          obtain ⟨po, hpo⟩ : ∃ po, act h l ta k = po := ⟨_, rfl⟩
          have HPU := Lib.hid hpu
          have HPO := Lib.hid hpo
          clear hpu hpo
          have iL0 := b0.is_le
          have iL1 := b1.is_le
          have f0 := b0.frozen 0
          cases pu <;> cases po <;> cases first
          · skip
            go_wp2_with (first | (go_at_call 60; with_reducible refine (acts_val x _ hv k fa (by omega) (by omega) w.heap.size HPU.out (by simp [go_sem]) (by simp [go_sem])).mono ?_; rintro e w' ⟨rfl, y3, rfl⟩) | (go_at_call 60; with_reducible refine (acts_val x _ hv k ta (by omega) (by omega) w.heap.size HPO.out (by simp [go_sem]) (by simp [go_sem])).mono ?_; rintro e w' ⟨rfl, y4, rfl⟩))
            go_roundw
            case rel => first | exact ⟨k + 1, n, m, by go_num, by omega, sim_next HSIM.out HPU.out HPO.out (by simp [stepS]), b0.after, b1.after, inferInstance⟩ | ((repeat apply Exists.intro); exact ⟨⟨k + 1, n, m, by go_num, by omega, sim_next HSIM.out HPU.out HPO.out (by simp [stepS]), b0.after, b1.after, inferInstance⟩, rfl⟩)
            case measure => simp [intOf]; omega
          · skip
            go_wp2_with (first | (go_at_call 60; with_reducible refine (acts_val x _ hv k fa (by omega) (by omega) w.heap.size HPU.out (by simp [go_sem]) (by simp [go_sem])).mono ?_; rintro e w' ⟨rfl, y3, rfl⟩) | (go_at_call 60; with_reducible refine (acts_val x _ hv k ta (by omega) (by omega) w.heap.size HPO.out (by simp [go_sem]) (by simp [go_sem])).mono ?_; rintro e w' ⟨rfl, y4, rfl⟩))
            go_roundw
            case rel => first | exact ⟨k + 1, n, m, by go_num, by omega, sim_next HSIM.out HPU.out HPO.out (by simp [stepS]), b0.after, b1.after, inferInstance⟩ | ((repeat apply Exists.intro); exact ⟨⟨k + 1, n, m, by go_num, by omega, sim_next HSIM.out HPU.out HPO.out (by simp [stepS]), b0.after, b1.after, inferInstance⟩, rfl⟩)
            case measure => simp [intOf]; omega
          · skip
            cases n with
            | zero =>
              go_wp2_with (first | (go_at_call 60; with_reducible refine (acts_val x _ hv k fa (by omega) (by omega) w.heap.size HPU.out (by simp [go_sem]) (by simp [go_sem])).mono ?_; rintro e w' ⟨rfl, y3, rfl⟩) | (go_at_call 60; with_reducible refine (acts_val x _ hv k ta (by omega) (by omega) w.heap.size HPO.out (by simp [go_sem]) (by simp [go_sem])).mono ?_; rintro e w' ⟨rfl, y4, rfl⟩))
              go_ret2
              exact ⟨by rw [HVN.out (simS_none_le _ _ _ _ _ _ (show k + 1 ≤ N by omega) (sim_stop HSIM.out HPU.out HPO.out (by simp [stepS])))]; rfl, After.is_more _ _⟩
            | succ n =>
              go_wp2_with (first | (go_at_call 60; with_reducible refine (acts_val x _ hv k fa (by omega) (by omega) w.heap.size HPU.out (by simp [go_sem]) (by simp [go_sem])).mono ?_; rintro e w' ⟨rfl, y3, rfl⟩) | (go_at_call 60; with_reducible refine (acts_val x _ hv k ta (by omega) (by omega) w.heap.size HPO.out (by simp [go_sem]) (by simp [go_sem])).mono ?_; rintro e w' ⟨rfl, y4, rfl⟩))
              go_roundw
              case rel => first | exact ⟨k + 1, n, m, by go_num, by omega, sim_next HSIM.out HPU.out HPO.out (by simp [stepS]), (by have := (b0.after (w' := (((w.alloc (.cells #[.slice A h.length c, .slice B l.length d] 24)).more z).more y3).more y4)).set_ 0 (.int .i64 (n : Nat)); simpa using this), ((b1.after (w' := (((w.alloc (.cells #[.slice A h.length c, .slice B l.length d] 24)).more z).more y3).more y4)).far (p := ⟨bn, 0, none⟩) (fun e => hne e.symm) _), inferInstance⟩ | ((repeat apply Exists.intro); exact ⟨⟨k + 1, n, m, by go_num, by omega, sim_next HSIM.out HPU.out HPO.out (by simp [stepS]), (by have := (b0.after (w' := (((w.alloc (.cells #[.slice A h.length c, .slice B l.length d] 24)).more z).more y3).more y4)).set_ 0 (.int .i64 (n : Nat)); simpa using this), ((b1.after (w' := (((w.alloc (.cells #[.slice A h.length c, .slice B l.length d] 24)).more z).more y3).more y4)).far (p := ⟨bn, 0, none⟩) (fun e => hne e.symm) _), inferInstance⟩, rfl⟩)
              case measure => simp [intOf]; omega
          · skip
            cases n with
            | zero =>
              go_wp2_with (first | (go_at_call 60; with_reducible refine (acts_val x _ hv k fa (by omega) (by omega) w.heap.size HPU.out (by simp [go_sem]) (by simp [go_sem])).mono ?_; rintro e w' ⟨rfl, y3, rfl⟩) | (go_at_call 60; with_reducible refine (acts_val x _ hv k ta (by omega) (by omega) w.heap.size HPO.out (by simp [go_sem]) (by simp [go_sem])).mono ?_; rintro e w' ⟨rfl, y4, rfl⟩))
              go_ret2
              exact ⟨by rw [HVN.out (simS_none_le _ _ _ _ _ _ (show k + 1 ≤ N by omega) (sim_stop HSIM.out HPU.out HPO.out (by simp [stepS])))]; rfl, After.is_more _ _⟩
            | succ n =>
              go_wp2_with (first | (go_at_call 60; with_reducible refine (acts_val x _ hv k fa (by omega) (by omega) w.heap.size HPU.out (by simp [go_sem]) (by simp [go_sem])).mono ?_; rintro e w' ⟨rfl, y3, rfl⟩) | (go_at_call 60; with_reducible refine (acts_val x _ hv k ta (by omega) (by omega) w.heap.size HPO.out (by simp [go_sem]) (by simp [go_sem])).mono ?_; rintro e w' ⟨rfl, y4, rfl⟩))
              go_roundw
              case rel => first | exact ⟨k + 1, n, m, by go_num, by omega, sim_next HSIM.out HPU.out HPO.out (by simp [stepS]), (by have := (b0.after (w' := (((w.alloc (.cells #[.slice A h.length c, .slice B l.length d] 24)).more z).more y3).more y4)).set_ 0 (.int .i64 (n : Nat)); simpa using this), ((b1.after (w' := (((w.alloc (.cells #[.slice A h.length c, .slice B l.length d] 24)).more z).more y3).more y4)).far (p := ⟨bn, 0, none⟩) (fun e => hne e.symm) _), inferInstance⟩ | ((repeat apply Exists.intro); exact ⟨⟨k + 1, n, m, by go_num, by omega, sim_next HSIM.out HPU.out HPO.out (by simp [stepS]), (by have := (b0.after (w' := (((w.alloc (.cells #[.slice A h.length c, .slice B l.length d] 24)).more z).more y3).more y4)).set_ 0 (.int .i64 (n : Nat)); simpa using this), ((b1.after (w' := (((w.alloc (.cells #[.slice A h.length c, .slice B l.length d] 24)).more z).more y3).more y4)).far (p := ⟨bn, 0, none⟩) (fun e => hne e.symm) _), inferInstance⟩, rfl⟩)
              case measure => simp [intOf]; omega
          · skip
            go_wp2_with (first | (go_at_call 60; with_reducible refine (acts_val x _ hv k fa (by omega) (by omega) w.heap.size HPU.out (by simp [go_sem]) (by simp [go_sem])).mono ?_; rintro e w' ⟨rfl, y3, rfl⟩) | (go_at_call 60; with_reducible refine (acts_val x _ hv k ta (by omega) (by omega) w.heap.size HPO.out (by simp [go_sem]) (by simp [go_sem])).mono ?_; rintro e w' ⟨rfl, y4, rfl⟩) | (go_at_call 61; refine (push_c (w0 := (w.alloc (.cells #[.slice A h.length c, .slice B l.length d] 24))) _ bn (bn + 1) n m (by omega) b0.after b1.after hne).mono ?_; rintro e w' ⟨rfl, p0, p1, paft⟩; obtain ⟨y5, rfl⟩ := After.is_more (w.alloc (.cells #[.slice A h.length c, .slice B l.length d] 24)) w'; have cn2 : ((w.alloc (.cells #[.slice A h.length c, .slice B l.length d] 24)).more y5).cell? ⟨bn, 0, none⟩ = some (.int .i64 ((n + 1 : Nat) : Int)) := (by rw [p0.cell]; rfl); have f2 := p0.frozen 0; have iL2 := p0.is_le))
            go_roundw
            case rel => first | exact ⟨k + 1, (n + 1), (max m (n + 1)), by go_num, by omega, sim_next HSIM.out HPU.out HPO.out (by simp [stepS]), p0.after, p1.after, inferInstance⟩ | ((repeat apply Exists.intro); exact ⟨⟨k + 1, (n + 1), (max m (n + 1)), by go_num, by omega, sim_next HSIM.out HPU.out HPO.out (by simp [stepS]), p0.after, p1.after, inferInstance⟩, rfl⟩)
            case measure => simp [intOf]; omega
          · skip
            go_wp2_with (first | (go_at_call 60; with_reducible refine (acts_val x _ hv k fa (by omega) (by omega) w.heap.size HPU.out (by simp [go_sem]) (by simp [go_sem])).mono ?_; rintro e w' ⟨rfl, y3, rfl⟩) | (go_at_call 60; with_reducible refine (acts_val x _ hv k ta (by omega) (by omega) w.heap.size HPO.out (by simp [go_sem]) (by simp [go_sem])).mono ?_; rintro e w' ⟨rfl, y4, rfl⟩) | (go_at_call 61; refine (push_c (w0 := (w.alloc (.cells #[.slice A h.length c, .slice B l.length d] 24))) _ bn (bn + 1) n m (by omega) b0.after b1.after hne).mono ?_; rintro e w' ⟨rfl, p0, p1, paft⟩; obtain ⟨y5, rfl⟩ := After.is_more (w.alloc (.cells #[.slice A h.length c, .slice B l.length d] 24)) w'; have cn2 : ((w.alloc (.cells #[.slice A h.length c, .slice B l.length d] 24)).more y5).cell? ⟨bn, 0, none⟩ = some (.int .i64 ((n + 1 : Nat) : Int)) := (by rw [p0.cell]; rfl); have f2 := p0.frozen 0; have iL2 := p0.is_le))
            go_roundw
            case rel => first | exact ⟨k + 1, (n + 1), (max m (n + 1)), by go_num, by omega, sim_next HSIM.out HPU.out HPO.out (by simp [stepS]), p0.after, p1.after, inferInstance⟩ | ((repeat apply Exists.intro); exact ⟨⟨k + 1, (n + 1), (max m (n + 1)), by go_num, by omega, sim_next HSIM.out HPU.out HPO.out (by simp [stepS]), p0.after, p1.after, inferInstance⟩, rfl⟩)
            case measure => simp [intOf]; omega
          · skip
            cases n with
            | zero =>
              go_wp2_with (first | (go_at_call 60; with_reducible refine (acts_val x _ hv k fa (by omega) (by omega) w.heap.size HPU.out (by simp [go_sem]) (by simp [go_sem])).mono ?_; rintro e w' ⟨rfl, y3, rfl⟩) | (go_at_call 60; with_reducible refine (acts_val x _ hv k ta (by omega) (by omega) w.heap.size HPO.out (by simp [go_sem]) (by simp [go_sem])).mono ?_; rintro e w' ⟨rfl, y4, rfl⟩))
              go_ret2
              exact ⟨by rw [HVN.out (simS_none_le _ _ _ _ _ _ (show k + 1 ≤ N by omega) (sim_stop HSIM.out HPU.out HPO.out (by simp [stepS])))]; rfl, After.is_more _ _⟩
            | succ n =>
              go_wp2_with (first | (go_at_call 60; with_reducible refine (acts_val x _ hv k fa (by omega) (by omega) w.heap.size HPU.out (by simp [go_sem]) (by simp [go_sem])).mono ?_; rintro e w' ⟨rfl, y3, rfl⟩) | (go_at_call 60; with_reducible refine (acts_val x _ hv k ta (by omega) (by omega) w.heap.size HPO.out (by simp [go_sem]) (by simp [go_sem])).mono ?_; rintro e w' ⟨rfl, y4, rfl⟩) | (go_at_call 61; refine (push_c (w0 := (w.alloc (.cells #[.slice A h.length c, .slice B l.length d] 24))) _ bn (bn + 1) n m (by omega) (by have := (b0.after (w' := (((w.alloc (.cells #[.slice A h.length c, .slice B l.length d] 24)).more z).more y3).more y4)).set_ 0 (.int .i64 (n : Nat)); simpa using this) ((b1.after (w' := (((w.alloc (.cells #[.slice A h.length c, .slice B l.length d] 24)).more z).more y3).more y4)).far (p := ⟨bn, 0, none⟩) (fun e => hne e.symm) _) hne).mono ?_; rintro e w' ⟨rfl, p0, p1, paft⟩; obtain ⟨y5, rfl⟩ := After.is_more (w.alloc (.cells #[.slice A h.length c, .slice B l.length d] 24)) w'; have cn2 : ((w.alloc (.cells #[.slice A h.length c, .slice B l.length d] 24)).more y5).cell? ⟨bn, 0, none⟩ = some (.int .i64 ((n + 1 : Nat) : Int)) := (by rw [p0.cell]; rfl); have f2 := p0.frozen 0; have iL2 := p0.is_le))
              go_roundw
              case rel => first | exact ⟨k + 1, (n + 1), (max m (n + 1)), by go_num, by omega, sim_next HSIM.out HPU.out HPO.out (by simp [stepS]), p0.after, p1.after, inferInstance⟩ | ((repeat apply Exists.intro); exact ⟨⟨k + 1, (n + 1), (max m (n + 1)), by go_num, by omega, sim_next HSIM.out HPU.out HPO.out (by simp [stepS]), p0.after, p1.after, inferInstance⟩, rfl⟩)
              case measure => simp [intOf]; omega
          · skip
            go_wp2_with (first | (go_at_call 60; with_reducible refine (acts_val x _ hv k fa (by omega) (by omega) w.heap.size HPU.out (by simp [go_sem]) (by simp [go_sem])).mono ?_; rintro e w' ⟨rfl, y3, rfl⟩) | (go_at_call 60; with_reducible refine (acts_val x _ hv k ta (by omega) (by omega) w.heap.size HPO.out (by simp [go_sem]) (by simp [go_sem])).mono ?_; rintro e w' ⟨rfl, y4, rfl⟩) | (go_at_call 61; refine (push_c (w0 := (w.alloc (.cells #[.slice A h.length c, .slice B l.length d] 24))) _ bn (bn + 1) n m (by omega) b0.after b1.after hne).mono ?_; rintro e w' ⟨rfl, p0, p1, paft⟩; obtain ⟨y5, rfl⟩ := After.is_more (w.alloc (.cells #[.slice A h.length c, .slice B l.length d] 24)) w'; have cn2 : ((w.alloc (.cells #[.slice A h.length c, .slice B l.length d] 24)).more y5).cell? ⟨bn, 0, none⟩ = some (.int .i64 ((n + 1 : Nat) : Int)) := (by rw [p0.cell]; rfl); have f2 := p0.frozen 0; have iL2 := p0.is_le))
            go_roundw
            case rel => first | exact ⟨k + 1, n, (max m (n + 1)), by go_num, by omega, sim_next HSIM.out HPU.out HPO.out (by simp [stepS]), (by have := p0.set_ 0 (.int .i64 (n : Nat)); simpa using this), (p1.far (p := ⟨bn, 0, none⟩) (fun e => hne e.symm) _), inferInstance⟩ | ((repeat apply Exists.intro); exact ⟨⟨k + 1, n, (max m (n + 1)), by go_num, by omega, sim_next HSIM.out HPU.out HPO.out (by simp [stepS]), (by have := p0.set_ 0 (.int .i64 (n : Nat)); simpa using this), (p1.far (p := ⟨bn, 0, none⟩) (fun e => hne e.symm) _), inferInstance⟩, rfl⟩)
            case measure => simp [intOf]; omega
        · obtain rfl : k = N := by omega
          go_wp2_with fail
          go_ret2
          exact ⟨by rw [HVS.out n m HSIM.out]; rfl, After.is_more _ _⟩
end Go.Proofs.Ytglfocldoaigiaa
