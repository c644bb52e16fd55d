/-
  Contracts of package pace: Nth.
-/
import Derived.Test.YtglfocldoaigiaaPace1
namespace Go.Proofs.Ytglfocldoaigiaa
open Go.RowKit Go.BigFrame

def nthV (h l : List Bool) (k : Int) : Int × Bool :=
  if W.check h l = 0 ∧ 0 ≤ k ∧ k ≤ 2147483647 ∧ (k < W.cnt h ∨ 0 < W.cnt l) then (nthN h l k.toNat, true) else (0, false)
theorem nthV_bad {h l : List Bool} (hv : ¬ Valid h l) (k : Int) : nthV h l k = (0, false) := by
  unfold nthV; rw [if_neg]; intro e; exact hv (Valid.of_checkI (by unfold checkI; omega))
theorem nthV_out {h l : List Bool} {k : Int} (hk : k < 0 ∨ 2147483647 < k) : nthV h l k = (0, false) := by
  unfold nthV; rw [if_neg]; omega
theorem nthV_none {h l : List Bool} {k : Nat} (hk : W.cnt h ≤ k) (hl : W.cnt l = 0) : nthV h l k = (0, false) := by
  unfold nthV; rw [if_neg]; omega
theorem nthV_head {h l : List Bool} (hv : Valid h l) {k : Nat} (h2 : k ≤ 2147483647) (hk : k < W.cnt h) : nthV h l k = ((idx h).getD k 0, true) := by
  unfold nthV; rw [if_pos ⟨check_of_valid hv, by omega, by omega, .inl (by omega)⟩]; unfold nthN; rw [Int.toNat_natCast, if_pos hk]
theorem nthV_loop {h l : List Bool} (hv : Valid h l) {j : Nat} (h2 : j + W.cnt h ≤ 2147483647) (hl : 0 < W.cnt l) :
    nthV h l ((j + W.cnt h : Nat) : Int) = ((h.length : Int) + ((j / W.cnt l : Nat) : Int) * (l.length : Int) + (idx l).getD (j % W.cnt l) 0, true) := by
  unfold nthV; rw [if_pos ⟨check_of_valid hv, by omega, by omega, .inr hl⟩]; unfold nthN; rw [Int.toNat_natCast, if_neg (by omega), show j + W.cnt h - W.cnt h = j by omega]
set_option maxHeartbeats 1600000 in
theorem nth_any {w0 : World} {A B c d h l} (x : RW w0 A c B d h l) (w : World) [After w0 w] (k : Int) :
    Calls Try.prog 32 #[.agg #[.slice A h.length c, .slice B l.length d], .int .i64 k] w fun e w' => e = .returned (.tuple #[.int .i64 (nthV h l k).1, .bool (nthV h l k).2]) ∧ ∃ y, w' = w.more y := by
  rcases check_cases h l with hv | ⟨hv, h5⟩
  · have hc0 := Lib.hid (checkI_0 hv)
    by_cases hk0 : k < 0
    · rw [nthV_out (.inl hk0)]
      go_enter Try.func32, Try.ntmps32
      go_wp2_with (go_at_call 19; refine (check_val x _ hc0.out).mono ?_; rintro e w' ⟨rfl, y, rfl⟩)
      go_ret2
      exact ⟨rfl, After.is_more _ _⟩
    · by_cases hk1 : 2147483647 < k
      · rw [nthV_out (.inr hk1)]
        go_enter Try.func32, Try.ntmps32
        go_wp2_with (go_at_call 19; refine (check_val x _ hc0.out).mono ?_; rintro e w' ⟨rfl, y, rfl⟩)
        go_ret2
        exact ⟨rfl, After.is_more _ _⟩
      · obtain ⟨k, rfl⟩ := Int.eq_ofNat_of_zero_le (show 0 ≤ k by omega)
        have hv2 := hv.2
        have hv1 := hv.1
        have hlen : l.length ≤ 64 := by omega
        have hlenh : h.length ≤ 64 := by omega
        have hil := idx_len l
        have hih := idx_len h
        have hcl := W.cnt_le l
        have hch := W.cnt_le h
        have HIL := Lib.hid hil
        have HIH := Lib.hid hih
        clear hil hih
        go_enter Try.func32, Try.ntmps32
        go_wp2_with (go_at_call 19; refine (check_val x _ hc0.out).mono ?_; rintro e w' ⟨rfl, y, rfl⟩)
        go_cut [6, 7] (fun a b wx => ∃ A1 c1 A2 c2, a = .slice A1 (idx h).length c1 ∧ b = .slice A2 (idx l).length c2 ∧ RI wx A1 c1 (idx h) ∧ RI wx A2 c2 (idx l) ∧ After (w.alloc (.cells #[.slice A h.length c, .slice B l.length d] 24)) wx)
        case first =>
          go_region_with ((first
            | (go_at_call 53; with_reducible refine (ones_list x.head _ hlenh).mono ?_; rintro e w' ⟨A1, c1, rfl, hr1, y1, rfl⟩)
            | (go_at_call 53; with_reducible refine (ones_list x.loop _ hlen).mono ?_; rintro e w' ⟨A2, c2, rfl, hr2, y2, rfl⟩)))
          all_goals
            go_wp2_with fail
            go_meet
            exact ⟨A1, c1, A2, c2, rfl, rfl, hr1.here _, hr2.here _, inferInstance⟩
        case rest =>
          obtain ⟨A1, c1, A2, c2, rfl, rfl, hr1, hr2, haft⟩ := hcut
          obtain ⟨z, rfl⟩ := After.is_more (w.alloc (.cells #[.slice A h.length c, .slice B l.length d] 24)) wc
          have E1 : (idx h).length = W.cnt h := HIH.out
          have E2 : (idx l).length = W.cnt l := HIL.out
          have hc1 := hr1.le
          have hc2 := hr2.le
          by_cases hkh : k < (idx h).length
          · obtain ⟨ad, zv, rfl, hbk, hcv, HZ⟩ := hr1.int hkh
            have HV := Lib.hid (nthV_head (k := k) hv (by omega) (by omega))
            clear E1 E2
            go_wp2
            go_ret2
            exact ⟨by rw [HV.out]; exact ret_ib HZ.out.symm rfl, After.is_more _ _⟩
          · by_cases hl0 : (idx l).length = 0
            · have HV := Lib.hid (nthV_none (h := h) (l := l) (k := k) (by omega) (by omega))
              have hb : ((((idx l).length : Nat) : Int) == 0) = true := by rw [hl0]; rfl
              clear E1 E2 hl0
              go_wp2
              go_ret2
              exact ⟨by rw [HV.out]; rfl, After.is_more _ _⟩
            · obtain ⟨j, rfl⟩ : ∃ j : Nat, k = j + (idx h).length := ⟨k - (idx h).length, by omega⟩
              have HV := nthV_loop (j := j) hv (by omega) (by omega)
              rw [← E2, ← E1] at HV
              obtain ⟨q, hq⟩ : ∃ q, j / (idx l).length = q := ⟨_, rfl⟩
              obtain ⟨r, hr⟩ : ∃ r, j % (idx l).length = r := ⟨_, rfl⟩
              have hrl : r < (idx l).length := by rw [← hr]; exact Nat.mod_lt _ (by omega)
              have hqj : q ≤ j := by rw [← hq]; exact Nat.div_le_self _ _
              rw [hq, hr] at HV
              have e1 : ((j : Int).tdiv ((idx l).length : Int)) = (q : Int) := by rw [Int.tdiv_eq_ediv_of_nonneg (by omega), ← hq]; simp
              have e2 : ((j : Int).tmod ((idx l).length : Int)) = (r : Int) := by rw [Int.tmod_eq_emod_of_nonneg (by omega), ← hr]; simp
              have zb := idx_bd l r (by omega)
              obtain ⟨ad, zv, rfl, hbk, hcv, HZ⟩ := hr2.int hrl
              rw [HZ.out] at zb HV
              have HV := Lib.hid HV
              have m1 : 0 ≤ (q : Int) * (l.length : Int) ∧ (q : Int) * (l.length : Int) ≤ 2147483647 * 64 := by
                constructor
                · exact Int.mul_nonneg (by omega) (by omega)
                · exact Int.mul_le_mul (by omega) (by omega) (by omega) (by omega)
              have w1 : IntKind.i64.wrap ((q : Int) * (l.length : Int)) = (q : Int) * (l.length : Int) := IntWalk.i64_in _ (by omega)
              have w2 : IntKind.i64.wrap ((h.length : Int) + (q : Int) * (l.length : Int)) = (h.length : Int) + (q : Int) * (l.length : Int) := IntWalk.i64_in _ (by omega)
              have w3 : IntKind.i64.wrap ((h.length : Int) + (q : Int) * (l.length : Int) + zv) = (h.length : Int) + (q : Int) * (l.length : Int) + zv := IntWalk.i64_in _ (by omega)
              have w4 : IntKind.i64.wrap (q : Int) = (q : Int) := IntWalk.i64_in _ (by omega)
              have w5 : (((j + (idx h).length : Nat) : Int) - ((idx h).length : Int)) = (j : Int) := by omega
              have n1 : ¬ (((idx l).length : Int) = 0) := by omega
              have n2 : (((idx l).length : Int) == 0) = false := by simpa using n1
              clear E1 E2 hq hr
              go_wp2_with fail
              go_quiet (fail)
              go_wp2
              go_ret2
              exact ⟨by rw [HV.out]; rfl, After.is_more _ _⟩
  · rw [nthV_bad hv]
    rcases h5 with h5 | h5
    all_goals
      have hc0 := Lib.hid h5
      clear h5
      go_enter Try.func32, Try.ntmps32
      go_wp2_with (go_at_call 19; refine (check_val x _ hc0.out).mono ?_; rintro e w' ⟨rfl, y, rfl⟩)
      go_ret2
      exact ⟨rfl, After.is_more _ _⟩
end Go.Proofs.Ytglfocldoaigiaa
