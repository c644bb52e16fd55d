/-
  Contracts of the reference: texts, Clocks, Decls, equations, claims, steps (printed by gen_srsame.py).
-/
import Derived.Test.YtdghfhnkacfahaaSQa
set_option linter.unusedVariables false
set_option linter.unusedSimpArgs false
namespace Go.Proofs.Ytdghfhnkacfahaa
open Go.RowKit Go.BigFrame

variable {S : Prop}
set_option maxRecDepth 100000 in
set_option maxHeartbeats 3200000 in
theorem rtexts_any {w0 : World} {A1 B1 : Option Addr} {c1 d1 : Nat} {xl yl : List ByteArray} (x : RowOf 1 PStr w0 ⟨A1, c1, xl⟩) (y : RowOf 1 PStr w0 ⟨B1, d1, yl⟩) (w : World) (aft : After w0 w) :
    Calls Try.prog 27 #[.slice A1 xl.length c1, .slice B1 yl.length d1] w fun e w' => e = .returned (.bool (lsame strSame xl yl)) ∧ After w w' := by
  have XX := Lib.hid x
  have YY := Lib.hid y
  have hx1 := x.len
  have hy1 := y.len
  simp only [] at hx1 hy1
  clear x y
  obtain ⟨n, hn⟩ : ∃ n, xl.length = n := ⟨_, rfl⟩
  obtain ⟨m, hm⟩ : ∃ m, yl.length = m := ⟨_, rfl⟩
  have HV : Hid (lsame strSame xl yl = (decide (n = m) && all2 strSame xl yl)) := Lib.hid (by unfold lsame; rw [hn, hm])
  rw [hn] at hx1 ⊢
  rw [hm] at hy1 ⊢
  by_cases hnm : n = m
  rotate_left
  · have hnmI : ¬ ((n : Int) = (m : Int)) := by omega
    have HV2 : Hid (lsame strSame xl yl = false) := Lib.hid (by rw [HV.out, decide_eq_false hnm, Bool.false_and])
    go_enter Try.func27, Try.ntmps27
    go_wp2_with fail
    go_ret
    exact ⟨ret_bool (by rw [HV2.out]), inferInstance⟩
  subst hnm
  go_enter Try.func27, Try.ntmps27
  go_wp2_with fail
  go_loopw [5] (fun i wr => ∃ j : Nat, j ≤ n ∧ i = .int .i64 (j : Nat) ∧ Hid (all2 strSame (xl.take j) (yl.take j) = true) ∧ After w wr) (fun i _ => n - (intOf i).toNat)
  case atStart => exact ⟨0, by omega, rfl, Lib.hid (by simp [all2]), inferInstance⟩
  case round =>
    obtain ⟨j, hj, rfl, HJ, ar⟩ := hrel
    have a0r : After w0 wr := after_after aft ar
    by_cases hlt_ : j < n
    rotate_left
    · obtain rfl : j = n := by omega
      have HV2 : Hid (lsame strSame xl yl = true) := Lib.hid (by
        have h_ := HJ.out
        rw [HV.out]
        rw [← hn, List.take_length, hn, ← hm, List.take_length] at h_
        rw [h_]; simp)
      go_wp2_with fail
      go_ret
      exact ⟨ret_bool (by rw [HV2.out]), ar⟩
    have hltI : (j : Int) < (n : Int) := by omega
    obtain ⟨b, p, u1, rfl, hb1, HX1, hP⟩ := (XX.out.strs wr (k := a0r)).part (i := j) (by show j < xl.length; omega)
    obtain ⟨b2, p2, u2, rfl, hb2, HX2, hQ⟩ := (YY.out.strs wr (k := a0r)).part (i := j) (by show j < yl.length; omega)
    simp only [] at HX1 HX2
    have HT : Hid (all2 strSame (xl.take (j + 1)) (yl.take (j + 1)) = strSame u1 u2) := Lib.hid (by rw [all2_take strSame HX1.out HX2.out, HJ.out, Bool.true_and])
    have HF : Hid (strSame u1 u2 = false → lsame strSame xl yl = false) := Lib.hid fun h => by rw [HV.out, all2_false strSame HX1.out HX2.out h, Bool.and_false]
    obtain ⟨s1, hs1⟩ : ∃ s, u1 = s := ⟨_, rfl⟩
    obtain ⟨s2, hs2⟩ : ∃ s, u2 = s := ⟨_, rfl⟩
    rw [hs1] at HT HF hP
    rw [hs2] at HT HF hQ
    clear hs1 hs2
    have e0 : wr.cell? ⟨b, p + j, none⟩ = some (.string s1) := by have := hP.1; rwa [Nat.mul_one] at this
    have g0 : wr.cell? ⟨b2, p2 + j, none⟩ = some (.string s2) := by have := hQ.1; rwa [Nat.mul_one] at this
    obtain ⟨q, hq⟩ : ∃ q, (s1.toList == s2.toList) = q := ⟨_, rfl⟩
    have m5 : (s1.toList != s2.toList) = !q := by unfold bne; rw [hq]
    have HQ : Hid (strSame s1 s2 = q) := hq
    clear hP hQ HX1 HX2
    cases q with
    | true =>
      have HW : Hid (all2 strSame (xl.take (j + 1)) (yl.take (j + 1)) = true) := Lib.hid (HT.out.trans HQ.out)
      go_wp2_with fail
      go_region
      go_wp2_with fail
      go_roundw
      case rel => exact ⟨j + 1, by omega, by go_num, HW, after_after ar inferInstance⟩
      case measure => simp only [intOf]; omega
    | false =>
      have HW : Hid (lsame strSame xl yl = false) := Lib.hid (HF.out HQ.out)
      go_wp2_with fail
      go_region
      go_wp2_with fail
      go_ret
      exact ⟨ret_bool (by rw [HW.out]), after_after ar inferInstance⟩
set_option maxRecDepth 100000 in
set_option maxHeartbeats 3200000 in
theorem rclocks_any {w0 : World} {A1 B1 : Option Addr} {c1 d1 : Nat} {xl yl : List OnD} (x : RowOf 3 POn w0 ⟨A1, c1, xl⟩) (y : RowOf 3 POn w0 ⟨B1, d1, yl⟩) (w : World) (aft : After w0 w) :
    Calls Try.prog 65 #[.slice A1 xl.length c1, .slice B1 yl.length d1] w fun e w' => e = .returned (.bool (lsame onSame xl yl)) ∧ After w w' := by
  have XX := Lib.hid x
  have YY := Lib.hid y
  have hx1 := x.len
  have hy1 := y.len
  simp only [] at hx1 hy1
  clear x y
  obtain ⟨n, hn⟩ : ∃ n, xl.length = n := ⟨_, rfl⟩
  obtain ⟨m, hm⟩ : ∃ m, yl.length = m := ⟨_, rfl⟩
  have HV : Hid (lsame onSame xl yl = (decide (n = m) && all2 onSame xl yl)) := Lib.hid (by unfold lsame; rw [hn, hm])
  rw [hn] at hx1 ⊢
  rw [hm] at hy1 ⊢
  by_cases hnm : n = m
  rotate_left
  · have hnmI : ¬ ((n : Int) = (m : Int)) := by omega
    have HV2 : Hid (lsame onSame xl yl = false) := Lib.hid (by rw [HV.out, decide_eq_false hnm, Bool.false_and])
    go_enter Try.func65, Try.ntmps65
    go_wp2_with fail
    go_ret
    exact ⟨ret_bool (by rw [HV2.out]), inferInstance⟩
  subst hnm
  go_enter Try.func65, Try.ntmps65
  go_wp2_with fail
  go_loopw [5] (fun i wr => ∃ j : Nat, j ≤ n ∧ i = .int .i64 (j : Nat) ∧ Hid (all2 onSame (xl.take j) (yl.take j) = true) ∧ After w wr) (fun i _ => n - (intOf i).toNat)
  case atStart => exact ⟨0, by omega, rfl, Lib.hid (by simp [all2]), inferInstance⟩
  case round =>
    obtain ⟨j, hj, rfl, HJ, ar⟩ := hrel
    have a0r : After w0 wr := after_after aft ar
    by_cases hlt_ : j < n
    rotate_left
    · obtain rfl : j = n := by omega
      have HV2 : Hid (lsame onSame xl yl = true) := Lib.hid (by
        have h_ := HJ.out
        rw [HV.out]
        rw [← hn, List.take_length, hn, ← hm, List.take_length] at h_
        rw [h_]; simp)
      go_wp2_with fail
      go_ret
      exact ⟨ret_bool (by rw [HV2.out]), ar⟩
    have hltI : (j : Int) < (n : Int) := by omega
    obtain ⟨b, p, u1, rfl, hb1, HX1, hP⟩ := (XX.out.ons wr (k := a0r)).part (i := j) (by show j < xl.length; omega)
    obtain ⟨b2, p2, u2, rfl, hb2, HX2, hQ⟩ := (YY.out.ons wr (k := a0r)).part (i := j) (by show j < yl.length; omega)
    simp only [] at HX1 HX2
    have HT : Hid (all2 onSame (xl.take (j + 1)) (yl.take (j + 1)) = onSame u1 u2) := Lib.hid (by rw [all2_take onSame HX1.out HX2.out, HJ.out, Bool.true_and])
    have HF : Hid (onSame u1 u2 = false → lsame onSame xl yl = false) := Lib.hid fun h => by rw [HV.out, all2_false onSame HX1.out HX2.out h, Bool.and_false]
    obtain ⟨s1, t1, v1⟩ := u1
    obtain ⟨s1', t1', v1'⟩ := u2
    obtain ⟨_, e0, e1, e2, _⟩ := hP
    obtain ⟨_, g0, g1, g2, _⟩ := hQ
    simp only [] at e0 e1 e2 g0 g1 g2
    clear HX1 HX2
    obtain ⟨q, hq⟩ : ∃ q, onSame ⟨s1, t1, v1⟩ ⟨s1', t1', v1'⟩ = q := ⟨_, rfl⟩
    have hb := fun W => on_neq s1 s1' t1 v1 t1' v1' W
    have hq2 : ((s1.toList == s1'.toList) && ((t1 == t1') && (v1 == v1'))) = q := hq
    simp only [hq2] at hb
    have HQ : Hid (onSame ⟨s1, t1, v1⟩ ⟨s1', t1', v1'⟩ = q) := hq
    clear hq hq2
    cases q with
    | true =>
      have HW : Hid (all2 onSame (xl.take (j + 1)) (yl.take (j + 1)) = true) := Lib.hid (HT.out.trans HQ.out)
      go_wp2_with fail
      go_region
      go_wp2_with fail
      go_roundw
      case rel => exact ⟨j + 1, by omega, by go_num, HW, after_after ar inferInstance⟩
      case measure => simp only [intOf]; omega
    | false =>
      have HW : Hid (lsame onSame xl yl = false) := Lib.hid (HF.out HQ.out)
      go_wp2_with fail
      go_region
      go_wp2_with fail
      go_ret
      exact ⟨ret_bool (by rw [HW.out]), after_after ar inferInstance⟩
set_option maxRecDepth 100000 in
set_option maxHeartbeats 3200000 in
theorem rdecls_any {w0 : World} {A1 B1 : Option Addr} {c1 d1 : Nat} {xl yl : List DeclD} (x : RowOf 3 PDecl w0 ⟨A1, c1, xl⟩) (y : RowOf 3 PDecl w0 ⟨B1, d1, yl⟩) (w : World) (aft : After w0 w) :
    Calls Try.prog 28 #[.slice A1 xl.length c1, .slice B1 yl.length d1] w fun e w' => e = .returned (.bool (lsame declSame xl yl)) ∧ After w w' := by
  have XX := Lib.hid x
  have YY := Lib.hid y
  have hx1 := x.len
  have hy1 := y.len
  simp only [] at hx1 hy1
  clear x y
  obtain ⟨n, hn⟩ : ∃ n, xl.length = n := ⟨_, rfl⟩
  obtain ⟨m, hm⟩ : ∃ m, yl.length = m := ⟨_, rfl⟩
  have HV : Hid (lsame declSame xl yl = (decide (n = m) && all2 declSame xl yl)) := Lib.hid (by unfold lsame; rw [hn, hm])
  rw [hn] at hx1 ⊢
  rw [hm] at hy1 ⊢
  by_cases hnm : n = m
  rotate_left
  · have hnmI : ¬ ((n : Int) = (m : Int)) := by omega
    have HV2 : Hid (lsame declSame xl yl = false) := Lib.hid (by rw [HV.out, decide_eq_false hnm, Bool.false_and])
    go_enter Try.func28, Try.ntmps28
    go_wp2_with fail
    go_ret
    exact ⟨ret_bool (by rw [HV2.out]), inferInstance⟩
  subst hnm
  go_enter Try.func28, Try.ntmps28
  go_wp2_with fail
  go_loopw [5] (fun i wr => ∃ j : Nat, j ≤ n ∧ i = .int .i64 (j : Nat) ∧ Hid (all2 declSame (xl.take j) (yl.take j) = true) ∧ After w wr) (fun i _ => n - (intOf i).toNat)
  case atStart => exact ⟨0, by omega, rfl, Lib.hid (by simp [all2]), inferInstance⟩
  case round =>
    obtain ⟨j, hj, rfl, HJ, ar⟩ := hrel
    have a0r : After w0 wr := after_after aft ar
    by_cases hlt_ : j < n
    rotate_left
    · obtain rfl : j = n := by omega
      have HV2 : Hid (lsame declSame xl yl = true) := Lib.hid (by
        have h_ := HJ.out
        rw [HV.out]
        rw [← hn, List.take_length, hn, ← hm, List.take_length] at h_
        rw [h_]; simp)
      go_wp2_with fail
      go_ret
      exact ⟨ret_bool (by rw [HV2.out]), ar⟩
    have hltI : (j : Int) < (n : Int) := by omega
    obtain ⟨b, p, u1, rfl, hb1, HX1, hP⟩ := (XX.out.decls wr (k := a0r)).part (i := j) (by show j < xl.length; omega)
    obtain ⟨b2, p2, u2, rfl, hb2, HX2, hQ⟩ := (YY.out.decls wr (k := a0r)).part (i := j) (by show j < yl.length; omega)
    simp only [] at HX1 HX2
    have HT : Hid (all2 declSame (xl.take (j + 1)) (yl.take (j + 1)) = declSame u1 u2) := Lib.hid (by rw [all2_take declSame HX1.out HX2.out, HJ.out, Bool.true_and])
    have HF : Hid (declSame u1 u2 = false → lsame declSame xl yl = false) := Lib.hid fun h => by rw [HV.out, all2_false declSame HX1.out HX2.out h, Bool.and_false]
    obtain ⟨_, _, hP0⟩ := XX.out.elem (show _ from HX1.out)
    obtain ⟨_, _, hQ0⟩ := YY.out.elem (show _ from HX2.out)
    obtain ⟨nm, ty, ⟨cA, cc, cl⟩⟩ := u1
    obtain ⟨nm', ty', ⟨cA', cc', cl'⟩⟩ := u2
    obtain ⟨e0, e1, e2⟩ : wr.cell? ⟨b, p + j * 3, none⟩ = some (.string nm) ∧ wr.cell? ⟨b, p + j * 3 + 1, none⟩ = some (.int .i64 ty) ∧ wr.cell? ⟨b, p + j * 3 + 2, none⟩ = some (.slice cA cl.length cc) := ⟨hP.c0, hP.c1, hP.c2⟩
    obtain ⟨g0, g1, g2⟩ : wr.cell? ⟨b2, p2 + j * 3, none⟩ = some (.string nm') ∧ wr.cell? ⟨b2, p2 + j * 3 + 1, none⟩ = some (.int .i64 ty') ∧ wr.cell? ⟨b2, p2 + j * 3 + 2, none⟩ = some (.slice cA' cl'.length cc') := ⟨hQ.c0, hQ.c1, hQ.c2⟩
    obtain ⟨q0, hq0⟩ : ∃ q, (nm.toList == nm'.toList) = q := ⟨_, rfl⟩
    have m0 : (nm.toList != nm'.toList) = !q0 := by rw [← hq0]; rfl
    obtain ⟨q1, hq1⟩ : ∃ q, (ty == ty') = q := ⟨_, rfl⟩
    have m1 : (ty != ty') = !q1 := by rw [← hq1]; rfl
    obtain ⟨q2, hq2⟩ : ∃ q, (lsame onSame cl cl') = q := ⟨_, rfl⟩
    have HC2 : Gives wr 65 #[.slice cA cl.length cc, .slice cA' cl'.length cc'] (.bool q2) := fun U hU => (hq2 ▸ rclocks_any hP0.cl hQ0.cl U (after_after a0r hU)).mono fun e w_ h_ => ⟨h_.1, @After.is_more _ _ h_.2⟩
    have HVf : Hid (declSame ⟨nm, ty, ⟨cA, cc, cl⟩⟩ ⟨nm', ty', ⟨cA', cc', cl'⟩⟩ = (q0 && (q1 && (q2)))) := by
      show _ = _
      rw [← hq0, ← hq1, ← hq2]
      rfl
    clear hP hQ hP0 hQ0 hq2
    cases q0 with
    | false =>
      have HW : Hid (lsame declSame xl yl = false) := Lib.hid (HF.out (by rw [HVf.out] <;> simp))
      go_wp2_with fail
      refine wp_region_more (by kernel_rfl) (by kernel_rfl) ?_
      repeat (go_big_quiet_step ((go_at_call 65; with_reducible exact Calls.more_of (Gives.on HC2 _ inferInstance))))
      refine wpQuiet_nil ?_
      rintro _ ⟨y_, rfl⟩
      go_wp2_with fail
      go_ret
      exact ⟨ret_bool (by rw [HW.out]), after_after ar inferInstance⟩
    | true =>
      cases q1 with
      | false =>
        have HW : Hid (lsame declSame xl yl = false) := Lib.hid (HF.out (by rw [HVf.out] <;> simp))
        go_wp2_with fail
        refine wp_region_more (by kernel_rfl) (by kernel_rfl) ?_
        repeat (go_big_quiet_step ((go_at_call 65; with_reducible exact Calls.more_of (Gives.on HC2 _ inferInstance))))
        refine wpQuiet_nil ?_
        rintro _ ⟨y_, rfl⟩
        go_wp2_with fail
        go_ret
        exact ⟨ret_bool (by rw [HW.out]), after_after ar inferInstance⟩
      | true =>
        cases q2 with
        | false =>
          have HW : Hid (lsame declSame xl yl = false) := Lib.hid (HF.out (by rw [HVf.out] <;> simp))
          go_wp2_with fail
          refine wp_region_more (by kernel_rfl) (by kernel_rfl) ?_
          repeat (go_big_quiet_step ((go_at_call 65; with_reducible exact Calls.more_of (Gives.on HC2 _ inferInstance))))
          refine wpQuiet_nil ?_
          rintro _ ⟨y_, rfl⟩
          go_wp2_with fail
          go_ret
          exact ⟨ret_bool (by rw [HW.out]), after_after ar inferInstance⟩
        | true =>
          have HW : Hid (all2 declSame (xl.take (j + 1)) (yl.take (j + 1)) = true) := Lib.hid (by rw [HT.out, HVf.out] <;> rfl)
          go_wp2_with fail
          refine wp_region_more (by kernel_rfl) (by kernel_rfl) ?_
          repeat (go_big_quiet_step ((go_at_call 65; with_reducible exact Calls.more_of (Gives.on HC2 _ inferInstance))))
          refine wpQuiet_nil ?_
          rintro _ ⟨y_, rfl⟩
          go_wp2_with fail
          go_roundw
          case rel => exact ⟨j + 1, by omega, by go_num, HW, after_after ar inferInstance⟩
          case measure => simp only [intOf]; omega
set_option maxRecDepth 100000 in
set_option maxHeartbeats 3200000 in
theorem requations_any {w0 : World} {A1 B1 : Option Addr} {c1 d1 : Nat} {xl yl : List EqD} (x : RowOf 7 (PEq S) w0 ⟨A1, c1, xl⟩) (y : RowOf 7 (PEq S) w0 ⟨B1, d1, yl⟩) (w : World) (aft : After w0 w) :
    Calls Try.prog 29 #[.slice A1 xl.length c1, .slice B1 yl.length d1] w fun e w' => e = .returned (.bool (lsame eqSame xl yl)) ∧ After w w' := by
  have XX := Lib.hid x
  have YY := Lib.hid y
  have hx1 := x.len
  have hy1 := y.len
  simp only [] at hx1 hy1
  clear x y
  obtain ⟨n, hn⟩ : ∃ n, xl.length = n := ⟨_, rfl⟩
  obtain ⟨m, hm⟩ : ∃ m, yl.length = m := ⟨_, rfl⟩
  have HV : Hid (lsame eqSame xl yl = (decide (n = m) && all2 eqSame xl yl)) := Lib.hid (by unfold lsame; rw [hn, hm])
  rw [hn] at hx1 ⊢
  rw [hm] at hy1 ⊢
  by_cases hnm : n = m
  rotate_left
  · have hnmI : ¬ ((n : Int) = (m : Int)) := by omega
    have HV2 : Hid (lsame eqSame xl yl = false) := Lib.hid (by rw [HV.out, decide_eq_false hnm, Bool.false_and])
    go_enter Try.func29, Try.ntmps29
    go_wp2_with fail
    go_ret
    exact ⟨ret_bool (by rw [HV2.out]), inferInstance⟩
  subst hnm
  go_enter Try.func29, Try.ntmps29
  go_wp2_with fail
  go_loopw [5] (fun i wr => ∃ j : Nat, j ≤ n ∧ i = .int .i64 (j : Nat) ∧ Hid (all2 eqSame (xl.take j) (yl.take j) = true) ∧ After w wr) (fun i _ => n - (intOf i).toNat)
  case atStart => exact ⟨0, by omega, rfl, Lib.hid (by simp [all2]), inferInstance⟩
  case round =>
    obtain ⟨j, hj, rfl, HJ, ar⟩ := hrel
    have a0r : After w0 wr := after_after aft ar
    by_cases hlt_ : j < n
    rotate_left
    · obtain rfl : j = n := by omega
      have HV2 : Hid (lsame eqSame xl yl = true) := Lib.hid (by
        have h_ := HJ.out
        rw [HV.out]
        rw [← hn, List.take_length, hn, ← hm, List.take_length] at h_
        rw [h_]; simp)
      go_wp2_with fail
      go_ret
      exact ⟨ret_bool (by rw [HV2.out]), ar⟩
    have hltI : (j : Int) < (n : Int) := by omega
    obtain ⟨b, p, u1, rfl, hb1, HX1, hP⟩ := (XX.out.eqs wr (k := a0r)).part (i := j) (by show j < xl.length; omega)
    obtain ⟨b2, p2, u2, rfl, hb2, HX2, hQ⟩ := (YY.out.eqs wr (k := a0r)).part (i := j) (by show j < yl.length; omega)
    simp only [] at HX1 HX2
    have HT : Hid (all2 eqSame (xl.take (j + 1)) (yl.take (j + 1)) = eqSame u1 u2) := Lib.hid (by rw [all2_take eqSame HX1.out HX2.out, HJ.out, Bool.true_and])
    have HF : Hid (eqSame u1 u2 = false → lsame eqSame xl yl = false) := Lib.hid fun h => by rw [HV.out, all2_false eqSame HX1.out HX2.out h, Bool.and_false]
    obtain ⟨_, _, hP0⟩ := XX.out.elem (show _ from HX1.out)
    obtain ⟨_, _, hQ0⟩ := YY.out.elem (show _ from HX2.out)
    obtain ⟨⟨lA, lc, ll⟩, ⟨k, o, t, v, s, A, c, xs⟩⟩ := u1
    obtain ⟨⟨lA', lc', ll'⟩, ⟨k', o', t', v', s', A', c', xs'⟩⟩ := u2
    obtain ⟨e0, e1, e2, e3, e4, e5, e6⟩ : wr.cell? ⟨b, p + j * 7, none⟩ = some (.slice lA ll.length lc) ∧ wr.cell? ⟨b, p + j * 7 + 1, none⟩ = some (.int .i64 k) ∧ wr.cell? ⟨b, p + j * 7 + 2, none⟩ = some (.int .i64 o) ∧ wr.cell? ⟨b, p + j * 7 + 3, none⟩ = some (.int .i64 t) ∧ wr.cell? ⟨b, p + j * 7 + 4, none⟩ = some (.int .i64 v) ∧ wr.cell? ⟨b, p + j * 7 + 5, none⟩ = some (.string s) ∧ wr.cell? ⟨b, p + j * 7 + 6, none⟩ = some (.slice A xs.length c) := ⟨hP.c0, hP.six.c0, hP.six.c1, hP.six.c2, hP.six.c3, hP.six.c4, hP.six.c5⟩
    obtain ⟨g0, g1, g2, g3, g4, g5, g6⟩ : wr.cell? ⟨b2, p2 + j * 7, none⟩ = some (.slice lA' ll'.length lc') ∧ wr.cell? ⟨b2, p2 + j * 7 + 1, none⟩ = some (.int .i64 k') ∧ wr.cell? ⟨b2, p2 + j * 7 + 2, none⟩ = some (.int .i64 o') ∧ wr.cell? ⟨b2, p2 + j * 7 + 3, none⟩ = some (.int .i64 t') ∧ wr.cell? ⟨b2, p2 + j * 7 + 4, none⟩ = some (.int .i64 v') ∧ wr.cell? ⟨b2, p2 + j * 7 + 5, none⟩ = some (.string s') ∧ wr.cell? ⟨b2, p2 + j * 7 + 6, none⟩ = some (.slice A' xs'.length c') := ⟨hQ.c0, hQ.six.c0, hQ.six.c1, hQ.six.c2, hQ.six.c3, hQ.six.c4, hQ.six.c5⟩
    obtain ⟨q0, hq0⟩ : ∃ q, (lsame strSame ll ll') = q := ⟨_, rfl⟩
    have HC0 : Gives wr 27 #[.slice lA ll.length lc, .slice lA' ll'.length lc'] (.bool q0) := fun U hU => (hq0 ▸ rtexts_any hP0.lf hQ0.lf U (after_after a0r hU)).mono fun e w_ h_ => ⟨h_.1, @After.is_more _ _ h_.2⟩
    obtain ⟨q1, hq1⟩ : ∃ q, ((Tx.mk k o t v s A c xs).same (.mk k' o' t' v' s' A' c' xs')) = q := ⟨_, rfl⟩
    have HC1 : Gives wr 66 #[.agg #[.int .i64 k, .int .i64 o, .int .i64 t, .int .i64 v, .string s, .slice A xs.length c], .agg #[.int .i64 k', .int .i64 o', .int .i64 t', .int .i64 v', .string s', .slice A' xs'.length c']] (.bool q1) := fun U hU => (hq1 ▸ rsame_any hP0.ri hQ0.ri U (after_after a0r hU)).mono fun e w_ h_ => ⟨h_.1, @After.is_more _ _ h_.2⟩
    have HVf : Hid (eqSame ⟨⟨lA, lc, ll⟩, ⟨k, o, t, v, s, A, c, xs⟩⟩ ⟨⟨lA', lc', ll'⟩, ⟨k', o', t', v', s', A', c', xs'⟩⟩ = (q0 && (q1))) := by
      show _ = _
      rw [← hq0, ← hq1]
      rfl
    clear hP hQ hP0 hQ0 hq0 hq1
    cases q0 with
    | false =>
      have HW : Hid (lsame eqSame xl yl = false) := Lib.hid (HF.out (by rw [HVf.out] <;> simp))
      go_wp2_with fail
      refine wp_region_more (by kernel_rfl) (by kernel_rfl) ?_
      repeat (go_big_quiet_step (first | (go_at_call 27; with_reducible exact Calls.more_of (Gives.on HC0 _ inferInstance)) | (go_at_call 66; with_reducible exact Calls.more_of (Gives.on HC1 _ inferInstance))))
      refine wpQuiet_nil ?_
      rintro _ ⟨y_, rfl⟩
      go_wp2_with fail
      go_ret
      exact ⟨ret_bool (by rw [HW.out]), after_after ar inferInstance⟩
    | true =>
      cases q1 with
      | false =>
        have HW : Hid (lsame eqSame xl yl = false) := Lib.hid (HF.out (by rw [HVf.out] <;> simp))
        go_wp2_with fail
        refine wp_region_more (by kernel_rfl) (by kernel_rfl) ?_
        repeat (go_big_quiet_step (first | (go_at_call 27; with_reducible exact Calls.more_of (Gives.on HC0 _ inferInstance)) | (go_at_call 66; with_reducible exact Calls.more_of (Gives.on HC1 _ inferInstance))))
        refine wpQuiet_nil ?_
        rintro _ ⟨y_, rfl⟩
        go_wp2_with fail
        go_ret
        exact ⟨ret_bool (by rw [HW.out]), after_after ar inferInstance⟩
      | true =>
        have HW : Hid (all2 eqSame (xl.take (j + 1)) (yl.take (j + 1)) = true) := Lib.hid (by rw [HT.out, HVf.out] <;> rfl)
        go_wp2_with fail
        refine wp_region_more (by kernel_rfl) (by kernel_rfl) ?_
        repeat (go_big_quiet_step (first | (go_at_call 27; with_reducible exact Calls.more_of (Gives.on HC0 _ inferInstance)) | (go_at_call 66; with_reducible exact Calls.more_of (Gives.on HC1 _ inferInstance))))
        refine wpQuiet_nil ?_
        rintro _ ⟨y_, rfl⟩
        go_wp2_with fail
        go_roundw
        case rel => exact ⟨j + 1, by omega, by go_num, HW, after_after ar inferInstance⟩
        case measure => simp only [intOf]; omega
set_option maxRecDepth 100000 in
set_option maxHeartbeats 3200000 in
theorem rclaims_any {w0 : World} {A1 B1 : Option Addr} {c1 d1 : Nat} {xl yl : List Tx} (x : RowOf 6 (PTx S) w0 ⟨A1, c1, xl⟩) (y : RowOf 6 (PTx S) w0 ⟨B1, d1, yl⟩) (w : World) (aft : After w0 w) :
    Calls Try.prog 31 #[.slice A1 xl.length c1, .slice B1 yl.length d1] w fun e w' => e = .returned (.bool (lsame Tx.same xl yl)) ∧ After w w' := by
  have XX := Lib.hid x
  have YY := Lib.hid y
  have hx1 := x.len
  have hy1 := y.len
  simp only [] at hx1 hy1
  clear x y
  obtain ⟨n, hn⟩ : ∃ n, xl.length = n := ⟨_, rfl⟩
  obtain ⟨m, hm⟩ : ∃ m, yl.length = m := ⟨_, rfl⟩
  have HV : Hid (lsame Tx.same xl yl = (decide (n = m) && all2 Tx.same xl yl)) := Lib.hid (by unfold lsame; rw [hn, hm])
  rw [hn] at hx1 ⊢
  rw [hm] at hy1 ⊢
  by_cases hnm : n = m
  rotate_left
  · have hnmI : ¬ ((n : Int) = (m : Int)) := by omega
    have HV2 : Hid (lsame Tx.same xl yl = false) := Lib.hid (by rw [HV.out, decide_eq_false hnm, Bool.false_and])
    go_enter Try.func31, Try.ntmps31
    go_wp2_with fail
    go_ret
    exact ⟨ret_bool (by rw [HV2.out]), inferInstance⟩
  subst hnm
  go_enter Try.func31, Try.ntmps31
  go_wp2_with fail
  go_loopw [5] (fun i wr => ∃ j : Nat, j ≤ n ∧ i = .int .i64 (j : Nat) ∧ Hid (all2 Tx.same (xl.take j) (yl.take j) = true) ∧ After w wr) (fun i _ => n - (intOf i).toNat)
  case atStart => exact ⟨0, by omega, rfl, Lib.hid (by simp [all2]), inferInstance⟩
  case round =>
    obtain ⟨j, hj, rfl, HJ, ar⟩ := hrel
    have a0r : After w0 wr := after_after aft ar
    by_cases hlt_ : j < n
    rotate_left
    · obtain rfl : j = n := by omega
      have HV2 : Hid (lsame Tx.same xl yl = true) := Lib.hid (by
        have h_ := HJ.out
        rw [HV.out]
        rw [← hn, List.take_length, hn, ← hm, List.take_length] at h_
        rw [h_]; simp)
      go_wp2_with fail
      go_ret
      exact ⟨ret_bool (by rw [HV2.out]), ar⟩
    have hltI : (j : Int) < (n : Int) := by omega
    obtain ⟨b, p, u1, rfl, hb1, HX1, hP⟩ := (XX.out.txs wr (k := a0r)).part (i := j) (by show j < xl.length; omega)
    obtain ⟨b2, p2, u2, rfl, hb2, HX2, hQ⟩ := (YY.out.txs wr (k := a0r)).part (i := j) (by show j < yl.length; omega)
    simp only [] at HX1 HX2
    have HT : Hid (all2 Tx.same (xl.take (j + 1)) (yl.take (j + 1)) = Tx.same u1 u2) := Lib.hid (by rw [all2_take Tx.same HX1.out HX2.out, HJ.out, Bool.true_and])
    have HF : Hid (Tx.same u1 u2 = false → lsame Tx.same xl yl = false) := Lib.hid fun h => by rw [HV.out, all2_false Tx.same HX1.out HX2.out h, Bool.and_false]
    obtain ⟨_, _, hP0⟩ := XX.out.elem (show _ from HX1.out)
    obtain ⟨_, _, hQ0⟩ := YY.out.elem (show _ from HX2.out)
    obtain ⟨k, o, t, v, s, A, c, xs⟩ := u1
    obtain ⟨k', o', t', v', s', A', c', xs'⟩ := u2
    obtain ⟨e0, e1, e2, e3, e4, e5⟩ : wr.cell? ⟨b, p + j * 6, none⟩ = some (.int .i64 k) ∧ wr.cell? ⟨b, p + j * 6 + 1, none⟩ = some (.int .i64 o) ∧ wr.cell? ⟨b, p + j * 6 + 2, none⟩ = some (.int .i64 t) ∧ wr.cell? ⟨b, p + j * 6 + 3, none⟩ = some (.int .i64 v) ∧ wr.cell? ⟨b, p + j * 6 + 4, none⟩ = some (.string s) ∧ wr.cell? ⟨b, p + j * 6 + 5, none⟩ = some (.slice A xs.length c) := ⟨hP.six.c0, hP.six.c1, hP.six.c2, hP.six.c3, hP.six.c4, hP.six.c5⟩
    obtain ⟨g0, g1, g2, g3, g4, g5⟩ : wr.cell? ⟨b2, p2 + j * 6, none⟩ = some (.int .i64 k') ∧ wr.cell? ⟨b2, p2 + j * 6 + 1, none⟩ = some (.int .i64 o') ∧ wr.cell? ⟨b2, p2 + j * 6 + 2, none⟩ = some (.int .i64 t') ∧ wr.cell? ⟨b2, p2 + j * 6 + 3, none⟩ = some (.int .i64 v') ∧ wr.cell? ⟨b2, p2 + j * 6 + 4, none⟩ = some (.string s') ∧ wr.cell? ⟨b2, p2 + j * 6 + 5, none⟩ = some (.slice A' xs'.length c') := ⟨hQ.six.c0, hQ.six.c1, hQ.six.c2, hQ.six.c3, hQ.six.c4, hQ.six.c5⟩
    obtain ⟨q0, hq0⟩ : ∃ q, ((Tx.mk k o t v s A c xs).same (.mk k' o' t' v' s' A' c' xs')) = q := ⟨_, rfl⟩
    have HC0 : Gives wr 66 #[.agg #[.int .i64 k, .int .i64 o, .int .i64 t, .int .i64 v, .string s, .slice A xs.length c], .agg #[.int .i64 k', .int .i64 o', .int .i64 t', .int .i64 v', .string s', .slice A' xs'.length c']] (.bool q0) := fun U hU => (hq0 ▸ rsame_any hP0.rx hQ0.rx U (after_after a0r hU)).mono fun e w_ h_ => ⟨h_.1, @After.is_more _ _ h_.2⟩
    have HVf : Hid (Tx.same ⟨k, o, t, v, s, A, c, xs⟩ ⟨k', o', t', v', s', A', c', xs'⟩ = (q0)) := by
      show _ = _
      rw [← hq0]
    clear hP hQ hP0 hQ0 hq0
    cases q0 with
    | false =>
      have HW : Hid (lsame Tx.same xl yl = false) := Lib.hid (HF.out (by rw [HVf.out] <;> simp))
      go_wp2_with fail
      refine wp_region_more (by kernel_rfl) (by kernel_rfl) ?_
      repeat (go_big_quiet_step ((go_at_call 66; with_reducible exact Calls.more_of (Gives.on HC0 _ inferInstance))))
      refine wpQuiet_nil ?_
      rintro _ ⟨y_, rfl⟩
      go_wp2_with fail
      go_ret
      exact ⟨ret_bool (by rw [HW.out]), after_after ar inferInstance⟩
    | true =>
      have HW : Hid (all2 Tx.same (xl.take (j + 1)) (yl.take (j + 1)) = true) := Lib.hid (by rw [HT.out, HVf.out] <;> rfl)
      go_wp2_with fail
      refine wp_region_more (by kernel_rfl) (by kernel_rfl) ?_
      repeat (go_big_quiet_step ((go_at_call 66; with_reducible exact Calls.more_of (Gives.on HC0 _ inferInstance))))
      refine wpQuiet_nil ?_
      rintro _ ⟨y_, rfl⟩
      go_wp2_with fail
      go_roundw
      case rel => exact ⟨j + 1, by omega, by go_num, HW, after_after ar inferInstance⟩
      case measure => simp only [intOf]; omega
set_option maxRecDepth 100000 in
set_option maxHeartbeats 3200000 in
theorem rsteps_any {w0 : World} {A1 B1 : Option Addr} {c1 d1 : Nat} {xl yl : List TrD} (x : RowOf 8 (PTr S) w0 ⟨A1, c1, xl⟩) (y : RowOf 8 (PTr S) w0 ⟨B1, d1, yl⟩) (w : World) (aft : After w0 w) :
    Calls Try.prog 67 #[.slice A1 xl.length c1, .slice B1 yl.length d1] w fun e w' => e = .returned (.bool (lsame trSame xl yl)) ∧ After w w' := by
  have XX := Lib.hid x
  have YY := Lib.hid y
  have hx1 := x.len
  have hy1 := y.len
  simp only [] at hx1 hy1
  clear x y
  obtain ⟨n, hn⟩ : ∃ n, xl.length = n := ⟨_, rfl⟩
  obtain ⟨m, hm⟩ : ∃ m, yl.length = m := ⟨_, rfl⟩
  have HV : Hid (lsame trSame xl yl = (decide (n = m) && all2 trSame xl yl)) := Lib.hid (by unfold lsame; rw [hn, hm])
  rw [hn] at hx1 ⊢
  rw [hm] at hy1 ⊢
  by_cases hnm : n = m
  rotate_left
  · have hnmI : ¬ ((n : Int) = (m : Int)) := by omega
    have HV2 : Hid (lsame trSame xl yl = false) := Lib.hid (by rw [HV.out, decide_eq_false hnm, Bool.false_and])
    go_enter Try.func67, Try.ntmps67
    go_wp2_with fail
    go_ret
    exact ⟨ret_bool (by rw [HV2.out]), inferInstance⟩
  subst hnm
  go_enter Try.func67, Try.ntmps67
  go_wp2_with fail
  go_loopw [5] (fun i wr => ∃ j : Nat, j ≤ n ∧ i = .int .i64 (j : Nat) ∧ Hid (all2 trSame (xl.take j) (yl.take j) = true) ∧ After w wr) (fun i _ => n - (intOf i).toNat)
  case atStart => exact ⟨0, by omega, rfl, Lib.hid (by simp [all2]), inferInstance⟩
  case round =>
    obtain ⟨j, hj, rfl, HJ, ar⟩ := hrel
    have a0r : After w0 wr := after_after aft ar
    by_cases hlt_ : j < n
    rotate_left
    · obtain rfl : j = n := by omega
      have HV2 : Hid (lsame trSame xl yl = true) := Lib.hid (by
        have h_ := HJ.out
        rw [HV.out]
        rw [← hn, List.take_length, hn, ← hm, List.take_length] at h_
        rw [h_]; simp)
      go_wp2_with fail
      go_ret
      exact ⟨ret_bool (by rw [HV2.out]), ar⟩
    have hltI : (j : Int) < (n : Int) := by omega
    obtain ⟨b, p, u1, rfl, hb1, HX1, hP⟩ := (XX.out.trs wr (k := a0r)).part (i := j) (by show j < xl.length; omega)
    obtain ⟨b2, p2, u2, rfl, hb2, HX2, hQ⟩ := (YY.out.trs wr (k := a0r)).part (i := j) (by show j < yl.length; omega)
    simp only [] at HX1 HX2
    have HT : Hid (all2 trSame (xl.take (j + 1)) (yl.take (j + 1)) = trSame u1 u2) := Lib.hid (by rw [all2_take trSame HX1.out HX2.out, HJ.out, Bool.true_and])
    have HF : Hid (trSame u1 u2 = false → lsame trSame xl yl = false) := Lib.hid fun h => by rw [HV.out, all2_false trSame HX1.out HX2.out h, Bool.and_false]
    obtain ⟨_, _, hP0⟩ := XX.out.elem (show _ from HX1.out)
    obtain ⟨_, _, hQ0⟩ := YY.out.elem (show _ from HX2.out)
    obtain ⟨⟨k, o, t, v, s, A, c, xs⟩, ds, re⟩ := u1
    obtain ⟨⟨k', o', t', v', s', A', c', xs'⟩, ds', re'⟩ := u2
    obtain ⟨e0, e1, e2, e3, e4, e5, e6, e7⟩ : wr.cell? ⟨b, p + j * 8, none⟩ = some (.int .i64 k) ∧ wr.cell? ⟨b, p + j * 8 + 1, none⟩ = some (.int .i64 o) ∧ wr.cell? ⟨b, p + j * 8 + 2, none⟩ = some (.int .i64 t) ∧ wr.cell? ⟨b, p + j * 8 + 3, none⟩ = some (.int .i64 v) ∧ wr.cell? ⟨b, p + j * 8 + 4, none⟩ = some (.string s) ∧ wr.cell? ⟨b, p + j * 8 + 5, none⟩ = some (.slice A xs.length c) ∧ wr.cell? ⟨b, p + j * 8 + 6, none⟩ = some (.int .i64 ds) ∧ wr.cell? ⟨b, p + j * 8 + 7, none⟩ = some (.bool re) := ⟨hP.six.c0, hP.six.c1, hP.six.c2, hP.six.c3, hP.six.c4, hP.six.c5, hP.c6, hP.c7⟩
    obtain ⟨g0, g1, g2, g3, g4, g5, g6, g7⟩ : wr.cell? ⟨b2, p2 + j * 8, none⟩ = some (.int .i64 k') ∧ wr.cell? ⟨b2, p2 + j * 8 + 1, none⟩ = some (.int .i64 o') ∧ wr.cell? ⟨b2, p2 + j * 8 + 2, none⟩ = some (.int .i64 t') ∧ wr.cell? ⟨b2, p2 + j * 8 + 3, none⟩ = some (.int .i64 v') ∧ wr.cell? ⟨b2, p2 + j * 8 + 4, none⟩ = some (.string s') ∧ wr.cell? ⟨b2, p2 + j * 8 + 5, none⟩ = some (.slice A' xs'.length c') ∧ wr.cell? ⟨b2, p2 + j * 8 + 6, none⟩ = some (.int .i64 ds') ∧ wr.cell? ⟨b2, p2 + j * 8 + 7, none⟩ = some (.bool re') := ⟨hQ.six.c0, hQ.six.c1, hQ.six.c2, hQ.six.c3, hQ.six.c4, hQ.six.c5, hQ.c6, hQ.c7⟩
    obtain ⟨q0, hq0⟩ : ∃ q, (ds == ds') = q := ⟨_, rfl⟩
    have m0 : (ds != ds') = !q0 := by rw [← hq0]; rfl
    obtain ⟨q1, hq1⟩ : ∃ q, (re == re') = q := ⟨_, rfl⟩
    have m1 : (re != re') = !q1 := by rw [← hq1]; rfl
    obtain ⟨q2, hq2⟩ : ∃ q, ((Tx.mk k o t v s A c xs).same (.mk k' o' t' v' s' A' c' xs')) = q := ⟨_, rfl⟩
    have HC2 : Gives wr 66 #[.agg #[.int .i64 k, .int .i64 o, .int .i64 t, .int .i64 v, .string s, .slice A xs.length c], .agg #[.int .i64 k', .int .i64 o', .int .i64 t', .int .i64 v', .string s', .slice A' xs'.length c']] (.bool q2) := fun U hU => (hq2 ▸ rsame_any hP0.co hQ0.co U (after_after a0r hU)).mono fun e w_ h_ => ⟨h_.1, @After.is_more _ _ h_.2⟩
    have HVf : Hid (trSame ⟨⟨k, o, t, v, s, A, c, xs⟩, ds, re⟩ ⟨⟨k', o', t', v', s', A', c', xs'⟩, ds', re'⟩ = (q0 && (q1 && (q2)))) := by
      show _ = _
      rw [← hq0, ← hq1, ← hq2]
      rfl
    clear hP hQ hP0 hQ0 hq2
    cases q0 with
    | false =>
      have HW : Hid (lsame trSame xl yl = false) := Lib.hid (HF.out (by rw [HVf.out] <;> simp))
      go_wp2_with fail
      refine wp_region_more (by kernel_rfl) (by kernel_rfl) ?_
      repeat (go_big_quiet_step ((go_at_call 66; with_reducible exact Calls.more_of (Gives.on HC2 _ inferInstance))))
      refine wpQuiet_nil ?_
      rintro _ ⟨y_, rfl⟩
      go_wp2_with fail
      go_ret
      exact ⟨ret_bool (by rw [HW.out]), after_after ar inferInstance⟩
    | true =>
      cases q1 with
      | false =>
        have HW : Hid (lsame trSame xl yl = false) := Lib.hid (HF.out (by rw [HVf.out] <;> simp))
        go_wp2_with fail
        refine wp_region_more (by kernel_rfl) (by kernel_rfl) ?_
        repeat (go_big_quiet_step ((go_at_call 66; with_reducible exact Calls.more_of (Gives.on HC2 _ inferInstance))))
        refine wpQuiet_nil ?_
        rintro _ ⟨y_, rfl⟩
        go_wp2_with fail
        go_ret
        exact ⟨ret_bool (by rw [HW.out]), after_after ar inferInstance⟩
      | true =>
        cases q2 with
        | false =>
          have HW : Hid (lsame trSame xl yl = false) := Lib.hid (HF.out (by rw [HVf.out] <;> simp))
          go_wp2_with fail
          refine wp_region_more (by kernel_rfl) (by kernel_rfl) ?_
          repeat (go_big_quiet_step ((go_at_call 66; with_reducible exact Calls.more_of (Gives.on HC2 _ inferInstance))))
          refine wpQuiet_nil ?_
          rintro _ ⟨y_, rfl⟩
          go_wp2_with fail
          go_ret
          exact ⟨ret_bool (by rw [HW.out]), after_after ar inferInstance⟩
        | true =>
          have HW : Hid (all2 trSame (xl.take (j + 1)) (yl.take (j + 1)) = true) := Lib.hid (by rw [HT.out, HVf.out] <;> rfl)
          go_wp2_with fail
          refine wp_region_more (by kernel_rfl) (by kernel_rfl) ?_
          repeat (go_big_quiet_step ((go_at_call 66; with_reducible exact Calls.more_of (Gives.on HC2 _ inferInstance))))
          refine wpQuiet_nil ?_
          rintro _ ⟨y_, rfl⟩
          go_wp2_with fail
          go_roundw
          case rel => exact ⟨j + 1, by omega, by go_num, HW, after_after ar inferInstance⟩
          case measure => simp only [intOf]; omega
end Go.Proofs.Ytdghfhnkacfahaa
