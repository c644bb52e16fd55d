/-
  Contracts: the reference's tagged, Named, args, form.
-/
import Derived.Test.YtdghfhnkacfahaaEOne
import Derived.Test.YtdghfhnkacfahaaERPar
set_option linter.unusedVariables false
set_option linter.unusedSimpArgs false
namespace Go.Proofs.Ytdghfhnkacfahaa
open Go.RowKit Go.BigFrame

theorem tagged_any (t v : Int) (w : World) : Calls Try.prog 80 #[.int .i64 t, .int .i64 v] w fun e w' => e = .returned (.bool (tagB t v)) ∧ w = w' := by
  go_enter Try.func80, Try.ntmps80
  go_wp2
  all_goals
    go_ret
    exact ⟨ret_bool (by unfold tagB; apply Bool.eq_iff_iff.2; simp at * <;> omega), rfl⟩
theorem named_any (k : Int) (w : World) : Calls Try.prog 47 #[.int .i64 k] w fun e w' => e = .returned (.bool (fN k)) ∧ w = w' := by
  go_enter Try.func47, Try.ntmps47
  go_wp2
  all_goals
    go_ret
    exact ⟨ret_bool (by unfold fN; apply Bool.eq_iff_iff.2; simp at * <;> omega), rfl⟩
/-- the number of arguments is right, as the reference says it -/
def argsB (k o t v n : Int) : Bool :=
  if k == 1 || k == 2 || k == 11 then n == 0 else if k == 3 then n == operandsI o else if k == 4 then n == 3 else if k == 5 || k == 8 then n == 1 else if k == 6 || k == 7 then n == 2
  else if k == 9 then (if t == 1 then n == 2 else decide (1 ≤ n) && decide (n ≤ 16)) else decide (1 ≤ n) || v == 0
set_option maxHeartbeats 4000000 in
set_option maxRecDepth 100000 in
theorem args_any {k o t v : Int} {s : ByteArray} {A : Option Addr} {n c : Nat} (hn : n ≤ 140737488355328) (w : World) :
    Calls Try.prog 79 #[.agg #[.int .i64 k, .int .i64 o, .int .i64 t, .int .i64 v, .string s, .slice A n c]] w fun e w' => e = .returned (.bool (argsB k o t v n)) ∧ After w w' := by
  go_enter Try.func79, Try.ntmps79
  by_cases k1 : k = 1
  · subst k1
    go_wp2_with fail
    all_goals
      go_ret
      exact ⟨ret_bool (by unfold argsB operandsI; apply Bool.eq_iff_iff.2; simp at * <;> (try split) <;> (try simp at *) <;> (try omega)), inferInstance⟩
  by_cases k2 : k = 2
  · subst k2
    go_wp2_with fail
    all_goals
      go_ret
      exact ⟨ret_bool (by unfold argsB operandsI; apply Bool.eq_iff_iff.2; simp at * <;> (try split) <;> (try simp at *) <;> (try omega)), inferInstance⟩
  by_cases k3 : k = 3
  · subst k3
    go_wp2_with fail
    all_goals
      go_ret
      exact ⟨ret_bool (by unfold argsB operandsI; apply Bool.eq_iff_iff.2; simp at * <;> (try split) <;> (try simp at *) <;> (try omega)), inferInstance⟩
  by_cases k4 : k = 4
  · subst k4
    go_wp2_with fail
    all_goals
      go_ret
      exact ⟨ret_bool (by unfold argsB operandsI; apply Bool.eq_iff_iff.2; simp at * <;> (try split) <;> (try simp at *) <;> (try omega)), inferInstance⟩
  by_cases k5 : k = 5
  · subst k5
    go_wp2_with fail
    all_goals
      go_ret
      exact ⟨ret_bool (by unfold argsB operandsI; apply Bool.eq_iff_iff.2; simp at * <;> (try split) <;> (try simp at *) <;> (try omega)), inferInstance⟩
  by_cases k6 : k = 6
  · subst k6
    go_wp2_with fail
    all_goals
      go_ret
      exact ⟨ret_bool (by unfold argsB operandsI; apply Bool.eq_iff_iff.2; simp at * <;> (try split) <;> (try simp at *) <;> (try omega)), inferInstance⟩
  by_cases k7 : k = 7
  · subst k7
    go_wp2_with fail
    all_goals
      go_ret
      exact ⟨ret_bool (by unfold argsB operandsI; apply Bool.eq_iff_iff.2; simp at * <;> (try split) <;> (try simp at *) <;> (try omega)), inferInstance⟩
  by_cases k8 : k = 8
  · subst k8
    go_wp2_with fail
    all_goals
      go_ret
      exact ⟨ret_bool (by unfold argsB operandsI; apply Bool.eq_iff_iff.2; simp at * <;> (try split) <;> (try simp at *) <;> (try omega)), inferInstance⟩
  by_cases k9 : k = 9
  · subst k9
    go_wp2_with fail
    all_goals
      go_ret
      exact ⟨ret_bool (by unfold argsB operandsI; apply Bool.eq_iff_iff.2; simp at * <;> (try split) <;> (try simp at *) <;> (try omega)), inferInstance⟩
  by_cases k10 : k = 10
  · subst k10
    go_wp2_with fail
    all_goals
      go_ret
      exact ⟨ret_bool (by unfold argsB operandsI; apply Bool.eq_iff_iff.2; simp at * <;> (try split) <;> (try simp at *) <;> (try omega)), inferInstance⟩
  by_cases k11 : k = 11
  · subst k11
    go_wp2_with fail
    all_goals
      go_ret
      exact ⟨ret_bool (by unfold argsB operandsI; apply Bool.eq_iff_iff.2; simp at * <;> (try split) <;> (try simp at *) <;> (try omega)), inferInstance⟩
  go_wp2_with fail
  all_goals
    go_ret
    exact ⟨ret_bool (by unfold argsB; apply Bool.eq_iff_iff.2; simp_all <;> (try omega)), inferInstance⟩
/-- the fields are as the table says, as the reference says it -/
noncomputable def formR (k o t v : Int) (s : ByteArray) (n : Nat) : Bool :=
  if k < 1 ∨ 11 < k ∨ argsB k o t v n = false then false
  else if (k = 3 ↔ o = 0) ∨ o ≠ 0 ∧ (o < 1 ∨ 16 < o) then false
  else if fN k = false ∧ k ≠ 11 ∧ s.toList.isEmpty = false then false
  else if k = 1 then (if t = 2 then decide (-32768 ≤ v) && decide (v ≤ 32767) else tagB t v)
  else if k = 8 then tagB t v
  else if k = 9 then (t == 1 || decide (2 < t)) && v == 0
  else if k = 10 then t == 0 && (v == 0 || v == 1)
  else if k = 11 then t == 0 && v == 0 && (parseV s.data.toList).2 == 0
  else t == 0 && v == 0
set_option maxHeartbeats 8000000 in
set_option maxRecDepth 100000 in
theorem form_any {k o t v : Int} {s : ByteArray} {A : Option Addr} {n c : Nat} (hn : n ≤ 140737488355328) (hs : s.size ≤ 140737488355328) (w : World) :
    Calls Try.prog 46 #[.agg #[.int .i64 k, .int .i64 o, .int .i64 t, .int .i64 v, .string s, .slice A n c]] w fun e w' => e = .returned (.bool (formR k o t v s n)) ∧ After w w' := by
  have HA : Hid (∀ U, Calls Try.prog 79 #[.agg #[.int .i64 k, .int .i64 o, .int .i64 t, .int .i64 v, .string s, .slice A n c]] U fun e w' => e = .returned (.bool (argsB k o t v n)) ∧ After U w') := Lib.hid fun U => args_any hn U
  unfold formR
  generalize argsB k o t v n = a at HA ⊢
  go_enter Try.func46, Try.ntmps46
  by_cases klo : k < 1
  · go_wp2_with fail
    go_ret
    exact ⟨ret_bool (by first | rfl | simp [klo]), inferInstance⟩
  by_cases khi : 11 < k
  · go_wp2_with fail
    go_ret
    exact ⟨ret_bool (by first | rfl | simp [khi]), inferInstance⟩
  go_wp2_with fail
  refine (HA.out _).mono ?_
  rintro _ w1 ⟨rfl, ha⟩
  obtain ⟨y, rfl⟩ := @After.is_more _ _ ha
  clear ha HA
  cases a
  · go_wp2_with fail
    go_ret
    exact ⟨ret_bool (by simp), inferInstance⟩
  by_cases k1 : k = 1
  · subst k1
    by_cases h0 : o = 0
    · subst h0
      go_wp2_with fail
      refine (named_any _ _).mono ?_
      rintro _ w2 ⟨rfl, rfl⟩
      rw [show fN 1 = false from rfl]
      go_wp2_with fail
      all_goals first
        | (go_ret; exact ⟨ret_bool (by simp_all [fN] <;> (try intros) <;> omega), inferInstance⟩)
        | (refine (tagged_any _ _ _).mono ?_
           rintro _ w2 ⟨rfl, rfl⟩
           go_wp2_with fail
           all_goals
             go_ret
             exact ⟨ret_bool (by simp_all [fN] <;> (try intros) <;> omega), inferInstance⟩)
        | (refine (rparse_any _ _ hs).mono ?_
           rintro _ w2 ⟨A2, c2, B2, d2, rfl, hw2, y2, rfl⟩
           go_wp2_with fail
           all_goals
             go_ret
             exact ⟨ret_bool (by simp_all [fN] <;> (try intros) <;> omega), inferInstance⟩)
    · go_wp2_with fail
      all_goals
        go_ret
        exact ⟨ret_bool (by simp [h0]), inferInstance⟩
  by_cases k2 : k = 2
  · subst k2
    by_cases h0 : o = 0
    · subst h0
      go_wp2_with fail
      refine (named_any _ _).mono ?_
      rintro _ w2 ⟨rfl, rfl⟩
      rw [show fN 2 = true from rfl]
      go_wp2_with fail
      all_goals first
        | (go_ret; exact ⟨ret_bool (by simp_all [fN] <;> (try intros) <;> omega), inferInstance⟩)
        | (refine (tagged_any _ _ _).mono ?_
           rintro _ w2 ⟨rfl, rfl⟩
           go_wp2_with fail
           all_goals
             go_ret
             exact ⟨ret_bool (by simp_all [fN] <;> (try intros) <;> omega), inferInstance⟩)
        | (refine (rparse_any _ _ hs).mono ?_
           rintro _ w2 ⟨A2, c2, B2, d2, rfl, hw2, y2, rfl⟩
           go_wp2_with fail
           all_goals
             go_ret
             exact ⟨ret_bool (by simp_all [fN] <;> (try intros) <;> omega), inferInstance⟩)
    · go_wp2_with fail
      all_goals
        go_ret
        exact ⟨ret_bool (by simp [h0]), inferInstance⟩
  by_cases k3 : k = 3
  · subst k3
    by_cases h0 : o = 0
    · subst h0
      go_wp2_with fail
      all_goals
        go_ret
        exact ⟨ret_bool (by simp), inferInstance⟩
    by_cases h2 : o < 1
    · go_wp2_with fail
      all_goals
        go_ret
        exact ⟨ret_bool (by simp [h0, h2]), inferInstance⟩
    by_cases h3 : 16 < o
    · go_wp2_with fail
      all_goals
        go_ret
        exact ⟨ret_bool (by simp [h0, h3]), inferInstance⟩
    · go_wp2_with fail
      all_goals first
        | (exfalso; omega)
        | (go_ret; exact ⟨ret_bool (by simp_all [fN] <;> (try intros) <;> omega), inferInstance⟩)
        | skip
      refine (named_any _ _).mono ?_
      rintro _ w2 ⟨rfl, rfl⟩
      rw [show fN 3 = false from rfl]
      go_wp2_with fail
      all_goals first
        | (go_ret; exact ⟨ret_bool (by simp_all [fN] <;> (try intros) <;> omega), inferInstance⟩)
        | (refine (tagged_any _ _ _).mono ?_
           rintro _ w2 ⟨rfl, rfl⟩
           go_wp2_with fail
           all_goals
             go_ret
             exact ⟨ret_bool (by simp_all [fN] <;> (try intros) <;> omega), inferInstance⟩)
        | (refine (rparse_any _ _ hs).mono ?_
           rintro _ w2 ⟨A2, c2, B2, d2, rfl, hw2, y2, rfl⟩
           go_wp2_with fail
           all_goals
             go_ret
             exact ⟨ret_bool (by simp_all [fN] <;> (try intros) <;> omega), inferInstance⟩)
  by_cases k4 : k = 4
  · subst k4
    by_cases h0 : o = 0
    · subst h0
      go_wp2_with fail
      refine (named_any _ _).mono ?_
      rintro _ w2 ⟨rfl, rfl⟩
      rw [show fN 4 = false from rfl]
      go_wp2_with fail
      all_goals first
        | (go_ret; exact ⟨ret_bool (by simp_all [fN] <;> (try intros) <;> omega), inferInstance⟩)
        | (refine (tagged_any _ _ _).mono ?_
           rintro _ w2 ⟨rfl, rfl⟩
           go_wp2_with fail
           all_goals
             go_ret
             exact ⟨ret_bool (by simp_all [fN] <;> (try intros) <;> omega), inferInstance⟩)
        | (refine (rparse_any _ _ hs).mono ?_
           rintro _ w2 ⟨A2, c2, B2, d2, rfl, hw2, y2, rfl⟩
           go_wp2_with fail
           all_goals
             go_ret
             exact ⟨ret_bool (by simp_all [fN] <;> (try intros) <;> omega), inferInstance⟩)
    · go_wp2_with fail
      all_goals
        go_ret
        exact ⟨ret_bool (by simp [h0]), inferInstance⟩
  by_cases k5 : k = 5
  · subst k5
    by_cases h0 : o = 0
    · subst h0
      go_wp2_with fail
      refine (named_any _ _).mono ?_
      rintro _ w2 ⟨rfl, rfl⟩
      rw [show fN 5 = false from rfl]
      go_wp2_with fail
      all_goals first
        | (go_ret; exact ⟨ret_bool (by simp_all [fN] <;> (try intros) <;> omega), inferInstance⟩)
        | (refine (tagged_any _ _ _).mono ?_
           rintro _ w2 ⟨rfl, rfl⟩
           go_wp2_with fail
           all_goals
             go_ret
             exact ⟨ret_bool (by simp_all [fN] <;> (try intros) <;> omega), inferInstance⟩)
        | (refine (rparse_any _ _ hs).mono ?_
           rintro _ w2 ⟨A2, c2, B2, d2, rfl, hw2, y2, rfl⟩
           go_wp2_with fail
           all_goals
             go_ret
             exact ⟨ret_bool (by simp_all [fN] <;> (try intros) <;> omega), inferInstance⟩)
    · go_wp2_with fail
      all_goals
        go_ret
        exact ⟨ret_bool (by simp [h0]), inferInstance⟩
  by_cases k6 : k = 6
  · subst k6
    by_cases h0 : o = 0
    · subst h0
      go_wp2_with fail
      refine (named_any _ _).mono ?_
      rintro _ w2 ⟨rfl, rfl⟩
      rw [show fN 6 = false from rfl]
      go_wp2_with fail
      all_goals first
        | (go_ret; exact ⟨ret_bool (by simp_all [fN] <;> (try intros) <;> omega), inferInstance⟩)
        | (refine (tagged_any _ _ _).mono ?_
           rintro _ w2 ⟨rfl, rfl⟩
           go_wp2_with fail
           all_goals
             go_ret
             exact ⟨ret_bool (by simp_all [fN] <;> (try intros) <;> omega), inferInstance⟩)
        | (refine (rparse_any _ _ hs).mono ?_
           rintro _ w2 ⟨A2, c2, B2, d2, rfl, hw2, y2, rfl⟩
           go_wp2_with fail
           all_goals
             go_ret
             exact ⟨ret_bool (by simp_all [fN] <;> (try intros) <;> omega), inferInstance⟩)
    · go_wp2_with fail
      all_goals
        go_ret
        exact ⟨ret_bool (by simp [h0]), inferInstance⟩
  by_cases k7 : k = 7
  · subst k7
    by_cases h0 : o = 0
    · subst h0
      go_wp2_with fail
      refine (named_any _ _).mono ?_
      rintro _ w2 ⟨rfl, rfl⟩
      rw [show fN 7 = false from rfl]
      go_wp2_with fail
      all_goals first
        | (go_ret; exact ⟨ret_bool (by simp_all [fN] <;> (try intros) <;> omega), inferInstance⟩)
        | (refine (tagged_any _ _ _).mono ?_
           rintro _ w2 ⟨rfl, rfl⟩
           go_wp2_with fail
           all_goals
             go_ret
             exact ⟨ret_bool (by simp_all [fN] <;> (try intros) <;> omega), inferInstance⟩)
        | (refine (rparse_any _ _ hs).mono ?_
           rintro _ w2 ⟨A2, c2, B2, d2, rfl, hw2, y2, rfl⟩
           go_wp2_with fail
           all_goals
             go_ret
             exact ⟨ret_bool (by simp_all [fN] <;> (try intros) <;> omega), inferInstance⟩)
    · go_wp2_with fail
      all_goals
        go_ret
        exact ⟨ret_bool (by simp [h0]), inferInstance⟩
  by_cases k8 : k = 8
  · subst k8
    by_cases h0 : o = 0
    · subst h0
      go_wp2_with fail
      refine (named_any _ _).mono ?_
      rintro _ w2 ⟨rfl, rfl⟩
      rw [show fN 8 = true from rfl]
      go_wp2_with fail
      all_goals first
        | (go_ret; exact ⟨ret_bool (by simp_all [fN] <;> (try intros) <;> omega), inferInstance⟩)
        | (refine (tagged_any _ _ _).mono ?_
           rintro _ w2 ⟨rfl, rfl⟩
           go_wp2_with fail
           all_goals
             go_ret
             exact ⟨ret_bool (by simp_all [fN] <;> (try intros) <;> omega), inferInstance⟩)
        | (refine (rparse_any _ _ hs).mono ?_
           rintro _ w2 ⟨A2, c2, B2, d2, rfl, hw2, y2, rfl⟩
           go_wp2_with fail
           all_goals
             go_ret
             exact ⟨ret_bool (by simp_all [fN] <;> (try intros) <;> omega), inferInstance⟩)
    · go_wp2_with fail
      all_goals
        go_ret
        exact ⟨ret_bool (by simp [h0]), inferInstance⟩
  by_cases k9 : k = 9
  · subst k9
    by_cases h0 : o = 0
    · subst h0
      go_wp2_with fail
      refine (named_any _ _).mono ?_
      rintro _ w2 ⟨rfl, rfl⟩
      rw [show fN 9 = true from rfl]
      go_wp2_with fail
      all_goals first
        | (go_ret; exact ⟨ret_bool (by simp_all [fN] <;> (try intros) <;> omega), inferInstance⟩)
        | (refine (tagged_any _ _ _).mono ?_
           rintro _ w2 ⟨rfl, rfl⟩
           go_wp2_with fail
           all_goals
             go_ret
             exact ⟨ret_bool (by simp_all [fN] <;> (try intros) <;> omega), inferInstance⟩)
        | (refine (rparse_any _ _ hs).mono ?_
           rintro _ w2 ⟨A2, c2, B2, d2, rfl, hw2, y2, rfl⟩
           go_wp2_with fail
           all_goals
             go_ret
             exact ⟨ret_bool (by simp_all [fN] <;> (try intros) <;> omega), inferInstance⟩)
    · go_wp2_with fail
      all_goals
        go_ret
        exact ⟨ret_bool (by simp [h0]), inferInstance⟩
  by_cases k10 : k = 10
  · subst k10
    by_cases h0 : o = 0
    · subst h0
      go_wp2_with fail
      refine (named_any _ _).mono ?_
      rintro _ w2 ⟨rfl, rfl⟩
      rw [show fN 10 = true from rfl]
      go_wp2_with fail
      all_goals first
        | (go_ret; exact ⟨ret_bool (by simp_all [fN] <;> (try intros) <;> omega), inferInstance⟩)
        | (refine (tagged_any _ _ _).mono ?_
           rintro _ w2 ⟨rfl, rfl⟩
           go_wp2_with fail
           all_goals
             go_ret
             exact ⟨ret_bool (by simp_all [fN] <;> (try intros) <;> omega), inferInstance⟩)
        | (refine (rparse_any _ _ hs).mono ?_
           rintro _ w2 ⟨A2, c2, B2, d2, rfl, hw2, y2, rfl⟩
           go_wp2_with fail
           all_goals
             go_ret
             exact ⟨ret_bool (by simp_all [fN] <;> (try intros) <;> omega), inferInstance⟩)
    · go_wp2_with fail
      all_goals
        go_ret
        exact ⟨ret_bool (by simp [h0]), inferInstance⟩
  by_cases k11 : k = 11
  · subst k11
    by_cases h0 : o = 0
    · subst h0
      go_wp2_with fail
      refine (named_any _ _).mono ?_
      rintro _ w2 ⟨rfl, rfl⟩
      rw [show fN 11 = false from rfl]
      go_wp2_with fail
      all_goals first
        | (go_ret; exact ⟨ret_bool (by simp_all [fN] <;> (try intros) <;> omega), inferInstance⟩)
        | (refine (tagged_any _ _ _).mono ?_
           rintro _ w2 ⟨rfl, rfl⟩
           go_wp2_with fail
           all_goals
             go_ret
             exact ⟨ret_bool (by simp_all [fN] <;> (try intros) <;> omega), inferInstance⟩)
        | (refine (rparse_any _ _ hs).mono ?_
           rintro _ w2 ⟨A2, c2, B2, d2, rfl, hw2, y2, rfl⟩
           go_wp2_with fail
           all_goals
             go_ret
             exact ⟨ret_bool (by simp_all [fN] <;> (try intros) <;> omega), inferInstance⟩)
    · go_wp2_with fail
      all_goals
        go_ret
        exact ⟨ret_bool (by simp [h0]), inferInstance⟩
  exfalso
  omega
end Go.Proofs.Ytdghfhnkacfahaa
