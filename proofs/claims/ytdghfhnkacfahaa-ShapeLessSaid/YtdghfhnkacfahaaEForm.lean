/-
  Contracts: what the fields of an expression must be: tag, branches, operands, of.
-/
import Derived.Test.YtdghfhnkacfahaaEId
set_option linter.unusedVariables false
set_option linter.unusedSimpArgs false
namespace Go.Proofs.Ytdghfhnkacfahaa
open Go.RowKit Go.BigFrame

def tagB (t v : Int) : Bool := t == 1 && (v == 0 || v == 1) || decide (3 ≤ t) && decide (0 ≤ v) && decide (v < 16)
def branchesB (t n : Int) : Bool := t == 1 && n == 2 || decide (3 ≤ t) && decide (1 ≤ n) && decide (n ≤ 16)
def operandsI (o : Int) : Int := if o == 1 || o == 2 then 1 else 2
theorem tag_any (t v : Int) (w : World) : Calls Try.prog 89 #[.int .i64 t, .int .i64 v] w fun e w' => e = .returned (.bool (tagB t v)) ∧ w = w' := by
  go_enter Try.func89, Try.ntmps89
  go_wp2
  all_goals
    go_ret
    exact ⟨ret_bool (by unfold tagB; apply Bool.eq_iff_iff.2; simp at *; omega), rfl⟩
theorem branches_any (t n : Int) (w : World) : Calls Try.prog 91 #[.int .i64 t, .int .i64 n] w fun e w' => e = .returned (.bool (branchesB t n)) ∧ w = w' := by
  go_enter Try.func91, Try.ntmps91
  go_wp2
  all_goals
    go_ret
    exact ⟨ret_bool (by unfold branchesB; apply Bool.eq_iff_iff.2; simp at *; omega), rfl⟩
theorem operands_any (o : Int) (w : World) : Calls Try.prog 90 #[.int .i64 o] w fun e w' => e = .returned (.int .i64 (operandsI o)) ∧ w = w' := by
  go_enter Try.func90, Try.ntmps90
  go_wp2
  all_goals
    go_ret
    exact ⟨ret_int (by unfold operandsI; simp at *; (try split) <;> omega), rfl⟩

/-- the five fields of a form -/
def plainB (t v : Int) : Bool := t == 0 && v == 0
def fA (k o t v n : Int) : Bool :=
  if k == 1 || k == 2 || k == 11 then n == 0 else if k == 3 then n == operandsI o else if k == 4 then n == 3 else if k == 5 || k == 8 then n == 1 else if k == 6 || k == 7 then n == 2 else if k == 9 then t != 2 && branchesB t n else if k == 10 then decide (v ≤ n) else false
def fO (k : Int) : Bool := k == 3
def fT (k t v : Int) : Bool :=
  if k == 1 then (t == 2 && decide (-32768 ≤ v) && decide (v ≤ 32767)) || (t != 2 && tagB t v) else if k == 8 then t != 2 && tagB t v else if k == 9 then v == 0 else if k == 10 then t == 0 && (v == 0 || v == 1) else if decide (2 ≤ k) && decide (k ≤ 11) then plainB t v else false
def fN (k : Int) : Bool := k == 2 || k == 8 || k == 9 || k == 10
def fW (k : Int) : Bool := k == 11
theorem form_post {P : Program} {fn : Func} {a : Act} {w0 w' : World} {x1 x2 x3 x4 x5 y1 y2 y3 y4 y5 : Bool}
    (hr : (results fn a.tmps).run P w' = .ok (.agg #[.bool x1, .bool x2, .bool x3, .bool x4, .bool x5]) w') (hd : a.defers = []) (ha : After w0 w')
    (h : x1 = y1 ∧ x2 = y2 ∧ x3 = y3 ∧ x4 = y4 ∧ x5 = y5) : bodyPost P fn (fun e w'' => e = .returned (.agg #[.bool y1, .bool y2, .bool y3, .bool y4, .bool y5]) ∧ After w0 w'') .ret a w' := by
  obtain ⟨rfl, rfl, rfl, rfl, rfl⟩ := h
  exact bodyPost_ret hr hd ⟨rfl, ha⟩
set_option maxHeartbeats 4000000 in
set_option maxRecDepth 100000 in
theorem of_any {k o t v : Int} {s : ByteArray} {A : Option Addr} {n c : Nat} (hn : n ≤ 140737488355328) (w : World) :
    Calls Try.prog 73 #[.agg #[.int .i64 k, .int .i64 o, .int .i64 t, .int .i64 v, .string s, .slice A n c]] w fun e w' => e = .returned (.agg #[.bool (fA k o t v n), .bool (fO k), .bool (fT k t v), .bool (fN k), .bool (fW k)]) ∧ After w w' := by
  go_enter Try.func73, Try.ntmps73
  by_cases k1 : k = 1
  · subst k1
    go_wp2_with fail
    all_goals first
      | (refine form_post (by (simp [results, Try.results73, go_sem]; exact ⟨rfl, rfl, rfl, rfl, rfl⟩)) rfl inferInstance ?_; simp [fA, fO, fT, fN, fW, plainB, tagB, branchesB, operandsI, *] <;> (try omega))
      | (refine (tag_any _ _ _).mono ?_
         rintro e w' ⟨rfl, rfl⟩
         go_wp2_with fail
         all_goals (refine form_post (by (simp [results, Try.results73, go_sem]; exact ⟨rfl, rfl, rfl, rfl, rfl⟩)) rfl inferInstance ?_; simp [fA, fO, fT, fN, fW, plainB, tagB, branchesB, operandsI, *] <;> (try omega)))
  by_cases k2 : k = 2
  · subst k2
    go_wp2_with fail
    all_goals (refine form_post (by (simp [results, Try.results73, go_sem]; exact ⟨rfl, rfl, rfl, rfl, rfl⟩)) rfl inferInstance ?_; simp [fA, fO, fT, fN, fW, plainB, tagB, branchesB, operandsI, *] <;> (try omega))
  by_cases k3 : k = 3
  · subst k3
    go_wp2_with fail
    all_goals first
      | (refine form_post (by (simp [results, Try.results73, go_sem]; exact ⟨rfl, rfl, rfl, rfl, rfl⟩)) rfl inferInstance ?_; simp [fA, fO, fT, fN, fW, plainB, tagB, branchesB, operandsI, *] <;> (try omega))
      | (refine (operands_any _ _).mono ?_
         rintro e w' ⟨rfl, rfl⟩
         go_wp2_with fail
         all_goals (refine form_post (by (simp [results, Try.results73, go_sem]; exact ⟨rfl, rfl, rfl, rfl, rfl⟩)) rfl inferInstance ?_; simp [fA, fO, fT, fN, fW, plainB, tagB, branchesB, operandsI, *] <;> (try omega)))
  by_cases k4 : k = 4
  · subst k4
    go_wp2_with fail
    all_goals (refine form_post (by (simp [results, Try.results73, go_sem]; exact ⟨rfl, rfl, rfl, rfl, rfl⟩)) rfl inferInstance ?_; simp [fA, fO, fT, fN, fW, plainB, tagB, branchesB, operandsI, *] <;> (try omega))
  by_cases k5 : k = 5
  · subst k5
    go_wp2_with fail
    all_goals (refine form_post (by (simp [results, Try.results73, go_sem]; exact ⟨rfl, rfl, rfl, rfl, rfl⟩)) rfl inferInstance ?_; simp [fA, fO, fT, fN, fW, plainB, tagB, branchesB, operandsI, *] <;> (try omega))
  by_cases k6 : k = 6
  · subst k6
    go_wp2_with fail
    all_goals (refine form_post (by (simp [results, Try.results73, go_sem]; exact ⟨rfl, rfl, rfl, rfl, rfl⟩)) rfl inferInstance ?_; simp [fA, fO, fT, fN, fW, plainB, tagB, branchesB, operandsI, *] <;> (try omega))
  by_cases k7 : k = 7
  · subst k7
    go_wp2_with fail
    all_goals (refine form_post (by (simp [results, Try.results73, go_sem]; exact ⟨rfl, rfl, rfl, rfl, rfl⟩)) rfl inferInstance ?_; simp [fA, fO, fT, fN, fW, plainB, tagB, branchesB, operandsI, *] <;> (try omega))
  by_cases k8 : k = 8
  · subst k8
    go_wp2_with fail
    all_goals first
      | (refine form_post (by (simp [results, Try.results73, go_sem]; exact ⟨rfl, rfl, rfl, rfl, rfl⟩)) rfl inferInstance ?_; simp [fA, fO, fT, fN, fW, plainB, tagB, branchesB, operandsI, *] <;> (try omega))
      | (refine (tag_any _ _ _).mono ?_
         rintro e w' ⟨rfl, rfl⟩
         go_wp2_with fail
         all_goals (refine form_post (by (simp [results, Try.results73, go_sem]; exact ⟨rfl, rfl, rfl, rfl, rfl⟩)) rfl inferInstance ?_; simp [fA, fO, fT, fN, fW, plainB, tagB, branchesB, operandsI, *] <;> (try omega)))
  by_cases k9 : k = 9
  · subst k9
    rcases Decidable.em (t = 2) with ht | ht
    · subst ht
      go_wp2_with fail
      all_goals
        (refine wp_region_still_tail 13 (by kernel_rfl) (by kernel_rfl) ?_; simp only [List.take_succ_cons, List.take_zero, List.drop_succ_cons, List.drop_zero]; change wpStill _ _ (World.drew _) _ _ _; repeat still_step)
        refine wpStill_nil ?_
        change wpList _ _ _ _ _ (World.drew _)
        go_wp2_with fail
        all_goals (refine form_post (by (simp [results, Try.results73, go_sem]; exact ⟨rfl, rfl, rfl, rfl, rfl⟩)) rfl inferInstance ?_; simp [fA, fO, fT, fN, fW, plainB, tagB, branchesB, operandsI, *] <;> (try omega))
    · have ht' : (t == 2) = false := by simpa using ht
      go_wp2_with fail
      all_goals
        (refine wp_region_still_tail 13 (by kernel_rfl) (by kernel_rfl) ?_; simp only [List.take_succ_cons, List.take_zero, List.drop_succ_cons, List.drop_zero]; change wpStill _ _ (World.drew _) _ _ _; repeat still_step)
        still_call ((branches_any _ _ _).mono fun _ _ h => ⟨h.1, h.2.symm⟩)
        repeat still_step
        refine wpStill_nil ?_
        change wpList _ _ _ _ _ (World.drew _)
        go_wp2_with fail
        all_goals (refine form_post (by (simp [results, Try.results73, go_sem]; exact ⟨rfl, rfl, rfl, rfl, rfl⟩)) rfl inferInstance ?_; simp [fA, fO, fT, fN, fW, plainB, tagB, branchesB, operandsI, *] <;> (try omega))
  by_cases k10 : k = 10
  · subst k10
    go_wp2_with fail
    all_goals (refine form_post (by (simp [results, Try.results73, go_sem]; exact ⟨rfl, rfl, rfl, rfl, rfl⟩)) rfl inferInstance ?_; simp [fA, fO, fT, fN, fW, plainB, tagB, branchesB, operandsI, *] <;> (try omega))
  by_cases k11 : k = 11
  · subst k11
    go_wp2_with fail
    all_goals (refine form_post (by (simp [results, Try.results73, go_sem]; exact ⟨rfl, rfl, rfl, rfl, rfl⟩)) rfl inferInstance ?_; simp [fA, fO, fT, fN, fW, plainB, tagB, branchesB, operandsI, *] <;> (try omega))
  go_wp2_with fail
  all_goals (refine form_post (by (simp [results, Try.results73, go_sem]; exact ⟨rfl, rfl, rfl, rfl, rfl⟩)) rfl inferInstance ?_; simp [fA, fO, fT, fN, fW, plainB, tagB, branchesB, operandsI, *] <;> (try omega))
end Go.Proofs.Ytdghfhnkacfahaa
