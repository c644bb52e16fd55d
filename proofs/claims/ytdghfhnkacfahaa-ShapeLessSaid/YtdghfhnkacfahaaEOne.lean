/-
  Contract: one (the error of an expression without its arguments).
-/
import Derived.Test.YtdghfhnkacfahaaEForm
import Derived.Test.YtdghfhnkacfahaaEPar
set_option linter.unusedVariables false
set_option linter.unusedSimpArgs false
namespace Go.Proofs.Ytdghfhnkacfahaa
open Go.RowKit Go.BigFrame

/-- the error of an expression, out of its form -/
noncomputable def oneB (a b c d e : Bool) (o : Int) (s : ByteArray) : Int :=
  if a = false ∨ c = false ∨ b = !(decide (o ≠ 0)) ∨ b = true ∧ (o < 1 ∨ 16 < o) then 5
  else if d = true then (if identB s = true then 0 else 6)
  else if e = true then (if (parseV s.data.toList).2 = 0 then 0 else 5)
  else if s.toList.isEmpty = true then 0 else 5
noncomputable def oneI (k o t v : Int) (s : ByteArray) (n : Nat) : Int :=
  if 64 < n then 3 else oneB (fA k o t v n) (fO k) (fT k t v) (fN k) (fW k) o s
set_option maxHeartbeats 4000000 in
set_option maxRecDepth 100000 in
theorem one_any {k o t v : Int} {s : ByteArray} {A : Option Addr} {n c : Nat} (hn : n ≤ 140737488355328) (hs : s.size ≤ 140737488355328) (w : World) :
    Calls Try.prog 38 #[.agg #[.int .i64 k, .int .i64 o, .int .i64 t, .int .i64 v, .string s, .slice A n c]] w fun e w' => e = .returned (.int .i64 (oneI k o t v s n)) ∧ After w w' := by
  have HO : Hid (∀ w, Calls Try.prog 73 #[.agg #[.int .i64 k, .int .i64 o, .int .i64 t, .int .i64 v, .string s, .slice A n c]] w fun e w' => e = .returned (.agg #[.bool (fA k o t v n), .bool (fO k), .bool (fT k t v), .bool (fN k), .bool (fW k)]) ∧ After w w') := Lib.hid fun w => of_any hn w
  unfold oneI
  generalize fA k o t v n = a at HO ⊢
  generalize fO k = b at HO ⊢
  generalize fT k t v = c' at HO ⊢
  generalize fN k = d at HO ⊢
  generalize fW k = e' at HO ⊢
  go_enter Try.func38, Try.ntmps38
  by_cases h64 : 64 < n
  · have h64I : (64 : Int) < n := by omega
    go_wp2_with fail
    go_ret
    exact ⟨by simp [h64], inferInstance⟩
  · have h64I : ¬ (64 : Int) < n := by omega
    go_wp2_with fail
    refine (HO.out _).mono ?_
    rintro _ w1 ⟨rfl, ha⟩
    obtain ⟨y, rfl⟩ := @After.is_more _ _ ha
    clear ha
    cases a
    · go_wp2_with fail
      all_goals
        go_ret
        exact ⟨by simp [h64, oneB], inferInstance⟩
    cases c'
    · go_wp2_with fail
      all_goals
        go_ret
        exact ⟨by simp [h64, oneB], inferInstance⟩
    by_cases h0 : o = 0
    · subst h0
      cases b
      · go_wp2_with fail
        all_goals first
          | (go_ret; exact ⟨by simp_all [oneB], inferInstance⟩)
          | (refine (ident_any _ (by omega) _).mono ?_
             rintro _ w2 ⟨rfl, ha⟩
             obtain ⟨y2, rfl⟩ := @After.is_more _ _ ha
             clear ha
             go_wp2_with fail
             all_goals
               go_ret
               exact ⟨by simp_all [oneB], inferInstance⟩)
          | (refine (parse_any _ _ hs).mono ?_
             rintro _ w2 ⟨A2, c2, B2, d2, rfl, hw2, y2, rfl⟩
             go_wp2_with fail
             all_goals
               go_ret
               exact ⟨by simp_all [oneB], inferInstance⟩)
      · go_wp2_with fail
        all_goals
          go_ret
          exact ⟨by simp [h64, oneB], inferInstance⟩
    · cases b
      · go_wp2_with fail
        all_goals
          go_ret
          exact ⟨by simp [h64, oneB, h0], inferInstance⟩
      · by_cases h1 : o < 1 ∨ 16 < o
        · go_wp2_with fail
          all_goals
            go_ret
            exact ⟨by simp [h64, oneB, h0, h1], inferInstance⟩
        · have h2 : ¬ o < 1 := by omega
          have h3 : ¬ 16 < o := by omega
          go_wp2_with fail
          all_goals first
            | (go_ret; exact ⟨by simp_all [oneB], inferInstance⟩)
            | (refine (ident_any _ (by omega) _).mono ?_
               rintro _ w2 ⟨rfl, ha⟩
               obtain ⟨y2, rfl⟩ := @After.is_more _ _ ha
               clear ha
               go_wp2_with fail
               all_goals
                 go_ret
                 exact ⟨by simp_all [oneB], inferInstance⟩)
            | (refine (parse_any _ _ hs).mono ?_
               rintro _ w2 ⟨A2, c2, B2, d2, rfl, hw2, y2, rfl⟩
               go_wp2_with fail
               all_goals
                 go_ret
                 exact ⟨by simp_all [oneB], inferInstance⟩)
end Go.Proofs.Ytdghfhnkacfahaa
