/-
  Contracts: an expression over enumerations, without its arguments; the reference's inside and Expr.
-/
import Derived.Test.YtdghfhnkacfahaaSVal
import Derived.Test.YtdghfhnkacfahaaEPl
import Derived.Test.YtdghfhnkacfahaaECheck
import Derived.BigQuiet
set_option linter.unusedVariables false
set_option linter.unusedSimpArgs false
namespace Go.Proofs.Ytdghfhnkacfahaa
open Go.RowKit Go.BigFrame

/-- the error of an expression over the enumerations, without its arguments -/
def insE (l : List EnD) (k t v : Int) (n : Nat) : Int :=
  if k = 1 ∨ k = 8 then (if sizeV l t = 0 then 10 else if hasV l t v then 0 else 14)
  else if k = 9 then (if sizeV l t = 0 then 10 else if n = sizeV l t then 0 else 9) else 0
def insX (l : List EnD) (e : Tx) : Int := insE l e.kind e.ty e.va e.args.length
/-- the first error in a list -/
def firstX (l : List EnD) : List Tx → Int
  | [] => 0
  | e :: m => if insX l e = 0 then firstX l m else insX l e
theorem firstX_append (l : List EnD) (a b : List Tx) : firstX l (a ++ b) = if firstX l a = 0 then firstX l b else firstX l a := by
  induction a with
  | nil => simp [firstX]
  | cons x a ih =>
    rw [List.cons_append, firstX, firstX, ih]
    by_cases h : insX l x = 0
    · rw [if_pos h, if_pos h]
    · rw [if_neg h, if_neg h, if_neg h]
theorem firstX_snoc (l : List EnD) (a : List Tx) (e : Tx) : firstX l (a ++ [e]) = if firstX l a = 0 then insX l e else firstX l a := by
  rw [firstX_append]
  have : firstX l [e] = insX l e := by simp only [firstX]; split <;> simp_all
  rw [this]
theorem firstX_pre (l : List EnD) {a b : List Tx} (h : a <+: b) (e : firstX l a ≠ 0) : firstX l b = firstX l a := by
  obtain ⟨r, rfl⟩ := h
  rw [firstX_append, if_neg e]
/-- the first error of an expression over the enumerations -/
noncomputable def exE (l : List EnD) (e : Tx) : Int := if chkI e = 0 then firstX l e.list else chkI e

set_option maxRecDepth 100000 in
set_option maxHeartbeats 1600000 in
theorem sinside_any {w0 : World} {x : Lst EnD} (h : RowOf 2 PEn w0 x) (w : World) (hw : After w0 w) (k o t v : Int) (s : ByteArray) (A : Option Addr) (n c : Nat) (ht : t ≤ 9223372036854775807) (hn : n ≤ 140737488355328) :
    Calls Try.prog 17 #[.slice x.A x.l.length x.c, .agg #[.int .i64 k, .int .i64 o, .int .i64 t, .int .i64 v, .string s, .slice A n c]] w fun e w' => e = .returned (.int .i64 (insE x.l k t v n)) ∧ After w w' := by
  have hsz := sizeV_le h t
  have HS := Lib.hid (fun (U : World) (hU : After w0 U) => vsize_any h U hU t ht)
  have HH := Lib.hid (fun (U : World) (hU : After w0 U) => vhas_any h U hU t v ht)
  obtain ⟨R, hR⟩ : ∃ R, insE x.l k t v n = R := ⟨_, rfl⟩
  have HR := Lib.hid hR
  rw [hR]
  obtain ⟨m, hm⟩ : ∃ m, sizeV x.l t = m := ⟨_, rfl⟩
  obtain ⟨q, hq⟩ : ∃ q, hasV x.l t v = q := ⟨_, rfl⟩
  have HV : Hid (R = if k = 1 ∨ k = 8 then (if m = 0 then 10 else if q then 0 else 14) else if k = 9 then (if m = 0 then 10 else if n = m then 0 else 9) else 0) := by
    show _ = _
    rw [← HR.out]; unfold insE; rw [hm, hq]
  rw [hm] at HS hsz
  rw [hq] at HH
  clear hR HR hm hq h
  obtain ⟨W1, hW1, HK, a1⟩ : ∃ W1, w.alloc (.cells #[.int .i64 k, .int .i64 o, .int .i64 t, .int .i64 v, .string s, .slice A n c] 25) = W1 ∧ Hid (∀ U : World, After W1 U → U.cell? ⟨w.heap.size, 0, none⟩ = some (.int .i64 k) ∧ U.cell? ⟨w.heap.size, 2, none⟩ = some (.int .i64 t) ∧ U.cell? ⟨w.heap.size, 3, none⟩ = some (.int .i64 v) ∧ U.cell? ⟨w.heap.size, 5, none⟩ = some (.slice A n c) ∧ Le (w.heap.size + 1) U) ∧ After w W1 := by
    refine ⟨_, rfl, fun U hU => ?_, inferInstance⟩
    have y0 := (Blk.new w 25 #[.int .i64 k, .int .i64 o, .int .i64 t, .int .i64 v, .string s, .slice A n c]).after (w' := U)
    exact ⟨by rw [y0.cell]; rfl, by rw [y0.cell]; rfl, by rw [y0.cell]; rfl, by rw [y0.cell]; rfl, y0.is_le⟩
  obtain ⟨k0, k2, k3, k5, kl⟩ := HK.out W1 inferInstance
  go_enter Try.func17, Try.ntmps17
  go_wp2_with fail
  try rw [hW1]
  clear hW1
  refine (HS.out W1 (after_after hw a1)).mono ?_
  rintro e w2 ⟨rfl, a2⟩
  have d2 : After w w2 := after_after a1 a2
  clear k0 k2 k3 k5 kl
  obtain ⟨k0, k2, k3, k5, kl⟩ := HK.out w2 a2
  by_cases h18 : k = 1 ∨ k = 8
  · have HV2 : Hid (R = if m = 0 then 10 else if q then 0 else 14) := by show _ = _; rw [HV.out, if_pos h18]
    have b9 : (k == 9) = false := by rw [beq_eq_false_iff_ne]; omega
    by_cases hm0 : m = 0
    · subst hm0
      have HE : Hid (R = 10) := by show _ = _; rw [HV2.out, if_pos rfl]
      rcases h18 with rfl | rfl
      all_goals
        go_wp2_with fail
        go_ret
        exact ⟨by rw [HE.out]; rfl, d2⟩
    · have hm1 : (0 : Int) < (m : Int) := by omega
      have hm2 : ((m : Int) == 0) = false := by rw [beq_eq_false_iff_ne]; omega
      have hm3 : (m == 0) = false := by rw [beq_eq_false_iff_ne]; omega
      cases q with
      | true =>
        have HE : Hid (R = 0) := by show _ = _; rw [HV2.out, if_neg hm0]; rfl
        rcases h18 with rfl | rfl
        all_goals
          go_wp2_with fail
          refine (HH.out w2 (after_after hw d2)).mono ?_
          rintro e w3 ⟨rfl, a3⟩
          have d3 : After w w3 := after_after d2 a3
          clear k0 k2 k3 k5 kl
          obtain ⟨k0, k2, k3, k5, kl⟩ := HK.out w3 (after_after a2 a3)
          go_wp2_with fail
          go_ret
          exact ⟨by rw [HE.out]; rfl, d3⟩
      | false =>
        have HE : Hid (R = 14) := by show _ = _; rw [HV2.out, if_neg hm0]; rfl
        rcases h18 with rfl | rfl
        all_goals
          go_wp2_with fail
          refine (HH.out w2 (after_after hw d2)).mono ?_
          rintro e w3 ⟨rfl, a3⟩
          have d3 : After w w3 := after_after d2 a3
          go_wp2_with fail
          go_ret
          exact ⟨by rw [HE.out]; rfl, d3⟩
  · replace HV := Lib.hid (HV.out.trans (if_neg h18))
    have b1 : (k == 1) = false := by rw [beq_eq_false_iff_ne]; omega
    have b8 : (k == 8) = false := by rw [beq_eq_false_iff_ne]; omega
    by_cases h9 : k = 9
    · subst h9
      replace HV := Lib.hid (HV.out.trans (if_pos rfl))
      by_cases hm0 : m = 0
      · subst hm0
        have HE : Hid (R = 10) := by show _ = _; rw [HV.out, if_pos rfl]
        go_wp2_with fail
        go_ret
        exact ⟨by rw [HE.out]; rfl, d2⟩
      · have hm2 : ((m : Int) == 0) = false := by rw [beq_eq_false_iff_ne]; omega
        have hm3 : (m == 0) = false := by rw [beq_eq_false_iff_ne]; omega
        by_cases hnm : n = m
        · subst hnm
          have HE : Hid (R = 0) := by show _ = _; rw [HV.out, if_neg hm0, if_pos rfl]
          go_wp2_with fail
          go_ret
          exact ⟨by rw [HE.out]; rfl, d2⟩
        · have HE : Hid (R = 9) := by show _ = _; rw [HV.out, if_neg hm0, if_neg hnm]
          have hx1 : ((n : Int) == (m : Int)) = false := by rw [beq_eq_false_iff_ne]; omega
          have hx2 : ((n : Int) != (m : Int)) = true := by rw [bne, hx1]; rfl
          go_wp2_with fail
          go_ret
          exact ⟨by rw [HE.out]; rfl, d2⟩
    · have HE : Hid (R = 0) := HV.out.trans (if_neg h9)
      have b9 : (k == 9) = false := by rw [beq_eq_false_iff_ne]; omega
      go_wp2_with fail
      go_ret
      exact ⟨by rw [HE.out]; rfl, d2⟩
end Go.Proofs.Ytdghfhnkacfahaa
