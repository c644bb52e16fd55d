/-
  Contracts of the reference: Find, Plain (printed by gen_rfind.py).
-/
/-
  Contracts of the reference: Check, Find, Plain (printed by gen_rk.py).
-/
import Derived.Test.YtdghfhnkacfahaaGreatSFi
import Derived.Test.YtdghfhnkacfahaaGreatSMust
import Derived.Test.YtdghfhnkacfahaaGreatRkB
import Derived.Test.YtdghfhnkacfahaaGreatSCk
import Derived.Test.YtdghfhnkacfahaaGreatESame
set_option linter.unusedVariables false
set_option linter.unusedSimpArgs false
namespace Go.Proofs.YtdghfhnkacfahaaGreat
open Go.RowKit Go.BigFrame
variable {S : Prop}

set_option maxRecDepth 100000 in
set_option maxHeartbeats 3200000 in
theorem rfind_any {w0 : World} {eA nA : Option Addr} {en ec nc : Nat} {nl : List NdD} (hnd : RowOf 8 (PNd S) w0 ⟨nA, nc, nl⟩) (s : ByteArray) (w : World) (hw : After w0 w) :
    Calls Tryz.prog 9 #[.agg #[.slice eA en ec, .slice nA nl.length nc], .string s] w fun e w' => e = .returned (.tuple #[.int .i64 (max (ixV (isNamed s) nl 0) 0), .bool (decide (0 ≤ ixV (isNamed s) nl 0))]) ∧ After w w' := by
  have HND := Lib.hid hnd
  have hle := hnd.len
  simp only [] at hle
  obtain ⟨R, hR⟩ : ∃ R, ixV (isNamed s) nl 0 = R := ⟨_, rfl⟩
  have HR := Lib.hid hR
  rw [hR]
  clear hR
  clear hnd
  obtain ⟨gb, hgb⟩ : ∃ g, w.heap.size = g := ⟨_, rfl⟩
  obtain ⟨W1, hW1, a1, HK⟩ : ∃ W, w.alloc (.cells #[.slice eA en ec, .slice nA nl.length nc] 25) = W ∧ After w W ∧ Hid (∀ U : World, After W U → U.cell? ⟨gb, 0, none⟩ = some (.slice eA en ec) ∧ U.cell? ⟨gb, 1, none⟩ = some (.slice nA nl.length nc) ∧ Le (gb + 1) U) := by
    refine ⟨_, rfl, inferInstance, fun U hU => ?_⟩
    have y0 := (Blk.new w 25 #[.slice eA en ec, .slice nA nl.length nc]).after (w' := U)
    rw [hgb] at y0
    exact ⟨(y0.cell 0).trans rfl, (y0.cell 1).trans rfl, y0.is_le⟩
  obtain ⟨k0, k1, kl⟩ := HK.out W1 (after_refl _)
  go_enter Tryz.func9, Tryz.ntmps9
  go_wp2_with fail
  try rw [hW1]
  try rw [hgb]
  clear hW1 hgb
  go_loopw [6] (fun i wr => ∃ j : Nat, j ≤ nl.length ∧ i = .int .i64 (j : Nat) ∧ Hid ((nl.take j).any (isNamed s) = false) ∧ After W1 wr) (fun i _ => nl.length - (intOf i).toNat)
  case atStart => exact ⟨0, by omega, rfl, Lib.hid (by simp), after_refl _⟩
  case round =>
    obtain ⟨j, hj, rfl, HJ, ar⟩ := hrel
    have aw : After w wr := after_after a1 ar
    have a0r : After w0 wr := after_after hw aw
    clear k0 k1 kl
    obtain ⟨k0, k1, kl⟩ := HK.out wr ar
    by_cases hlt : j < nl.length
    · have hltI : (j : Int) < (nl.length : Int) := by omega
      obtain ⟨b, p, yj, hA, hle1, HY, hP⟩ := (HND.out.nds wr (k := a0r)).part (i := j) hlt
      simp only [] at hA HY
      subst hA
      obtain ⟨nm, ⟨inA, inc, in_⟩, ⟨ouA, ouc, ou⟩, ⟨loA, loc, lo⟩, ⟨eqA, eqc, eq⟩, ⟨auA, auc, au⟩, ⟨asA, asc, as_⟩, ⟨enA, enc, en_⟩⟩ := yj
      obtain ⟨z0, z1, z2, z3, z4, z5, z6, z7⟩ : wr.cell? ⟨b, p + j * 8, none⟩ = some (.string nm) ∧ wr.cell? ⟨b, p + j * 8 + 1, none⟩ = some (.slice inA in_.length inc) ∧ wr.cell? ⟨b, p + j * 8 + 2, none⟩ = some (.slice ouA ou.length ouc) ∧ wr.cell? ⟨b, p + j * 8 + 3, none⟩ = some (.slice loA lo.length loc) ∧ wr.cell? ⟨b, p + j * 8 + 4, none⟩ = some (.slice eqA eq.length eqc) ∧ wr.cell? ⟨b, p + j * 8 + 5, none⟩ = some (.slice auA au.length auc) ∧ wr.cell? ⟨b, p + j * 8 + 6, none⟩ = some (.slice asA as_.length asc) ∧ wr.cell? ⟨b, p + j * 8 + 7, none⟩ = some (.slice enA en_.length enc) := ⟨hP.c0, hP.c1, hP.c2, hP.c3, hP.c4, hP.c5, hP.c6, hP.c7⟩
      clear hP
      obtain ⟨q, hq⟩ : ∃ q, (nm.toList == s.toList) = q := ⟨_, rfl⟩
      cases q
      rotate_left
      · have HQ : Hid (isNamed s ⟨nm, ⟨inA, inc, in_⟩, ⟨ouA, ouc, ou⟩, ⟨loA, loc, lo⟩, ⟨eqA, eqc, eq⟩, ⟨auA, auc, au⟩, ⟨asA, asc, as_⟩, ⟨enA, enc, en_⟩⟩ = true) := hq
        have HE : Hid (R = (j : Int)) := Lib.hid (by rw [← HR.out]; exact (ixV_at _ 0 HY.out HJ.out HQ.out).trans (by omega))
        go_wp2_with fail
        go_ret2
        exact ⟨by rw [HE.out, show max (j : Int) 0 = (j : Int) by omega, show decide ((0 : Int) ≤ (j : Int)) = true by simp] <;> rfl, aw⟩
      · have HQ : Hid (isNamed s ⟨nm, ⟨inA, inc, in_⟩, ⟨ouA, ouc, ou⟩, ⟨loA, loc, lo⟩, ⟨eqA, eqc, eq⟩, ⟨auA, auc, au⟩, ⟨asA, asc, as_⟩, ⟨enA, enc, en_⟩⟩ = false) := hq

        go_wp2_with fail
        go_roundw
        case rel => exact ⟨j + 1, by omega, by go_num, Lib.hid (any_take _ HY.out HJ.out HQ.out), ar⟩
        case measure => simp only [intOf]; omega
    · have HA := any_all _ hlt HJ.out
      have HE : Hid (R = -1) := Lib.hid (by rw [← HR.out]; exact ixV_none _ nl 0 HA)
      clear HA
      go_wp2_with fail
      go_ret2
      exact ⟨by rw [HE.out] <;> rfl, aw⟩
set_option maxRecDepth 100000 in
set_option maxHeartbeats 3200000 in
theorem rplain_any {w0 : World} {eA nA : Option Addr} {en ec nc : Nat} {nl : List NdD} (hnd : RowOf 8 (PNd S) w0 ⟨nA, nc, nl⟩) (w : World) (hw : After w0 w) :
    Calls Tryz.prog 7 #[.agg #[.slice eA en ec, .slice nA nl.length nc]] w fun e w' => e = .returned (.bool (!nl.any hasAutos)) ∧ After w w' := by
  have HND := Lib.hid hnd
  have hle := hnd.len
  simp only [] at hle
  obtain ⟨R, hR⟩ : ∃ R, (!nl.any hasAutos) = R := ⟨_, rfl⟩
  have HR := Lib.hid hR
  rw [hR]
  clear hR
  clear hnd
  obtain ⟨gb, hgb⟩ : ∃ g, w.heap.size = g := ⟨_, rfl⟩
  obtain ⟨W1, hW1, a1, HK⟩ : ∃ W, w.alloc (.cells #[.slice eA en ec, .slice nA nl.length nc] 25) = W ∧ After w W ∧ Hid (∀ U : World, After W U → U.cell? ⟨gb, 0, none⟩ = some (.slice eA en ec) ∧ U.cell? ⟨gb, 1, none⟩ = some (.slice nA nl.length nc) ∧ Le (gb + 1) U) := by
    refine ⟨_, rfl, inferInstance, fun U hU => ?_⟩
    have y0 := (Blk.new w 25 #[.slice eA en ec, .slice nA nl.length nc]).after (w' := U)
    rw [hgb] at y0
    exact ⟨(y0.cell 0).trans rfl, (y0.cell 1).trans rfl, y0.is_le⟩
  obtain ⟨k0, k1, kl⟩ := HK.out W1 (after_refl _)
  go_enter Tryz.func7, Tryz.ntmps7
  go_wp2_with fail
  try rw [hW1]
  try rw [hgb]
  clear hW1 hgb
  go_loopw [3] (fun i wr => ∃ j : Nat, j ≤ nl.length ∧ i = .int .i64 (j : Nat) ∧ Hid ((nl.take j).any (hasAutos) = false) ∧ After W1 wr) (fun i _ => nl.length - (intOf i).toNat)
  case atStart => exact ⟨0, by omega, rfl, Lib.hid (by simp), after_refl _⟩
  case round =>
    obtain ⟨j, hj, rfl, HJ, ar⟩ := hrel
    have aw : After w wr := after_after a1 ar
    have a0r : After w0 wr := after_after hw aw
    clear k0 k1 kl
    obtain ⟨k0, k1, kl⟩ := HK.out wr ar
    by_cases hlt : j < nl.length
    · have hltI : (j : Int) < (nl.length : Int) := by omega
      obtain ⟨b, p, yj, hA, hle1, HY, hP⟩ := (HND.out.nds wr (k := a0r)).part (i := j) hlt
      simp only [] at hA HY
      subst hA
      obtain ⟨nm, ⟨inA, inc, in_⟩, ⟨ouA, ouc, ou⟩, ⟨loA, loc, lo⟩, ⟨eqA, eqc, eq⟩, ⟨auA, auc, au⟩, ⟨asA, asc, as_⟩, ⟨enA, enc, en_⟩⟩ := yj
      obtain ⟨z0, z1, z2, z3, z4, z5, z6, z7⟩ : wr.cell? ⟨b, p + j * 8, none⟩ = some (.string nm) ∧ wr.cell? ⟨b, p + j * 8 + 1, none⟩ = some (.slice inA in_.length inc) ∧ wr.cell? ⟨b, p + j * 8 + 2, none⟩ = some (.slice ouA ou.length ouc) ∧ wr.cell? ⟨b, p + j * 8 + 3, none⟩ = some (.slice loA lo.length loc) ∧ wr.cell? ⟨b, p + j * 8 + 4, none⟩ = some (.slice eqA eq.length eqc) ∧ wr.cell? ⟨b, p + j * 8 + 5, none⟩ = some (.slice auA au.length auc) ∧ wr.cell? ⟨b, p + j * 8 + 6, none⟩ = some (.slice asA as_.length asc) ∧ wr.cell? ⟨b, p + j * 8 + 7, none⟩ = some (.slice enA en_.length enc) := ⟨hP.c0, hP.c1, hP.c2, hP.c3, hP.c4, hP.c5, hP.c6, hP.c7⟩
      clear hP
      by_cases h0 : 0 < au.length
      · have HQ : Hid (hasAutos ⟨nm, ⟨inA, inc, in_⟩, ⟨ouA, ouc, ou⟩, ⟨loA, loc, lo⟩, ⟨eqA, eqc, eq⟩, ⟨auA, auc, au⟩, ⟨asA, asc, as_⟩, ⟨enA, enc, en_⟩⟩ = true) := Lib.hid (decide_eq_true (show (0 : Int) < (au.length : Int) by omega))
        have h1 : (0 : Int) < (au.length : Int) := by omega
        have HE : Hid (R = false) := Lib.hid (by rw [← HR.out, List.any_eq_true.2 ⟨_, List.mem_of_getElem? HY.out, HQ.out⟩]; rfl)
        go_wp2_with fail
        go_ret
        exact ⟨by rw [HE.out] <;> rfl, aw⟩
      · have HQ : Hid (hasAutos ⟨nm, ⟨inA, inc, in_⟩, ⟨ouA, ouc, ou⟩, ⟨loA, loc, lo⟩, ⟨eqA, eqc, eq⟩, ⟨auA, auc, au⟩, ⟨asA, asc, as_⟩, ⟨enA, enc, en_⟩⟩ = false) := Lib.hid (decide_eq_false (show ¬ (0 : Int) < (au.length : Int) by omega))
        have h1 : ¬ (0 : Int) < (au.length : Int) := by omega
        go_wp2_with fail
        go_roundw
        case rel => exact ⟨j + 1, by omega, by go_num, Lib.hid (any_take _ HY.out HJ.out HQ.out), ar⟩
        case measure => simp only [intOf]; omega
    · have HA := any_all _ hlt HJ.out
      have HE : Hid (R = true) := Lib.hid (by rw [← HR.out, HA]; rfl)
      clear HA
      go_wp2_with fail
      go_ret
      exact ⟨by rw [HE.out] <;> rfl, aw⟩
end Go.Proofs.YtdghfhnkacfahaaGreat
set_option linter.unusedVariables false
set_option linter.unusedSimpArgs false
namespace Go.Proofs.YtdghfhnkacfahaaGreat
open Go.RowKit Go.BigFrame

variable {S : Prop}
theorem rc_ret {w : World} {g2 : Nat} {v1 v2 v3 : Int} {V : Int × Int × Int} {cs : Array Value} {U : World} {tm : Array Value} (hb : Blk U g2 27 cs) (hs : cs.size = 2) (hg : w.heap.size ≤ g2) (ha : After w U) (hv : V = (v1, v2, v3)) (t2 : tm[2]? = some (.pointer (some ⟨g2, 0, none⟩))) (t3 : tm[3]? = some (.int .i64 v3)) :
    bodyPost Tryz.prog Tryz.f5 (fun e w' => e = .returned (.tuple #[.agg #[.int .i64 V.1, .int .i64 V.2.1], .int .i64 V.2.2]) ∧ After w w') Exit.ret { tmps := tm, defers := [] } ((U.setCell ⟨g2, 0, none⟩ (.int .i64 v1)).setCell ⟨g2, 1, none⟩ (.int .i64 v2)) := by
  have b2 := (hb.set_ 0 (.int .i64 v1)).set_ 1 (.int .i64 v2)
  have y1 : ((U.setCell ⟨g2, 0, none⟩ (.int .i64 v1)).setCell ⟨g2, 1, none⟩ (.int .i64 v2)).cell? ⟨g2, 0, none⟩ = some (.int .i64 v1) := by rw [b2.cell]; simp [hs]
  have y2 : ((U.setCell ⟨g2, 0, none⟩ (.int .i64 v1)).setCell ⟨g2, 1, none⟩ (.int .i64 v2)).cell? ⟨g2, 1, none⟩ = some (.int .i64 v2) := by rw [b2.cell]; simp [hs]
  have n2 : New w g2 := ⟨hg⟩
  obtain ⟨W, hW, aW⟩ : ∃ W, (U.setCell ⟨g2, 0, none⟩ (.int .i64 v1)).setCell ⟨g2, 1, none⟩ (.int .i64 v2) = W ∧ After w W := ⟨_, rfl, inferInstance⟩
  rw [hW] at y1 y2 ⊢
  subst hv
  exact bodyPost_ret (v := .tuple #[.agg #[.int .i64 v1, .int .i64 v2], .int .i64 v3]) (by simp [results, Tryz.results5, go_sem, t2, t3, y1, y2]) rfl ⟨rfl, aW⟩
set_option maxRecDepth 100000 in
set_option maxHeartbeats 6400000 in
theorem rpcheck_any {w0 : World} {eA nA : Option Addr} {ec nc : Nat} {el : List EnD} {nl : List NdD} (hen : RowOf 2 PEn w0 ⟨eA, ec, el⟩) (hnd : RowOf 8 (PNd True) w0 ⟨nA, nc, nl⟩) (w : World) (hw : After w0 w) :
    Calls Tryz.prog 5 #[.agg #[.slice eA el.length ec, .slice nA nl.length nc]] w fun e w' => e = .returned (.tuple #[.agg #[.int .i64 (checkV el nl).1, .int .i64 (checkV el nl).2.1], .int .i64 (checkV el nl).2.2]) ∧ After w w' := by
  obtain ⟨V, hV⟩ : ∃ V, checkV el nl = V := ⟨_, rfl⟩
  rw [hV]
  obtain ⟨R, hR⟩ : ∃ R, preE el nl = R := ⟨_, rfl⟩
  have HVV : Hid (R ≠ 0 → V = (-1, -1, R)) := fun h => by rw [← hV, checkV, hR, if_neg h]
  have HVN : Hid (R = 0 → V = nodesV el nl 0) := fun h => by rw [← hV, checkV, hR, if_pos h]
  have HV0 : Hid (R = ore (limE (decide ((el.length : Int) ≤ 24) && decide ((nl.length : Int) ≤ 96)) 3) (ore (firstE enumE el) 0)) := by
    show _ = _
    rw [← hR, ore_zero]; rfl
  have hle1 := hen.len
  have hle2 := hnd.len
  simp only [] at hle1 hle2
  have HEN := Lib.hid hen
  have HND := Lib.hid hnd
  clear hV hR hen hnd
  obtain ⟨g0, hg0⟩ : ∃ g, w.heap.size = g := ⟨_, rfl⟩
  obtain ⟨W1, hW1, a1, q1, q2, q3⟩ : ∃ W, (((w.alloc (.cells #[.slice eA el.length ec, .slice nA nl.length nc] 25)).alloc (.cells #[.int .i64 0, .int .i64 0] 27)).alloc (.cells #[.int .i64 (-1), .int .i64 (-1)] 27)) = W ∧ After w W ∧ Blk W g0 25 #[.slice eA el.length ec, .slice nA nl.length nc] ∧ Blk W (g0 + 1) 27 #[.int .i64 0, .int .i64 0] ∧ Blk W (g0 + 1 + 1) 27 #[.int .i64 (-1), .int .i64 (-1)] := by
    have s1 : (w.alloc (.cells #[.slice eA el.length ec, .slice nA nl.length nc] 25)).heap.size = g0 + 1 := by rw [size_alloc_, hg0]
    have s2 : ((w.alloc (.cells #[.slice eA el.length ec, .slice nA nl.length nc] 25)).alloc (.cells #[.int .i64 0, .int .i64 0] 27)).heap.size = g0 + 1 + 1 := by rw [size_alloc_, s1]
    have b0 := Blk.new w 25 #[.slice eA el.length ec, .slice nA nl.length nc]
    rw [hg0] at b0
    have b1 := Blk.at_' s1 27 #[.int .i64 0, .int .i64 0]
    have b2 := Blk.at_' s2 27 #[.int .i64 (-1), .int .i64 (-1)]
    exact ⟨_, rfl, inferInstance, (b0.alloc _).alloc _, b1.alloc _, b2⟩
  have HB : Hid (∀ U, After W1 U → Blk U (g0 + 1) 27 #[.int .i64 0, .int .i64 0]) := fun U hU => q2.after (k := hU)
  have HK : Hid (∀ U : World, After W1 U → U.cell? ⟨g0, 0, none⟩ = some (.slice eA el.length ec) ∧ U.cell? ⟨g0, 1, none⟩ = some (.slice nA nl.length nc) ∧ U.cell? ⟨g0 + 1, 0, none⟩ = some (.int .i64 0) ∧ U.cell? ⟨g0 + 1, 1, none⟩ = some (.int .i64 0) ∧ U.cell? ⟨g0 + 1 + 1, 0, none⟩ = some (.int .i64 (-1)) ∧ U.cell? ⟨g0 + 1 + 1, 1, none⟩ = some (.int .i64 (-1)) ∧ U.frozen? ⟨g0 + 1, 0, none⟩ = false ∧ U.frozen? ⟨g0 + 1, 1, none⟩ = false ∧ Le (g0 + 1) U ∧ Le (g0 + 1 + 1) U ∧ Le (g0 + 1 + 1 + 1) U) := fun U hU => by
    have y1 := q1.after (w' := U)
    have y2 := q2.after (w' := U)
    have y3 := q3.after (w' := U)
    exact ⟨(y1.cell 0).trans rfl, (y1.cell 1).trans rfl, (y2.cell 0).trans rfl, (y2.cell 1).trans rfl, (y3.cell 0).trans rfl, (y3.cell 1).trans rfl, y2.frozen 0, y2.frozen 1, y1.is_le, y2.is_le, y3.is_le⟩
  obtain ⟨k0, k1, r0, r1, o0, o1, fr0, fr1, kl, rl, ol⟩ := HK.out W1 (after_refl _)
  have dBW1 := a1
  clear q1 q2 q3
  have hgl : w.heap.size ≤ g0 := Nat.le_of_eq hg0
  go_enter Tryz.func5, Tryz.ntmps5
  by_cases hl0 : (el.length : Int) ≤ 24
  rotate_left
  · have hn_ : ¬ el.length ≤ 24 := by omega
    have hn2_ : 24 < el.length := by omega
    have hn3_ : (24 : Int) < (el.length : Int) := by omega
    have HX : Hid (R = 3) := Lib.hid (by rw [HV0.out, decide_eq_false hl0]; simp only [Bool.false_and, Bool.and_false]; rfl)
    have HE : Hid (R = 3) := HX
    have HW : Hid (V = (-1, -1, 3)) := Lib.hid ((HVV.out (by rw [HE.out]; first | decide | exact hE)).trans (by rw [HE.out]))
    go_wp2_with fail
    try rw [hg0]
    try rw [hW1]
    exact rc_ret (HB.out _ (after_refl W1)) rfl (by omega) a1 HW.out rfl rfl
  have hm0_ : el.length ≤ 24 := by omega
  have hk0_ : ¬ (24 : Int) < (el.length : Int) := by omega
  have hj0_ : ¬ 24 < el.length := by omega
  by_cases hl1 : (nl.length : Int) ≤ 96
  rotate_left
  · have hn_ : ¬ nl.length ≤ 96 := by omega
    have hn2_ : 96 < nl.length := by omega
    have hn3_ : (96 : Int) < (nl.length : Int) := by omega
    have HX : Hid (R = 3) := Lib.hid (by rw [HV0.out, decide_eq_true hl0, decide_eq_false hl1]; simp only [Bool.false_and, Bool.and_false]; rfl)
    have HE : Hid (R = 3) := HX
    have HW : Hid (V = (-1, -1, 3)) := Lib.hid ((HVV.out (by rw [HE.out]; first | decide | exact hE)).trans (by rw [HE.out]))
    go_wp2_with fail
    try rw [hg0]
    try rw [hW1]
    exact rc_ret (HB.out _ (after_refl W1)) rfl (by omega) a1 HW.out rfl rfl
  have hm1_ : nl.length ≤ 96 := by omega
  have hk1_ : ¬ (96 : Int) < (nl.length : Int) := by omega
  have hj1_ : ¬ 96 < nl.length := by omega
  replace HV0 : Hid (R = ore (firstE enumE el) 0) := by show _ = _; rw [HV0.out, decide_eq_true hl0, decide_eq_true hl1]; rfl
  go_wp2_with fail
  try rw [hg0]
  try rw [hW1]
  clear hW1 hg0
  clear hl0 hm0_ hk0_ hj0_ hl1 hm1_ hk1_ hj1_
  go_loopw [5] (fun i wr => ∃ j : Nat, j ≤ el.length ∧ i = .int .i64 (j : Nat) ∧ Hid (firstE enumE (el.take j) = 0) ∧ After W1 wr) (fun i _ => el.length - (intOf i).toNat)
  case atStart => exact ⟨0, by omega, rfl, Lib.hid (by simp [firstE]), after_refl W1⟩
  case round =>
    obtain ⟨j, hj, rfl, HJj, arj⟩ := hrel
    have drj : After w wr := after_after dBW1 arj
    obtain ⟨rj, hrj⟩ : ∃ r, wr = r := ⟨_, rfl⟩
    rw [hrj] at arj drj ⊢
    clear hrj wr
    clear k0 k1 r0 r1 o0 o1 fr0 fr1 kl rl ol
    obtain ⟨k0, k1, r0, r1, o0, o1, fr0, fr1, kl, rl, ol⟩ := HK.out rj (arj)
    by_cases hltj : j < el.length
    · have hltjI : (j : Int) < (el.length : Int) := by omega
      obtain ⟨bj, pj, yj, rfl, hlej, HYj, hPj⟩ := (HEN.out.enums rj (k := after_after hw drj)).part (i := j) hltj
      obtain ⟨nm, tA, tc, tl⟩ := yj
      obtain ⟨_, _, HPj_⟩ := HEN.out.elem (i := j) HYj.out
      have HPj := Lib.hid HPj_
      obtain ⟨z0, z1⟩ : rj.cell? ⟨bj, pj + j * 2, none⟩ = some (.string nm) ∧ rj.cell? ⟨bj, pj + j * 2 + 1, none⟩ = some (.slice tA tl.length tc) := ⟨hPj.c0, hPj.c1⟩
      clear HPj_ hPj
      have HS1 : Hid ((enumE ⟨nm, tA, tc, tl⟩) ≠ 0 → R = (enumE ⟨nm, tA, tc, tl⟩)) := Lib.hid fun h => by
        have h1 := firstE_stop enumE HYj.out HJj.out h
        have h2 : R = (enumE ⟨nm, tA, tc, tl⟩) := HV0.out.trans ((ore_no (by rw [h1]; exact h)).trans h1)
        exact h2
      have HV1 : Hid ((enumE ⟨nm, tA, tc, tl⟩) = ore (enumE ⟨nm, tA, tc, tl⟩) 0) := Lib.hid (ore_zero _).symm
      have HNj : Hid ((enumE ⟨nm, tA, tc, tl⟩) = 0 → firstE enumE (el.take (j + 1)) = 0) := Lib.hid fun h => (firstE_take enumE HYj.out HJj.out).trans h
      obtain ⟨X1, hX_⟩ : ∃ X, X = (enumE ⟨nm, tA, tc, tl⟩) := ⟨_, rfl⟩
      replace HV1 := Lib.hid (hX_.trans HV1.out)
      rw [← hX_] at HS1 HNj
      clear hX_
      obtain ⟨x4, hx4⟩ : ∃ x, enumE ⟨nm, tA, tc, tl⟩ = x := ⟨_, rfl⟩
      have G4 : Gives rj 15 #[.agg #[.string nm, .slice tA tl.length tc]] (.int .i64 x4) := fun U hU => (hx4 ▸ renum_any HPj.out.nm HPj.out.tg U (after_after (after_after hw drj) hU)).mono fun e w' h => ⟨h.1, @After.is_more _ _ h.2⟩
      rw [hx4] at HV1
      clear hx4
      go_wp2_with fail
      refine (Gives.on G4 _ inferInstance).mono ?_
      rintro e w5 ⟨rfl, hy_⟩
      have c5_ : After rj w5 := after_of_more hy_ inferInstance
      clear hy_
      have d5 : After w w5 := after_after drj c5_
      have b5 : After W1 w5 := after_after (arj) c5_
      clear k0 k1 r0 r1 o0 o1 fr0 fr1 kl rl ol
      obtain ⟨k0, k1, r0, r1, o0, o1, fr0, fr1, kl, rl, ol⟩ := HK.out w5 (b5)
      by_cases hE : x4 = 0
      rotate_left
      · have z1 : (x4 == 0) = false := by rw [beq_eq_false_iff_ne]; exact hE
        have z2 : (x4 != 0) = true := by rw [bne, z1]; rfl
        have HX : Hid (X1 = x4) := Lib.hid (HV1.out.trans (ore_no hE))
        have HE : Hid (R = x4) := Lib.hid ((HS1.out (by rw [HX.out]; first | decide | exact hE)).trans HX.out)
        have HW : Hid (V = (-1, -1, x4)) := Lib.hid ((HVV.out (by rw [HE.out]; first | decide | exact hE)).trans (by rw [HE.out]))
        go_wp2_with fail
        exact rc_ret (HB.out _ (b5)) rfl (by omega) d5 HW.out rfl rfl
      subst hE
      replace HV1 := Lib.hid (HV1.out.trans (ore_yes rfl))
      clear G4
      go_wp2_with fail
      go_roundw
      case rel => exact ⟨j + 1, by omega, by go_num, Lib.hid (HNj.out HV1.out), b5⟩
      case measure => simp only [intOf]; omega
    · replace HV0 := Lib.hid (HV0.out.trans (ore_yes (firstE_all enumE hltj HJj.out)))
      replace HVN := Lib.hid (HVN.out HV0.out)
      clear HVV HV0
      go_wp2_with fail
      go_loopw [7] (fun x wr => ∃ i : Nat, i ≤ nl.length ∧ x = .int .i64 (i : Nat) ∧ Hid (firstE (nodeE el) (nl.take i) = 0) ∧ After W1 wr) (fun x _ => nl.length - (intOf x).toNat)
      case atStart => exact ⟨0, by omega, rfl, Lib.hid (by simp [firstE]), arj⟩
      case round =>
        clear k0 k1 r0 r1 o0 o1 fr0 fr1 kl rl ol
        obtain ⟨i, hi, rfl, HJi, ari⟩ := hrel
        obtain ⟨ri, hri⟩ : ∃ r, wr = r := ⟨_, rfl⟩
        rw [hri] at ari ⊢
        clear hri wr
        obtain ⟨k0, k1, r0, r1, o0, o1, fr0, fr1, kl, rl, ol⟩ := HK.out ri ari
        have dri : After w ri := after_after dBW1 ari
        have a0i : After w0 ri := after_after hw dri
        by_cases hlti : i < nl.length
        · have hltiI : (i : Int) < (nl.length : Int) := by omega
          obtain ⟨bi, pi, yi, hA, hlei, HYi, hPi⟩ := (HND.out.nds ri (k := a0i)).part (i := i) hlti
          simp only [] at hA HYi
          subst hA
          obtain ⟨nm, ⟨inA, inc, in_⟩, ⟨ouA, ouc, ou⟩, ⟨loA, loc, lo⟩, ⟨eqA, eqc, eq⟩, ⟨auA, auc, au⟩, ⟨asA, asc, as_⟩, ⟨enA, enc, en_⟩⟩ := yi
          obtain ⟨z0, z1, z2, z3, z4, z5, z6, z7⟩ : ri.cell? ⟨bi, pi + i * 8, none⟩ = some (.string nm) ∧ ri.cell? ⟨bi, pi + i * 8 + 1, none⟩ = some (.slice inA in_.length inc) ∧ ri.cell? ⟨bi, pi + i * 8 + 2, none⟩ = some (.slice ouA ou.length ouc) ∧ ri.cell? ⟨bi, pi + i * 8 + 3, none⟩ = some (.slice loA lo.length loc) ∧ ri.cell? ⟨bi, pi + i * 8 + 4, none⟩ = some (.slice eqA eq.length eqc) ∧ ri.cell? ⟨bi, pi + i * 8 + 5, none⟩ = some (.slice auA au.length auc) ∧ ri.cell? ⟨bi, pi + i * 8 + 6, none⟩ = some (.slice asA as_.length asc) ∧ ri.cell? ⟨bi, pi + i * 8 + 7, none⟩ = some (.slice enA en_.length enc) := ⟨hPi.c0, hPi.c1, hPi.c2, hPi.c3, hPi.c4, hPi.c5, hPi.c6, hPi.c7⟩
          obtain ⟨_, _, HPi_⟩ := HND.out.elem (i := i) HYi.out
          have HPi := Lib.hid HPi_
          have hl4_ := HPi_.r4.len
          simp only [] at hl4_
          clear HPi_ hPi
          obtain ⟨R, hR⟩ : ∃ X, nodeE el ⟨nm, ⟨inA, inc, in_⟩, ⟨ouA, ouc, ou⟩, ⟨loA, loc, lo⟩, ⟨eqA, eqc, eq⟩, ⟨auA, auc, au⟩, ⟨asA, asc, as_⟩, ⟨enA, enc, en_⟩⟩ = X := ⟨_, rfl⟩
          obtain ⟨Q, hQ⟩ : ∃ X, nodeQ el ⟨nm, ⟨inA, inc, in_⟩, ⟨ouA, ouc, ou⟩, ⟨loA, loc, lo⟩, ⟨eqA, eqc, eq⟩, ⟨auA, auc, au⟩, ⟨asA, asc, as_⟩, ⟨enA, enc, en_⟩⟩ = X := ⟨_, rfl⟩
          have HV0 : Hid (R = ore (headE el ⟨nm, ⟨inA, inc, in_⟩, ⟨ouA, ouc, ou⟩, ⟨loA, loc, lo⟩, ⟨eqA, eqc, eq⟩, ⟨auA, auc, au⟩, ⟨asA, asc, as_⟩, ⟨enA, enc, en_⟩⟩) (ore (firstE (eqE el) eq) (ore (tailE el ⟨nm, ⟨inA, inc, in_⟩, ⟨ouA, ouc, ou⟩, ⟨loA, loc, lo⟩, ⟨eqA, eqc, eq⟩, ⟨auA, auc, au⟩, ⟨asA, asc, as_⟩, ⟨enA, enc, en_⟩⟩) 0))) := by
            show _ = _
            rw [← hR, ore_zero]; rfl
          have HQ0 : Hid (Q = if headE el ⟨nm, ⟨inA, inc, in_⟩, ⟨ouA, ouc, ou⟩, ⟨loA, loc, lo⟩, ⟨eqA, eqc, eq⟩, ⟨auA, auc, au⟩, ⟨asA, asc, as_⟩, ⟨enA, enc, en_⟩⟩ = 0 then whereE (eqE el) eq 0 else -1) := by
            show _ = _
            rw [← hQ]; rfl
          have HSV : Hid (R ≠ 0 → V = ((i : Int), Q, R)) := Lib.hid fun h => by
            have h1 := nodesV_at el 0 HYi.out HJi.out (by rw [hR]; exact h)
            rw [Nat.zero_add, hR, hQ] at h1
            exact HVN.out.trans h1
          have HNi : Hid (R = 0 → firstE (nodeE el) (nl.take (i + 1)) = 0) := Lib.hid fun h => (firstE_take (nodeE el) HYi.out HJi.out).trans (hR.trans h)
          clear hR hQ
          obtain ⟨g7, hg7⟩ : ∃ g, ri.heap.size = g := ⟨_, rfl⟩
          obtain ⟨W7, hW7, HK7, a7_⟩ : ∃ W, ri.alloc (.cells #[.string nm, .slice inA in_.length inc, .slice ouA ou.length ouc, .slice loA lo.length loc, .slice eqA eq.length eqc, .slice auA au.length auc, .slice asA as_.length asc, .slice enA en_.length enc] 52) = W ∧ Hid (∀ U : World, After W U → U.cell? ⟨g7, 0, none⟩ = some (.string nm) ∧ U.cell? ⟨g7, 1, none⟩ = some (.slice inA in_.length inc) ∧ U.cell? ⟨g7, 2, none⟩ = some (.slice ouA ou.length ouc) ∧ U.cell? ⟨g7, 3, none⟩ = some (.slice loA lo.length loc) ∧ U.cell? ⟨g7, 4, none⟩ = some (.slice eqA eq.length eqc) ∧ U.cell? ⟨g7, 5, none⟩ = some (.slice auA au.length auc) ∧ U.cell? ⟨g7, 6, none⟩ = some (.slice asA as_.length asc) ∧ U.cell? ⟨g7, 7, none⟩ = some (.slice enA en_.length enc) ∧ Le (g7 + 1) U ∧ U.cell? ⟨g0, 0, none⟩ = some (.slice eA el.length ec) ∧ U.cell? ⟨g0, 1, none⟩ = some (.slice (some ⟨bi, pi, none⟩) nl.length nc) ∧ U.cell? ⟨g0 + 1, 0, none⟩ = some (.int .i64 0) ∧ U.cell? ⟨g0 + 1, 1, none⟩ = some (.int .i64 0) ∧ U.cell? ⟨g0 + 1 + 1, 0, none⟩ = some (.int .i64 (-1)) ∧ U.cell? ⟨g0 + 1 + 1, 1, none⟩ = some (.int .i64 (-1)) ∧ U.frozen? ⟨g0 + 1, 0, none⟩ = false ∧ U.frozen? ⟨g0 + 1, 1, none⟩ = false ∧ Le (g0 + 1) U ∧ Le (g0 + 1 + 1) U ∧ Le (g0 + 1 + 1 + 1) U) ∧ After ri W := by
            refine ⟨_, rfl, fun U hU => ?_, inferInstance⟩
            have y0 := (Blk.new ri 52 #[.string nm, .slice inA in_.length inc, .slice ouA ou.length ouc, .slice loA lo.length loc, .slice eqA eq.length eqc, .slice auA au.length auc, .slice asA as_.length asc, .slice enA en_.length enc]).after (w' := U)
            rw [hg7] at y0
            have q0 : After w0 U := after_after hw (after_after dri (after_after inferInstance hU))
            have q1 : After W1 U := after_after (ari) (after_after inferInstance hU)
            exact ⟨by rw [y0.cell]; rfl, by rw [y0.cell]; rfl, by rw [y0.cell]; rfl, by rw [y0.cell]; rfl, by rw [y0.cell]; rfl, by rw [y0.cell]; rfl, by rw [y0.cell]; rfl, by rw [y0.cell]; rfl, y0.is_le, (HK.out U q1).1, (HK.out U q1).2.1, (HK.out U q1).2.2.1, (HK.out U q1).2.2.2.1, (HK.out U q1).2.2.2.2.1, (HK.out U q1).2.2.2.2.2.1, (HK.out U q1).2.2.2.2.2.2.1, (HK.out U q1).2.2.2.2.2.2.2.1, (HK.out U q1).2.2.2.2.2.2.2.2.1, (HK.out U q1).2.2.2.2.2.2.2.2.2.1, (HK.out U q1).2.2.2.2.2.2.2.2.2.2⟩
          have d7 : After w W7 := after_after dri a7_
          obtain ⟨f0, f1, f2, f3, f4, f5, f6, f7, m7_, o0_, o1_, o2_, o3_, o4_, o5_, o6_, o7_, o8_, o9_, o10_⟩ := HK7.out W7 (after_refl _)
          go_wp2_with fail
          try rw [hW7]
          try rw [hg7]
          clear hW7 hg7
          clear k0 k1 r0 r1 o0 o1 fr0 fr1 kl rl ol
          obtain ⟨_, _, _, _, _, _, _, _, _, k0, k1, r0, r1, o0, o1, fr0, fr1, kl, rl, ol⟩ := HK7.out W7 (after_refl _)
          clear o0_ o1_ o2_ o3_ o4_ o5_ o6_ o7_ o8_ o9_ o10_
          have dBW7 := d7
          obtain ⟨x8, hx8⟩ : ∃ x, headE el ⟨nm, ⟨inA, inc, in_⟩, ⟨ouA, ouc, ou⟩, ⟨loA, loc, lo⟩, ⟨eqA, eqc, eq⟩, ⟨auA, auc, au⟩, ⟨asA, asc, as_⟩, ⟨enA, enc, en_⟩⟩ = x := ⟨_, rfl⟩
          have G8 : Gives W7 16 #[.slice eA el.length ec, .agg #[.string nm, .slice inA in_.length inc, .slice ouA ou.length ouc, .slice loA lo.length loc, .slice eqA eq.length eqc, .slice auA au.length auc, .slice asA as_.length asc, .slice enA en_.length enc]] (.int .i64 x8) := fun U hU => (hx8 ▸ rhead_any HEN.out HPi.out U (after_after (after_after hw d7) hU)).mono fun e w' h => ⟨h.1, @After.is_more _ _ h.2⟩
          rw [hx8] at HV0 HQ0
          clear hx8
          go_wp2_with fail
          refine (Gives.on G8 _ inferInstance).mono ?_
          rintro e w9 ⟨rfl, hy_⟩
          have c9_ : After W7 w9 := after_of_more hy_ inferInstance
          clear hy_
          have d9 : After w w9 := after_after d7 c9_
          have b9 : After W7 w9 := after_after (after_refl W7) c9_
          clear f0 f1 f2 f3 f4 f5 f6 f7 m7_ k0 k1 r0 r1 o0 o1 fr0 fr1 kl rl ol
          obtain ⟨f0, f1, f2, f3, f4, f5, f6, f7, m7_, k0, k1, r0, r1, o0, o1, fr0, fr1, kl, rl, ol⟩ := HK7.out w9 (b9)
          by_cases hE : x8 = 0
          rotate_left
          · have z1 : (x8 == 0) = false := by rw [beq_eq_false_iff_ne]; exact hE
            have z2 : (x8 != 0) = true := by rw [bne, z1]; rfl
            have HX : Hid (R = x8) := Lib.hid (HV0.out.trans (ore_no hE))
            have HE : Hid (R = x8) := HX
            have HW : Hid (V = ((i : Int), -1, x8)) := Lib.hid ((HSV.out (by rw [HE.out]; exact hE)).trans (by rw [HE.out, HQ0.out, if_neg hE]))
            go_wp2_with fail
            exact rc_ret (HB.out _ (after_after (ari) (after_after a7_ (b9)))) rfl (by omega) d9 HW.out rfl rfl
          subst hE
          replace HV0 := Lib.hid (HV0.out.trans (ore_yes rfl))
          clear G8
          replace HQ0 := Lib.hid (HQ0.out.trans (if_pos rfl))
          go_wp2_with fail
          go_loopw [10] (fun i wr => ∃ j : Nat, j ≤ eq.length ∧ i = .int .i64 (j : Nat) ∧ Hid (firstE (eqE el) (eq.take j) = 0) ∧ After W7 wr) (fun i _ => eq.length - (intOf i).toNat)
          case atStart => exact ⟨0, by omega, rfl, Lib.hid (by simp [firstE]), b9⟩
          case round =>
            obtain ⟨j, hj, rfl, HJj, arj⟩ := hrel
            have drj : After w wr := after_after dBW7 arj
            obtain ⟨rj, hrj⟩ : ∃ r, wr = r := ⟨_, rfl⟩
            rw [hrj] at arj drj ⊢
            clear hrj wr
            clear f0 f1 f2 f3 f4 f5 f6 f7 m7_ k0 k1 r0 r1 o0 o1 fr0 fr1 kl rl ol
            obtain ⟨f0, f1, f2, f3, f4, f5, f6, f7, m7_, k0, k1, r0, r1, o0, o1, fr0, fr1, kl, rl, ol⟩ := HK7.out rj (arj)
            by_cases hltj : j < eq.length
            · have hltjI : (j : Int) < (eq.length : Int) := by omega
              obtain ⟨bj, pj, yj, rfl, hlej, HYj, hPj⟩ := (HPi.out.r4.eqs rj (k := after_after hw drj)).part (i := j) hltj
              obtain ⟨⟨qA, qc, ql⟩, ⟨k, o, t, v, s, A, c, xs⟩⟩ := yj
              obtain ⟨_, _, HPj_⟩ := HPi.out.r4.elem (i := j) HYj.out
              have HPj := Lib.hid HPj_
              obtain ⟨z0, z1, z2, z3, z4, z5⟩ := hPj.six
              have z6 := hPj.c0
              simp only [Tx.kind, Tx.op, Tx.ty, Tx.va, Tx.name, Tx.ad, Tx.args, Tx.cap] at z0 z1 z2 z3 z4 z5 z6
              clear HPj_ hPj
              have HQ1 : Hid (eqE el ⟨⟨qA, qc, ql⟩, .mk k o t v s A c xs⟩ ≠ 0 → Q = (j : Int)) := Lib.hid fun h => by
                have h1 := whereE_at (eqE el) 0 HYj.out HJj.out h
                rw [Nat.zero_add] at h1
                exact HQ0.out.trans h1
              have HS1 : Hid ((eqE el ⟨⟨qA, qc, ql⟩, .mk k o t v s A c xs⟩) ≠ 0 → R = (eqE el ⟨⟨qA, qc, ql⟩, .mk k o t v s A c xs⟩)) := Lib.hid fun h => by
                have h1 := firstE_stop (eqE el) HYj.out HJj.out h
                have h2 : R = (eqE el ⟨⟨qA, qc, ql⟩, .mk k o t v s A c xs⟩) := HV0.out.trans ((ore_no (by rw [h1]; exact h)).trans h1)
                exact h2
              have HV1 : Hid ((eqE el ⟨⟨qA, qc, ql⟩, .mk k o t v s A c xs⟩) = ore (eqE el ⟨⟨qA, qc, ql⟩, .mk k o t v s A c xs⟩) 0) := Lib.hid (ore_zero _).symm
              have HNj : Hid ((eqE el ⟨⟨qA, qc, ql⟩, .mk k o t v s A c xs⟩) = 0 → firstE (eqE el) (eq.take (j + 1)) = 0) := Lib.hid fun h => (firstE_take (eqE el) HYj.out HJj.out).trans h
              obtain ⟨X1, hX_⟩ : ∃ X, X = (eqE el ⟨⟨qA, qc, ql⟩, .mk k o t v s A c xs⟩) := ⟨_, rfl⟩
              replace HV1 := Lib.hid (hX_.trans HV1.out)
              rw [← hX_] at HS1 HNj
              clear hX_
              obtain ⟨x10, hx10⟩ : ∃ x, eqE el ⟨⟨qA, qc, ql⟩, .mk k o t v s A c xs⟩ = x := ⟨_, rfl⟩
              have G10 : Gives rj 17 #[.slice eA el.length ec, .agg #[.slice qA ql.length qc, .int .i64 k, .int .i64 o, .int .i64 t, .int .i64 v, .string s, .slice A xs.length c]] (.int .i64 x10) := fun U hU => (hx10 ▸ req_any HEN.out HPj.out.lf (HPj.out.sz trivial) HPj.out.ri HPj.out.tb U (after_after (after_after hw drj) hU)).mono fun e w' h => ⟨h.1, @After.is_more _ _ h.2⟩
              rw [hx10] at HV1 HQ1
              clear hx10
              go_wp2_with fail
              refine wp_region_more (by kernel_rfl) (by kernel_rfl) ?_
              repeat (go_big_quiet_step ((go_at_call 17; with_reducible exact Calls.more_of (Gives.on G10 _ inferInstance))))
              refine wpQuiet_nil ?_
              rintro _ ⟨y_, rfl⟩
              obtain ⟨w11, hv_, c11_⟩ : ∃ v, rj.more y_ = v ∧ After rj v := ⟨_, rfl, inferInstance⟩
              rw [hv_]
              clear hv_
              have d11 : After w w11 := after_after drj c11_
              have b11 : After W7 w11 := after_after (arj) c11_
              clear f0 f1 f2 f3 f4 f5 f6 f7 m7_ k0 k1 r0 r1 o0 o1 fr0 fr1 kl rl ol
              obtain ⟨f0, f1, f2, f3, f4, f5, f6, f7, m7_, k0, k1, r0, r1, o0, o1, fr0, fr1, kl, rl, ol⟩ := HK7.out w11 (b11)
              by_cases hE : x10 = 0
              rotate_left
              · have z1 : (x10 == 0) = false := by rw [beq_eq_false_iff_ne]; exact hE
                have z2 : (x10 != 0) = true := by rw [bne, z1]; rfl
                have HX : Hid (X1 = x10) := Lib.hid (HV1.out.trans (ore_no hE))
                have HE : Hid (R = x10) := Lib.hid ((HS1.out (by rw [HX.out]; first | decide | exact hE)).trans HX.out)
                have HW : Hid (V = ((i : Int), (j : Int), x10)) := Lib.hid ((HSV.out (by rw [HE.out]; exact hE)).trans (by rw [HE.out, HQ1.out hE]))
                go_wp2_with fail
                exact rc_ret (HB.out _ (after_after (ari) (after_after a7_ (b11)))) rfl (by omega) d11 HW.out rfl rfl
              subst hE
              replace HV1 := Lib.hid (HV1.out.trans (ore_yes rfl))
              clear G10
              go_wp2_with fail
              go_roundw
              case rel => exact ⟨j + 1, by omega, by go_num, Lib.hid (HNj.out HV1.out), b11⟩
              case measure => simp only [intOf]; omega
            · replace HV0 := Lib.hid (HV0.out.trans (ore_yes (firstE_all (eqE el) hltj HJj.out)))
              replace HQ0 := Lib.hid (HQ0.out.trans (whereE_none (eqE el) eq 0 (firstE_all (eqE el) hltj HJj.out)))
              obtain ⟨x12, hx12⟩ : ∃ x, tailE el ⟨nm, ⟨inA, inc, in_⟩, ⟨ouA, ouc, ou⟩, ⟨loA, loc, lo⟩, ⟨eqA, eqc, eq⟩, ⟨auA, auc, au⟩, ⟨asA, asc, as_⟩, ⟨enA, enc, en_⟩⟩ = x := ⟨_, rfl⟩
              have G12 : Gives rj 18 #[.slice eA el.length ec, .agg #[.string nm, .slice inA in_.length inc, .slice ouA ou.length ouc, .slice loA lo.length loc, .slice eqA eq.length eqc, .slice auA au.length auc, .slice asA as_.length asc, .slice enA en_.length enc]] (.int .i64 x12) := fun U hU => (hx12 ▸ rtail_any HEN.out HPi.out U (after_after (after_after hw drj) hU)).mono fun e w' h => ⟨h.1, @After.is_more _ _ h.2⟩
              rw [hx12] at HV0
              clear hx12
              go_wp2_with fail
              refine (Gives.on G12 _ inferInstance).mono ?_
              rintro e w13 ⟨rfl, hy_⟩
              have c13_ : After rj w13 := after_of_more hy_ inferInstance
              clear hy_
              have d13 : After w w13 := after_after drj c13_
              have b13 : After W7 w13 := after_after (arj) c13_
              clear f0 f1 f2 f3 f4 f5 f6 f7 m7_ k0 k1 r0 r1 o0 o1 fr0 fr1 kl rl ol
              obtain ⟨f0, f1, f2, f3, f4, f5, f6, f7, m7_, k0, k1, r0, r1, o0, o1, fr0, fr1, kl, rl, ol⟩ := HK7.out w13 (b13)
              by_cases hE : x12 = 0
              rotate_left
              · have z1 : (x12 == 0) = false := by rw [beq_eq_false_iff_ne]; exact hE
                have z2 : (x12 != 0) = true := by rw [bne, z1]; rfl
                have HX : Hid (R = x12) := Lib.hid (HV0.out.trans (ore_no hE))
                have HE : Hid (R = x12) := HX
                have HW : Hid (V = ((i : Int), -1, x12)) := Lib.hid ((HSV.out (by rw [HE.out]; exact hE)).trans (by rw [HE.out, HQ0.out]))
                go_wp2_with fail
                exact rc_ret (HB.out _ (after_after (ari) (after_after a7_ (b13)))) rfl (by omega) d13 HW.out rfl rfl
              subst hE
              replace HV0 := Lib.hid (HV0.out.trans (ore_yes rfl))
              clear G12
              go_wp2_with fail
              go_roundw
              case rel => exact ⟨i + 1, by omega, by go_num, Lib.hid (HNi.out HV0.out), after_after (ari) (after_after a7_ (b13))⟩
              case measure => simp only [intOf]; omega
        · have hz := firstE_all (nodeE el) hlti HJi.out
          replace HVN := Lib.hid (HVN.out.trans (nodesV_none el nl 0 hz))
          clear hz
          go_wp2_with fail
          exact rc_ret (HB.out _ ari) rfl (by omega) dri HVN.out rfl rfl
end Go.Proofs.YtdghfhnkacfahaaGreat
