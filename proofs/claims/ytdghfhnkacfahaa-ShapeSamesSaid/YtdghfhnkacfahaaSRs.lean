/-
  Contract of the reference: Same (printed by gen_srsame.py).
-/
import Derived.Test.YtdghfhnkacfahaaSRb
set_option linter.unusedVariables false
set_option linter.unusedSimpArgs false
namespace Go.Proofs.Ytdghfhnkacfahaa
open Go.RowKit Go.BigFrame

variable {S : Prop}
set_option maxRecDepth 100000 in
set_option maxHeartbeats 6400000 in
theorem rpsame_any {w0 : World} {eA : Option Addr} {ec : Nat} {el : List EnD} {eA' : Option Addr} {ec' : Nat} {el' : List EnD} {nA : Option Addr} {nc : Nat} {nl : List NdD} {nA' : Option Addr} {nc' : Nat} {nl' : List NdD} (he : RowOf 2 PEn w0 ⟨eA, ec, el⟩) (he' : RowOf 2 PEn w0 ⟨eA', ec', el'⟩) (hn : RowOf 8 (PNd S) w0 ⟨nA, nc, nl⟩) (hn' : RowOf 8 (PNd S) w0 ⟨nA', nc', nl'⟩) (w : World) (aft : After w0 w) :
    Calls Try.prog 12 #[.agg #[.slice eA el.length ec, .slice nA nl.length nc], .agg #[.slice eA' el'.length ec', .slice nA' nl'.length nc']] w fun e w' => e = .returned (.bool (pgSame ⟨⟨eA, ec, el⟩, ⟨nA, nc, nl⟩⟩ ⟨⟨eA', ec', el'⟩, ⟨nA', nc', nl'⟩⟩)) ∧ After w w' := by
  obtain ⟨R, hR⟩ : ∃ R, pgSame ⟨⟨eA, ec, el⟩, ⟨nA, nc, nl⟩⟩ ⟨⟨eA', ec', el'⟩, ⟨nA', nc', nl'⟩⟩ = R := ⟨_, rfl⟩
  have HR : Hid (R = (lsame enSame el el' && lsame ndSame nl nl')) := Lib.hid hR.symm
  rw [hR]
  have h1_ := he.len
  have h2_ := he'.len
  have h3_ := hn.len
  have h4_ := hn'.len
  simp only [] at h1_ h2_ h3_ h4_
  have XE := Lib.hid he
  have YE := Lib.hid he'
  have XN := Lib.hid hn
  have YN := Lib.hid hn'
  clear he he' hn hn' hR
  by_cases hlE : el.length = el'.length
  rotate_left
  · have hI : ¬ ((el.length : Int) = (el'.length : Int)) := by omega
    have HW : Hid (R = false) := Lib.hid (by rw [HR.out]; unfold lsame; rw [decide_eq_false hlE, Bool.false_and, Bool.false_and])
    go_enter Try.func12, Try.ntmps12
    go_wp2_with fail
    go_ret
    exact ⟨ret_bool (by rw [HW.out]), inferInstance⟩
  obtain ⟨z, hz⟩ : ∃ z, el.length = z := ⟨_, rfl⟩
  have hz' : el'.length = z := by omega
  have HZ := Lib.hid hz
  have HZ' := Lib.hid hz'
  rw [hz] at h1_ ⊢
  rw [hz'] at h2_ ⊢
  clear hlE hz hz'
  by_cases hlN : nl.length = nl'.length
  rotate_left
  · have hI : ¬ ((nl.length : Int) = (nl'.length : Int)) := by omega
    have HW : Hid (R = false) := Lib.hid (by rw [HR.out]; unfold lsame; rw [decide_eq_false hlN, Bool.false_and, Bool.and_false])
    go_enter Try.func12, Try.ntmps12
    go_wp2_with fail
    go_ret
    exact ⟨ret_bool (by rw [HW.out]), inferInstance⟩
  obtain ⟨y, hy⟩ : ∃ y, nl.length = y := ⟨_, rfl⟩
  have hy' : nl'.length = y := by omega
  have HY := Lib.hid hy
  have HY' := Lib.hid hy'
  rw [hy] at h3_ ⊢
  rw [hy'] at h4_ ⊢
  clear hlN hy hy'
  obtain ⟨g, hg⟩ : ∃ g, w.heap.size = g := ⟨_, rfl⟩
  obtain ⟨W2, hW2, a2, HK⟩ : ∃ W, (w.alloc (.cells #[.slice eA z ec, .slice nA y nc] 32)).alloc (.cells #[.slice eA' z ec', .slice nA' y nc'] 32) = W ∧ After w W ∧ Hid (∀ U : World, After W U → U.cell? ⟨g, 0, none⟩ = some (.slice eA z ec) ∧ U.cell? ⟨g, 1, none⟩ = some (.slice nA y nc) ∧ U.cell? ⟨g + 1, 0, none⟩ = some (.slice eA' z ec') ∧ U.cell? ⟨g + 1, 1, none⟩ = some (.slice nA' y nc') ∧ Le (g + 1) U ∧ Le (g + 1 + 1) U) := by
    refine ⟨_, rfl, inferInstance, fun U hU => ?_⟩
    have f1 := ((Blk.new w 32 #[.slice eA z ec, .slice nA y nc]).alloc (.cells #[.slice eA' z ec', .slice nA' y nc'] 32)).after (w' := U)
    have f2 := (Blk.at_' (w := w.alloc (.cells #[.slice eA z ec, .slice nA y nc] 32)) (size_alloc_ _ _) 32 #[.slice eA' z ec', .slice nA' y nc']).after (w' := U)
    rw [hg] at f1 f2
    exact ⟨(f1.cell 0).trans rfl, (f1.cell 1).trans rfl, (f2.cell 0).trans rfl, (f2.cell 1).trans rfl, f1.is_le, f2.is_le⟩
  obtain ⟨p0, p1, r0, r1, pl, rl⟩ := HK.out W2 (after_refl _)
  have a02 : After w0 W2 := after_after aft a2
  go_enter Try.func12, Try.ntmps12
  go_wp2_with fail
  try rw [hW2]
  try rw [hg]
  clear hW2 hg
  go_loopw [5] (fun i wr => ∃ j : Nat, j ≤ z ∧ i = .int .i64 (j : Nat) ∧ Hid (all2 enSame (el.take j) (el'.take j) = true) ∧ After W2 wr) (fun i _ => z - (intOf i).toNat)
  case atStart => exact ⟨0, by omega, rfl, Lib.hid (by simp [all2]), after_refl _⟩
  case round =>
    obtain ⟨j, hj, rfl, HJ, ar⟩ := hrel
    clear p0 p1 r0 r1 pl rl
    obtain ⟨p0, p1, r0, r1, pl, rl⟩ := HK.out wr ar
    have arw : After w wr := after_after a2 ar
    have a0r : After w0 wr := after_after a02 ar
    by_cases hlt_ : j < z
    · have hltI : (j : Int) < (z : Int) := by omega
      obtain ⟨b, p, u1, hA1, hb1, HX1, hP⟩ := (XE.out.enums wr (k := a0r)).part (i := j) (by show j < el.length; have := HZ.out; omega)
      obtain ⟨b2, p2, u2, hA2, hb2, HX2, hQ⟩ := (YE.out.enums wr (k := a0r)).part (i := j) (by show j < el'.length; have := HZ'.out; omega)
      simp only [] at HX1 HX2 hA1 hA2
      subst hA1
      subst hA2
      have HT : Hid (all2 enSame (el.take (j + 1)) (el'.take (j + 1)) = enSame u1 u2) := Lib.hid (by rw [all2_take enSame HX1.out HX2.out, HJ.out, Bool.true_and])
      have HF : Hid (enSame u1 u2 = false → R = false) := Lib.hid fun h => by rw [HR.out]; unfold lsame; rw [all2_false enSame HX1.out HX2.out h, Bool.and_false, Bool.false_and]
      obtain ⟨_, _, hP0⟩ := XE.out.elem (show _ from HX1.out)
      obtain ⟨_, _, hQ0⟩ := YE.out.elem (show _ from HX2.out)
      obtain ⟨nm, ⟨tA, tc, tl⟩⟩ := u1
      obtain ⟨nm', ⟨tA', tc', tl'⟩⟩ := u2
      obtain ⟨e0, e1⟩ : wr.cell? ⟨b, p + j * 2, none⟩ = some (.string nm) ∧ wr.cell? ⟨b, p + j * 2 + 1, none⟩ = some (.slice tA tl.length tc) := ⟨hP.c0, hP.c1⟩
      obtain ⟨g0, g1⟩ : wr.cell? ⟨b2, p2 + j * 2, none⟩ = some (.string nm') ∧ wr.cell? ⟨b2, p2 + j * 2 + 1, none⟩ = some (.slice tA' tl'.length tc') := ⟨hQ.c0, hQ.c1⟩
      obtain ⟨q0, hq0⟩ : ∃ q, (nm.toList == nm'.toList) = q := ⟨_, rfl⟩
      have m0 : (nm.toList != nm'.toList) = !q0 := by rw [← hq0]; rfl
      obtain ⟨q1, hq1⟩ : ∃ q, lsame strSame tl tl' = q := ⟨_, rfl⟩
      have HC1 : Gives wr 27 #[.slice tA tl.length tc, .slice tA' tl'.length tc'] (.bool q1) := fun U hU => (hq1 ▸ rtexts_any hP0.tg hQ0.tg U (after_after a0r hU)).mono fun e w_ h_ => ⟨h_.1, @After.is_more _ _ h_.2⟩
      have HVf : Hid (enSame ⟨nm, ⟨tA, tc, tl⟩⟩ ⟨nm', ⟨tA', tc', tl'⟩⟩ = (q0 && q1)) := by
        show _ = _
        rw [← hq0, ← hq1]
        rfl
      clear hP hQ hP0 hQ0 hq1
      cases q0 with
      | false =>
        have HW : Hid (R = false) := Lib.hid (HF.out (by rw [HVf.out]; simp))
        go_wp2_with fail
        refine wp_region_more (by kernel_rfl) (by kernel_rfl) ?_
        repeat (go_big_quiet_step ((go_at_call 27; with_reducible exact Calls.more_of (Gives.on HC1 _ inferInstance))))
        refine wpQuiet_nil ?_
        rintro _ ⟨y_, rfl⟩
        go_wp2_with fail
        go_ret
        exact ⟨ret_bool (by rw [HW.out]), after_after arw inferInstance⟩
      | true =>
        cases q1 with
        | false =>
          have HW : Hid (R = false) := Lib.hid (HF.out (by rw [HVf.out]; simp))
          go_wp2_with fail
          refine wp_region_more (by kernel_rfl) (by kernel_rfl) ?_
          repeat (go_big_quiet_step ((go_at_call 27; with_reducible exact Calls.more_of (Gives.on HC1 _ inferInstance))))
          refine wpQuiet_nil ?_
          rintro _ ⟨y_, rfl⟩
          go_wp2_with fail
          go_ret
          exact ⟨ret_bool (by rw [HW.out]), after_after arw inferInstance⟩
        | true =>
          have HW : Hid (all2 enSame (el.take (j + 1)) (el'.take (j + 1)) = true) := Lib.hid (by rw [HT.out, HVf.out]; rfl)
          go_wp2_with fail
          refine wp_region_more (by kernel_rfl) (by kernel_rfl) ?_
          repeat (go_big_quiet_step ((go_at_call 27; with_reducible exact Calls.more_of (Gives.on HC1 _ inferInstance))))
          refine wpQuiet_nil ?_
          rintro _ ⟨y_, rfl⟩
          go_wp2_with fail
          go_roundw
          case rel => exact ⟨j + 1, by omega, by go_num, HW, after_after ar inferInstance⟩
          case measure => simp only [intOf]; omega
    · obtain rfl : j = z := by omega
      have HE1 : Hid (lsame enSame el el' = true) := Lib.hid (by
        have h_ := HJ.out
        rw [← HZ.out, List.take_length, HZ.out, ← HZ'.out, List.take_length] at h_
        unfold lsame
        rw [h_, HZ.out, HZ'.out]; simp)
      replace HR : Hid (R = lsame ndSame nl nl') := Lib.hid (by rw [HR.out, HE1.out, Bool.true_and])
      obtain ⟨ro, hro⟩ : ∃ r, wr = r := ⟨_, rfl⟩
      rw [hro] at ar arw a0r p0 p1 r0 r1 pl rl ⊢
      clear hro wr HE1 HJ
      go_wp2_with fail
      go_loopw [6] (fun i wr => ∃ k : Nat, k ≤ y ∧ i = .int .i64 (k : Nat) ∧ Hid (all2 ndSame (nl.take k) (nl'.take k) = true) ∧ After W2 wr) (fun i _ => y - (intOf i).toNat)
      case atStart => exact ⟨0, by omega, rfl, Lib.hid (by simp [all2]), ar⟩
      case round =>
        clear ar arw a0r p0 p1 r0 r1 pl rl
        obtain ⟨k, hk, rfl, HJk, ark⟩ := hrel
        obtain ⟨p0, p1, r0, r1, pl, rl⟩ := HK.out wr ark
        have aw_ : After w wr := after_after a2 ark
        have a0w : After w0 wr := after_after a02 ark
        by_cases hltk : k < y
        rotate_left
        · obtain rfl : k = y := by omega
          have HW : Hid (R = true) := Lib.hid (by
            have h_ := HJk.out
            rw [← HY.out, List.take_length, HY.out, ← HY'.out, List.take_length] at h_
            rw [HR.out]
            unfold lsame
            rw [h_, HY.out, HY'.out]; simp)
          go_wp2_with fail
          go_ret
          exact ⟨ret_bool (by rw [HW.out]), aw_⟩
        have hltkI : (k : Int) < (y : Int) := by omega
        obtain ⟨b, p, u1, hA1, hb1, HX1, hP⟩ := (XN.out.nds wr (k := a0w)).part (i := k) (by show k < nl.length; have := HY.out; omega)
        obtain ⟨b2, p2, u2, hA2, hb2, HX2, hQ⟩ := (YN.out.nds wr (k := a0w)).part (i := k) (by show k < nl'.length; have := HY'.out; omega)
        simp only [] at HX1 HX2 hA1 hA2
        subst hA1
        subst hA2
        have HT2 : Hid (all2 ndSame (nl.take (k + 1)) (nl'.take (k + 1)) = ndSame u1 u2) := Lib.hid (by rw [all2_take ndSame HX1.out HX2.out, HJk.out, Bool.true_and])
        have HF2 : Hid (ndSame u1 u2 = false → R = false) := Lib.hid fun h => by rw [HR.out]; unfold lsame; rw [all2_false ndSame HX1.out HX2.out h, Bool.and_false]
        obtain ⟨_, _, hP0⟩ := XN.out.elem (show _ from HX1.out)
        obtain ⟨_, _, hQ0⟩ := YN.out.elem (show _ from HX2.out)
        obtain ⟨nm, ⟨inA, inc, in_⟩, ⟨ouA, ouc, ou⟩, ⟨loA, loc, lo⟩, ⟨eqA, eqc, eq⟩, ⟨auA, auc, au⟩, ⟨asA, asc, as_⟩, ⟨enA, enc, en_⟩⟩ := u1
        obtain ⟨nm', ⟨inA', inc', in_'⟩, ⟨ouA', ouc', ou'⟩, ⟨loA', loc', lo'⟩, ⟨eqA', eqc', eq'⟩, ⟨auA', auc', au'⟩, ⟨asA', asc', as_'⟩, ⟨enA', enc', en_'⟩⟩ := u2
        obtain ⟨f0, f1, f2, f3, f4, f5, f6, f7⟩ : wr.cell? ⟨b, p + k * 8, none⟩ = some (.string nm) ∧ wr.cell? ⟨b, p + k * 8 + 1, none⟩ = some (.slice inA in_.length inc) ∧ wr.cell? ⟨b, p + k * 8 + 2, none⟩ = some (.slice ouA ou.length ouc) ∧ wr.cell? ⟨b, p + k * 8 + 3, none⟩ = some (.slice loA lo.length loc) ∧ wr.cell? ⟨b, p + k * 8 + 4, none⟩ = some (.slice eqA eq.length eqc) ∧ wr.cell? ⟨b, p + k * 8 + 5, none⟩ = some (.slice auA au.length auc) ∧ wr.cell? ⟨b, p + k * 8 + 6, none⟩ = some (.slice asA as_.length asc) ∧ wr.cell? ⟨b, p + k * 8 + 7, none⟩ = some (.slice enA en_.length enc) := ⟨hP.c0, hP.c1, hP.c2, hP.c3, hP.c4, hP.c5, hP.c6, hP.c7⟩
        obtain ⟨h0, h1, h2, h3, h4, h5, h6, h7⟩ : wr.cell? ⟨b2, p2 + k * 8, none⟩ = some (.string nm') ∧ wr.cell? ⟨b2, p2 + k * 8 + 1, none⟩ = some (.slice inA' in_'.length inc') ∧ wr.cell? ⟨b2, p2 + k * 8 + 2, none⟩ = some (.slice ouA' ou'.length ouc') ∧ wr.cell? ⟨b2, p2 + k * 8 + 3, none⟩ = some (.slice loA' lo'.length loc') ∧ wr.cell? ⟨b2, p2 + k * 8 + 4, none⟩ = some (.slice eqA' eq'.length eqc') ∧ wr.cell? ⟨b2, p2 + k * 8 + 5, none⟩ = some (.slice auA' au'.length auc') ∧ wr.cell? ⟨b2, p2 + k * 8 + 6, none⟩ = some (.slice asA' as_'.length asc') ∧ wr.cell? ⟨b2, p2 + k * 8 + 7, none⟩ = some (.slice enA' en_'.length enc') := ⟨hQ.c0, hQ.c1, hQ.c2, hQ.c3, hQ.c4, hQ.c5, hQ.c6, hQ.c7⟩
        have HEN1 : Hid (∀ U : World, After w0 U → Calls Try.prog 28 #[.slice inA in_.length inc, .slice inA' in_'.length inc'] U fun e w' => e = .returned (.bool (lsame declSame in_ in_')) ∧ After U w') := Lib.hid fun U hU => rdecls_any hP0.r1 hQ0.r1 U hU
        have HEN2 : Hid (∀ U : World, After w0 U → Calls Try.prog 28 #[.slice ouA ou.length ouc, .slice ouA' ou'.length ouc'] U fun e w' => e = .returned (.bool (lsame declSame ou ou')) ∧ After U w') := Lib.hid fun U hU => rdecls_any hP0.r2 hQ0.r2 U hU
        have HEN3 : Hid (∀ U : World, After w0 U → Calls Try.prog 28 #[.slice loA lo.length loc, .slice loA' lo'.length loc'] U fun e w' => e = .returned (.bool (lsame declSame lo lo')) ∧ After U w') := Lib.hid fun U hU => rdecls_any hP0.r3 hQ0.r3 U hU
        have HEN4 : Hid (∀ U : World, After w0 U → Calls Try.prog 29 #[.slice eqA eq.length eqc, .slice eqA' eq'.length eqc'] U fun e w' => e = .returned (.bool (lsame eqSame eq eq')) ∧ After U w') := Lib.hid fun U hU => requations_any hP0.r4 hQ0.r4 U hU
        have HEN5 : Hid (∀ U : World, After w0 U → Calls Try.prog 30 #[.slice auA au.length auc, .slice auA' au'.length auc'] U fun e w' => e = .returned (.bool (lsame auSame au au')) ∧ After U w') := Lib.hid fun U hU => rautos_any hP0.r5 hQ0.r5 U hU
        have HEN6 : Hid (∀ U : World, After w0 U → Calls Try.prog 31 #[.slice asA as_.length asc, .slice asA' as_'.length asc'] U fun e w' => e = .returned (.bool (lsame Tx.same as_ as_')) ∧ After U w') := Lib.hid fun U hU => rclaims_any hP0.r6 hQ0.r6 U hU
        have HEN7 : Hid (∀ U : World, After w0 U → Calls Try.prog 31 #[.slice enA en_.length enc, .slice enA' en_'.length enc'] U fun e w' => e = .returned (.bool (lsame Tx.same en_ en_')) ∧ After U w') := Lib.hid fun U hU => rclaims_any hP0.r7 hQ0.r7 U hU
        obtain ⟨qN0, hqN0⟩ : ∃ q, (nm.toList == nm'.toList) = q := ⟨_, rfl⟩
        have mmN0 : (nm.toList != nm'.toList) = !qN0 := by rw [← hqN0]; rfl
        obtain ⟨qN1, hqN1⟩ : ∃ q, (lsame declSame in_ in_') = q := ⟨_, rfl⟩
        obtain ⟨qN2, hqN2⟩ : ∃ q, (lsame declSame ou ou') = q := ⟨_, rfl⟩
        obtain ⟨qN3, hqN3⟩ : ∃ q, (lsame declSame lo lo') = q := ⟨_, rfl⟩
        obtain ⟨qN4, hqN4⟩ : ∃ q, (lsame eqSame eq eq') = q := ⟨_, rfl⟩
        obtain ⟨qN5, hqN5⟩ : ∃ q, (lsame auSame au au') = q := ⟨_, rfl⟩
        obtain ⟨qN6, hqN6⟩ : ∃ q, (lsame Tx.same as_ as_') = q := ⟨_, rfl⟩
        obtain ⟨qN7, hqN7⟩ : ∃ q, (lsame Tx.same en_ en_') = q := ⟨_, rfl⟩
        have HVfN : Hid (ndSame ⟨nm, ⟨inA, inc, in_⟩, ⟨ouA, ouc, ou⟩, ⟨loA, loc, lo⟩, ⟨eqA, eqc, eq⟩, ⟨auA, auc, au⟩, ⟨asA, asc, as_⟩, ⟨enA, enc, en_⟩⟩ ⟨nm', ⟨inA', inc', in_'⟩, ⟨ouA', ouc', ou'⟩, ⟨loA', loc', lo'⟩, ⟨eqA', eqc', eq'⟩, ⟨auA', auc', au'⟩, ⟨asA', asc', as_'⟩, ⟨enA', enc', en_'⟩⟩ = (qN0 && (qN1 && (qN2 && (qN3 && (qN4 && (qN5 && (qN6 && (qN7))))))))) := by
          show _ = _
          rw [← hqN0, ← hqN1, ← hqN2, ← hqN3, ← hqN4, ← hqN5, ← hqN6, ← hqN7]
          rfl
        rw [hqN1] at HEN1
        rw [hqN2] at HEN2
        rw [hqN3] at HEN3
        rw [hqN4] at HEN4
        rw [hqN5] at HEN5
        rw [hqN6] at HEN6
        rw [hqN7] at HEN7
        clear hqN1 hqN2 hqN3 hqN4 hqN5 hqN6 hqN7
        clear hP hQ hP0 hQ0
        go_wp2_with fail
        go_cut [7, 8] (fun p_ q_ wx => ∃ (g1 g2 : Nat) (W : World), W = wx ∧ p_ = .pointer (some ⟨g1, 0, none⟩) ∧ q_ = .pointer (some ⟨g2, 0, none⟩) ∧ Hid (Blk W g1 45 #[.string nm, .slice inA in_.length inc, .slice ouA ou.length ouc, .slice loA lo.length loc, .slice eqA eq.length eqc, .slice auA au.length auc, .slice asA as_.length asc, .slice enA en_.length enc]) ∧ Hid (Blk W g2 45 #[.string nm', .slice inA' in_'.length inc', .slice ouA' ou'.length ouc', .slice loA' lo'.length loc', .slice eqA' eq'.length eqc', .slice auA' au'.length auc', .slice asA' as_'.length asc', .slice enA' en_'.length enc']) ∧ After wr W)
        case first =>
          go_region
          all_goals
            go_wp2_with fail
            go_meet
            first
            | exact ⟨wr.heap.size, wr.heap.size + 1, _, rfl, rfl, rfl, ((Blk.new wr 45 #[.string nm, .slice inA in_.length inc, .slice ouA ou.length ouc, .slice loA lo.length loc, .slice eqA eq.length eqc, .slice auA au.length auc, .slice asA as_.length asc, .slice enA en_.length enc]).alloc _).drew, (Blk.at_' (w := wr.alloc (.cells #[.string nm, .slice inA in_.length inc, .slice ouA ou.length ouc, .slice loA lo.length loc, .slice eqA eq.length eqc, .slice auA au.length auc, .slice asA as_.length asc, .slice enA en_.length enc] 45)) (size_alloc_ _ _) 45 #[.string nm', .slice inA' in_'.length inc', .slice ouA' ou'.length ouc', .slice loA' lo'.length loc', .slice eqA' eq'.length eqc', .slice auA' au'.length auc', .slice asA' as_'.length asc', .slice enA' en_'.length enc']).drew, inferInstance⟩
            | exact ⟨wr.heap.size + 1, wr.heap.size, _, rfl, rfl, rfl, (Blk.at_' (w := wr.alloc (.cells #[.string nm', .slice inA' in_'.length inc', .slice ouA' ou'.length ouc', .slice loA' lo'.length loc', .slice eqA' eq'.length eqc', .slice auA' au'.length auc', .slice asA' as_'.length asc', .slice enA' en_'.length enc'] 45)) (size_alloc_ _ _) 45 #[.string nm, .slice inA in_.length inc, .slice ouA ou.length ouc, .slice loA lo.length loc, .slice eqA eq.length eqc, .slice auA au.length auc, .slice asA as_.length asc, .slice enA en_.length enc]).drew, ((Blk.new wr 45 #[.string nm', .slice inA' in_'.length inc', .slice ouA' ou'.length ouc', .slice loA' lo'.length loc', .slice eqA' eq'.length eqc', .slice auA' au'.length auc', .slice asA' as_'.length asc', .slice enA' en_'.length enc']).alloc _).drew, inferInstance⟩
        case rest =>
          obtain ⟨gNa, gNb, WN, rfl, rfl, rfl, BN1, BN2, aN⟩ := hcut
          have HKN : Hid (∀ U : World, After WN U → U.cell? ⟨gNa, 0, none⟩ = some (.string nm) ∧ U.cell? ⟨gNa, 1, none⟩ = some (.slice inA in_.length inc) ∧ U.cell? ⟨gNa, 2, none⟩ = some (.slice ouA ou.length ouc) ∧ U.cell? ⟨gNa, 3, none⟩ = some (.slice loA lo.length loc) ∧ U.cell? ⟨gNa, 4, none⟩ = some (.slice eqA eq.length eqc) ∧ U.cell? ⟨gNa, 5, none⟩ = some (.slice auA au.length auc) ∧ U.cell? ⟨gNa, 6, none⟩ = some (.slice asA as_.length asc) ∧ U.cell? ⟨gNa, 7, none⟩ = some (.slice enA en_.length enc) ∧ U.cell? ⟨gNb, 0, none⟩ = some (.string nm') ∧ U.cell? ⟨gNb, 1, none⟩ = some (.slice inA' in_'.length inc') ∧ U.cell? ⟨gNb, 2, none⟩ = some (.slice ouA' ou'.length ouc') ∧ U.cell? ⟨gNb, 3, none⟩ = some (.slice loA' lo'.length loc') ∧ U.cell? ⟨gNb, 4, none⟩ = some (.slice eqA' eq'.length eqc') ∧ U.cell? ⟨gNb, 5, none⟩ = some (.slice auA' au'.length auc') ∧ U.cell? ⟨gNb, 6, none⟩ = some (.slice asA' as_'.length asc') ∧ U.cell? ⟨gNb, 7, none⟩ = some (.slice enA' en_'.length enc') ∧ Le (gNa + 1) U ∧ Le (gNb + 1) U) := fun U hU => by
            have f1 := BN1.out.after (w' := U)
            have f2 := BN2.out.after (w' := U)
            exact ⟨(f1.cell 0).trans rfl, (f1.cell 1).trans rfl, (f1.cell 2).trans rfl, (f1.cell 3).trans rfl, (f1.cell 4).trans rfl, (f1.cell 5).trans rfl, (f1.cell 6).trans rfl, (f1.cell 7).trans rfl, (f2.cell 0).trans rfl, (f2.cell 1).trans rfl, (f2.cell 2).trans rfl, (f2.cell 3).trans rfl, (f2.cell 4).trans rfl, (f2.cell 5).trans rfl, (f2.cell 6).trans rfl, (f2.cell 7).trans rfl, f1.is_le, f2.is_le⟩
          clear BN1 BN2
          obtain ⟨kN0, kN1, kN2, kN3, kN4, kN5, kN6, kN7, mN0, mN1, mN2, mN3, mN4, mN5, mN6, mN7, klN, mlN⟩ := HKN.out WN (after_refl _)
          clear f0 h0 f1 h1 f2 h2 f3 h3 f4 h4 f5 h5 f6 h6 f7 h7
          cases qN0 with
          | false =>
            have HW : Hid (R = false) := Lib.hid (HF2.out (by rw [HVfN.out]; simp))
            go_wp2_with fail
            go_ret
            exact ⟨ret_bool (by rw [HW.out]), (after_after aw_ (after_after aN (after_refl WN)))⟩
          | true =>
            go_wp2_with fail
            refine (HEN1.out WN (after_after a0w (after_after aN (after_refl WN)))).mono ?_
            rintro e vN1 ⟨rfl, cvN1⟩
            have bvN1 : After WN vN1 := after_after (after_refl WN) cvN1
            clear kN0 kN1 kN2 kN3 kN4 kN5 kN6 kN7 mN0 mN1 mN2 mN3 mN4 mN5 mN6 mN7 klN mlN
            obtain ⟨kN0, kN1, kN2, kN3, kN4, kN5, kN6, kN7, mN0, mN1, mN2, mN3, mN4, mN5, mN6, mN7, klN, mlN⟩ := HKN.out vN1 bvN1
            cases qN1 with
            | false =>
              have HW : Hid (R = false) := Lib.hid (HF2.out (by rw [HVfN.out]; simp))
              go_wp2_with fail
              go_ret
              exact ⟨ret_bool (by rw [HW.out]), (after_after aw_ (after_after aN bvN1))⟩
            | true =>
              go_wp2_with fail
              refine (HEN2.out vN1 (after_after a0w (after_after aN bvN1))).mono ?_
              rintro e vN2 ⟨rfl, cvN2⟩
              have bvN2 : After WN vN2 := after_after bvN1 cvN2
              clear kN0 kN1 kN2 kN3 kN4 kN5 kN6 kN7 mN0 mN1 mN2 mN3 mN4 mN5 mN6 mN7 klN mlN
              obtain ⟨kN0, kN1, kN2, kN3, kN4, kN5, kN6, kN7, mN0, mN1, mN2, mN3, mN4, mN5, mN6, mN7, klN, mlN⟩ := HKN.out vN2 bvN2
              cases qN2 with
              | false =>
                have HW : Hid (R = false) := Lib.hid (HF2.out (by rw [HVfN.out]; simp))
                go_wp2_with fail
                go_ret
                exact ⟨ret_bool (by rw [HW.out]), (after_after aw_ (after_after aN bvN2))⟩
              | true =>
                go_wp2_with fail
                refine (HEN3.out vN2 (after_after a0w (after_after aN bvN2))).mono ?_
                rintro e vN3 ⟨rfl, cvN3⟩
                have bvN3 : After WN vN3 := after_after bvN2 cvN3
                clear kN0 kN1 kN2 kN3 kN4 kN5 kN6 kN7 mN0 mN1 mN2 mN3 mN4 mN5 mN6 mN7 klN mlN
                obtain ⟨kN0, kN1, kN2, kN3, kN4, kN5, kN6, kN7, mN0, mN1, mN2, mN3, mN4, mN5, mN6, mN7, klN, mlN⟩ := HKN.out vN3 bvN3
                cases qN3 with
                | false =>
                  have HW : Hid (R = false) := Lib.hid (HF2.out (by rw [HVfN.out]; simp))
                  go_wp2_with fail
                  go_ret
                  exact ⟨ret_bool (by rw [HW.out]), (after_after aw_ (after_after aN bvN3))⟩
                | true =>
                  go_wp2_with fail
                  refine (HEN4.out vN3 (after_after a0w (after_after aN bvN3))).mono ?_
                  rintro e vN4 ⟨rfl, cvN4⟩
                  have bvN4 : After WN vN4 := after_after bvN3 cvN4
                  clear kN0 kN1 kN2 kN3 kN4 kN5 kN6 kN7 mN0 mN1 mN2 mN3 mN4 mN5 mN6 mN7 klN mlN
                  obtain ⟨kN0, kN1, kN2, kN3, kN4, kN5, kN6, kN7, mN0, mN1, mN2, mN3, mN4, mN5, mN6, mN7, klN, mlN⟩ := HKN.out vN4 bvN4
                  cases qN4 with
                  | false =>
                    have HW : Hid (R = false) := Lib.hid (HF2.out (by rw [HVfN.out]; simp))
                    go_wp2_with fail
                    go_ret
                    exact ⟨ret_bool (by rw [HW.out]), (after_after aw_ (after_after aN bvN4))⟩
                  | true =>
                    go_wp2_with fail
                    refine (HEN5.out vN4 (after_after a0w (after_after aN bvN4))).mono ?_
                    rintro e vN5 ⟨rfl, cvN5⟩
                    have bvN5 : After WN vN5 := after_after bvN4 cvN5
                    clear kN0 kN1 kN2 kN3 kN4 kN5 kN6 kN7 mN0 mN1 mN2 mN3 mN4 mN5 mN6 mN7 klN mlN
                    obtain ⟨kN0, kN1, kN2, kN3, kN4, kN5, kN6, kN7, mN0, mN1, mN2, mN3, mN4, mN5, mN6, mN7, klN, mlN⟩ := HKN.out vN5 bvN5
                    cases qN5 with
                    | false =>
                      have HW : Hid (R = false) := Lib.hid (HF2.out (by rw [HVfN.out]; simp))
                      go_wp2_with fail
                      go_ret
                      exact ⟨ret_bool (by rw [HW.out]), (after_after aw_ (after_after aN bvN5))⟩
                    | true =>
                      go_wp2_with fail
                      refine (HEN6.out vN5 (after_after a0w (after_after aN bvN5))).mono ?_
                      rintro e vN6 ⟨rfl, cvN6⟩
                      have bvN6 : After WN vN6 := after_after bvN5 cvN6
                      clear kN0 kN1 kN2 kN3 kN4 kN5 kN6 kN7 mN0 mN1 mN2 mN3 mN4 mN5 mN6 mN7 klN mlN
                      obtain ⟨kN0, kN1, kN2, kN3, kN4, kN5, kN6, kN7, mN0, mN1, mN2, mN3, mN4, mN5, mN6, mN7, klN, mlN⟩ := HKN.out vN6 bvN6
                      cases qN6 with
                      | false =>
                        have HW : Hid (R = false) := Lib.hid (HF2.out (by rw [HVfN.out]; simp))
                        go_wp2_with fail
                        go_ret
                        exact ⟨ret_bool (by rw [HW.out]), (after_after aw_ (after_after aN bvN6))⟩
                      | true =>
                        go_wp2_with fail
                        refine (HEN7.out vN6 (after_after a0w (after_after aN bvN6))).mono ?_
                        rintro e vN7 ⟨rfl, cvN7⟩
                        have bvN7 : After WN vN7 := after_after bvN6 cvN7
                        clear kN0 kN1 kN2 kN3 kN4 kN5 kN6 kN7 mN0 mN1 mN2 mN3 mN4 mN5 mN6 mN7 klN mlN
                        obtain ⟨kN0, kN1, kN2, kN3, kN4, kN5, kN6, kN7, mN0, mN1, mN2, mN3, mN4, mN5, mN6, mN7, klN, mlN⟩ := HKN.out vN7 bvN7
                        cases qN7 with
                        | false =>
                          have HW : Hid (R = false) := Lib.hid (HF2.out (by rw [HVfN.out]; simp))
                          go_wp2_with fail
                          go_ret
                          exact ⟨ret_bool (by rw [HW.out]), (after_after aw_ (after_after aN bvN7))⟩
                        | true =>
                          have HW : Hid (all2 ndSame (nl.take (k + 1)) (nl'.take (k + 1)) = true) := Lib.hid (by rw [HT2.out, HVfN.out]; rfl)
                          go_wp2_with fail
                          go_roundw
                          case rel => exact ⟨k + 1, by omega, by go_num, HW, after_after ark (after_after aN bvN7)⟩
                          case measure => simp only [intOf]; omega
end Go.Proofs.Ytdghfhnkacfahaa
