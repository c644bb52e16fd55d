/-
  Contracts of the reference: state, auto, head, tail (printed by gen_rk.py).
-/
import Derived.Test.YtdghfhnkacfahaaGreatRkA
set_option linter.unusedVariables false
set_option linter.unusedSimpArgs false
namespace Go.Proofs.YtdghfhnkacfahaaGreat
open Go.RowKit Go.BigFrame

set_option maxRecDepth 100000 in
set_option maxHeartbeats 6400000 in
theorem rstate_of {w0 : World} {eA : Option Addr} {ec : Nat} {el : List EnD} (hen : RowOf 2 PEn w0 ⟨eA, ec, el⟩) {n d : Nat} {nm : ByteArray} {loA : Option Addr} {loc : Nat} {lo : List DeclD} {eqA : Option Addr} {eqc : Nat} {eq : List EqD} {aA : Option Addr} {ac : Nat} {au : List AuT} {ulA : Option Addr} {ulc : Nat} {ul : List TrD} {utA : Option Addr} {utc : Nat} {ut : List TrD} (hd : d ≤ 3) (hs : nm.size ≤ 140737488355328) (hLo : RowOf 3 PDecl w0 ⟨loA, loc, lo⟩) (hEq : RowOf 7 (PEq True) w0 ⟨eqA, eqc, eq⟩) (hUl : RowOf 8 (PTr True) w0 ⟨ulA, ulc, ul⟩) (hUt : RowOf 8 (PTr True) w0 ⟨utA, utc, ut⟩) (hAu : RowOf 1 (PAu True) w0 ⟨aA, ac, au⟩) (hA : ∀ (A1 : Option Addr) (c1 : Nat) (l : List StT), RAu True w0 (.mk A1 c1 l) → ∀ U, After w0 U → Calls Tryz.prog 34 #[.slice eA el.length ec, .agg #[.slice A1 l.length c1], .int .i64 ((d : Int) + 1)] U fun e w' => e = .returned (.int .i64 (auE el (d + 1) (.mk A1 c1 l))) ∧ After U w') (w : World) (hw : After w0 w) :
    Calls Tryz.prog 52 #[.slice eA el.length ec, .agg #[.string nm, .slice loA lo.length loc, .slice eqA eq.length eqc, .slice aA au.length ac, .slice ulA ul.length ulc, .slice utA ut.length utc], .int .i64 (n : Nat), .int .i64 (d : Nat)] w fun e w' => e = .returned (.int .i64 (stE el n d (.mk nm ⟨loA, loc, lo⟩ ⟨eqA, eqc, eq⟩ aA ac au ⟨ulA, ulc, ul⟩ ⟨utA, utc, ut⟩))) ∧ After w w' := by
  obtain ⟨R, hR⟩ : ∃ R, stE el n d (.mk nm ⟨loA, loc, lo⟩ ⟨eqA, eqc, eq⟩ aA ac au ⟨ulA, ulc, ul⟩ ⟨utA, utc, ut⟩) = R := ⟨_, rfl⟩
  have HV0 : Hid (R = ore (identE nm) (ore (limE (decide ((lo.length : Int) ≤ 256) && (decide ((eq.length : Int) ≤ 256) && (decide ((au.length : Int) ≤ 8) && (decide ((ul.length : Int) ≤ 4) && (decide ((ut.length : Int) ≤ 4)))))) 3) (ore (firstE (declE el false) lo) (ore (firstE (eqE el) eq) (ore (firstE (auE el (d + 1)) au) (ore (firstE (trE el n true) ul) (ore (firstE (trE el n false) ut) 0))))))) := by
    show _ = _
    rw [← hR]
    rw [stE_is]
  rw [hR]
  clear hR
  have HEN := Lib.hid hen
  have hel := hen.len
  simp only [] at hel
  clear hen
  have HLo := Lib.hid hLo
  have HEq := Lib.hid hEq
  have HUl := Lib.hid hUl
  have HUt := Lib.hid hUt
  have HAu := Lib.hid hAu
  have HA := Lib.hid hA
  have hle0 := hLo.len
  have hle1 := hEq.len
  have hle2 := hAu.len
  have hle3 := hUl.len
  have hle4 := hUt.len
  simp only [] at hle0 hle1 hle2 hle3 hle4
  have hwr : IntKind.i64.wrap ((d : Int) + 1) = (d : Int) + 1 := IntWalk.i64_in _ (by omega)
  clear hLo hEq hUl hUt hAu hA
  obtain ⟨gb, hgb⟩ : ∃ g, w.heap.size = g := ⟨_, rfl⟩
  obtain ⟨W1, hW1, a1, HK⟩ : ∃ W, w.alloc (.cells #[.string nm, .slice loA lo.length loc, .slice eqA eq.length eqc, .slice aA au.length ac, .slice ulA ul.length ulc, .slice utA ut.length utc] 95) = W ∧ After w W ∧ Hid (∀ U : World, After W U → U.cell? ⟨gb, 0, none⟩ = some (.string nm) ∧ U.cell? ⟨gb, 1, none⟩ = some (.slice loA lo.length loc) ∧ U.cell? ⟨gb, 2, none⟩ = some (.slice eqA eq.length eqc) ∧ U.cell? ⟨gb, 3, none⟩ = some (.slice aA au.length ac) ∧ U.cell? ⟨gb, 4, none⟩ = some (.slice ulA ul.length ulc) ∧ U.cell? ⟨gb, 5, none⟩ = some (.slice utA ut.length utc) ∧ Le (gb + 1) U) := by
    refine ⟨_, rfl, inferInstance, fun U hU => ?_⟩
    have y0 := (Blk.new w 95 #[.string nm, .slice loA lo.length loc, .slice eqA eq.length eqc, .slice aA au.length ac, .slice ulA ul.length ulc, .slice utA ut.length utc]).after (w' := U)
    rw [hgb] at y0
    exact ⟨(y0.cell 0).trans rfl, (y0.cell 1).trans rfl, (y0.cell 2).trans rfl, (y0.cell 3).trans rfl, (y0.cell 4).trans rfl, (y0.cell 5).trans rfl, y0.is_le⟩
  obtain ⟨k0, k1, k2, k3, k4, k5, kl⟩ := HK.out W1 (after_refl _)
  have dBW1 := a1
  go_enter Tryz.func52, Tryz.ntmps52
  replace HV0 := Lib.hid (HV0.out.trans (congrArg (fun z => ore z _) (show identE nm = limE (identB nm) 6 from rfl)))
  obtain ⟨b2, hb2⟩ : ∃ b, (identB nm) = b := ⟨_, rfl⟩
  have G2 : Gives W1 31 #[.string nm] (.bool b2) := fun U hU => (hb2 ▸ rident_any nm hs U).mono fun e w' h => ⟨h.1, @After.is_more _ _ h.2⟩
  rw [hb2] at HV0
  clear hb2
  go_wp2_with fail
  try rw [hW1]
  try rw [hgb]
  clear hW1 hgb
  refine (Gives.on G2 _ inferInstance).mono ?_
  rintro e w3 ⟨rfl, hy_⟩
  have c3_ : After W1 w3 := after_of_more hy_ inferInstance
  clear hy_
  have d3 : After w w3 := after_after a1 c3_
  have b3 : After W1 w3 := after_after (after_refl W1) c3_
  clear k0 k1 k2 k3 k4 k5 kl
  obtain ⟨k0, k1, k2, k3, k4, k5, kl⟩ := HK.out w3 (b3)
  cases b2 with
  | false =>
    have HX : Hid (R = 6) := Lib.hid (HV0.out.trans (ore_no (by decide)))
    have HE : Hid (R = 6) := HX
    go_wp2_with fail
    go_ret
    exact ⟨by rw [HE.out] <;> rfl, d3⟩
  | true =>
    replace HV0 := Lib.hid (HV0.out.trans (ore_yes rfl))
    clear G2
    by_cases hl0 : (lo.length : Int) ≤ 256
    rotate_left
    · have hn_ : ¬ lo.length ≤ 256 := by omega
      have hn2_ : 256 < lo.length := by omega
      have hn3_ : (256 : Int) < (lo.length : Int) := by omega
      have HX : Hid (R = 3) := Lib.hid (by rw [HV0.out, decide_eq_false hl0]; simp only [Bool.false_and, Bool.and_false]; rfl)
      have HE : Hid (R = 3) := HX
      go_wp2_with fail
      go_ret
      exact ⟨by rw [HE.out] <;> rfl, d3⟩
    have hm0_ : lo.length ≤ 256 := by omega
    have hk0_ : ¬ (256 : Int) < (lo.length : Int) := by omega
    have hj0_ : ¬ 256 < lo.length := by omega
    by_cases hl1 : (eq.length : Int) ≤ 256
    rotate_left
    · have hn_ : ¬ eq.length ≤ 256 := by omega
      have hn2_ : 256 < eq.length := by omega
      have hn3_ : (256 : Int) < (eq.length : Int) := by omega
      have HX : Hid (R = 3) := Lib.hid (by rw [HV0.out, decide_eq_true hl0, decide_eq_false hl1]; simp only [Bool.false_and, Bool.and_false]; rfl)
      have HE : Hid (R = 3) := HX
      go_wp2_with fail
      go_ret
      exact ⟨by rw [HE.out] <;> rfl, d3⟩
    have hm1_ : eq.length ≤ 256 := by omega
    have hk1_ : ¬ (256 : Int) < (eq.length : Int) := by omega
    have hj1_ : ¬ 256 < eq.length := by omega
    by_cases hl2 : (au.length : Int) ≤ 8
    rotate_left
    · have hn_ : ¬ au.length ≤ 8 := by omega
      have hn2_ : 8 < au.length := by omega
      have hn3_ : (8 : Int) < (au.length : Int) := by omega
      have HX : Hid (R = 3) := Lib.hid (by rw [HV0.out, decide_eq_true hl0, decide_eq_true hl1, decide_eq_false hl2]; simp only [Bool.false_and, Bool.and_false]; rfl)
      have HE : Hid (R = 3) := HX
      go_wp2_with fail
      go_ret
      exact ⟨by rw [HE.out] <;> rfl, d3⟩
    have hm2_ : au.length ≤ 8 := by omega
    have hk2_ : ¬ (8 : Int) < (au.length : Int) := by omega
    have hj2_ : ¬ 8 < au.length := by omega
    by_cases hl3 : (ul.length : Int) ≤ 4
    rotate_left
    · have hn_ : ¬ ul.length ≤ 4 := by omega
      have hn2_ : 4 < ul.length := by omega
      have hn3_ : (4 : Int) < (ul.length : Int) := by omega
      have HX : Hid (R = 3) := Lib.hid (by rw [HV0.out, decide_eq_true hl0, decide_eq_true hl1, decide_eq_true hl2, decide_eq_false hl3]; simp only [Bool.false_and, Bool.and_false]; rfl)
      have HE : Hid (R = 3) := HX
      go_wp2_with fail
      go_ret
      exact ⟨by rw [HE.out] <;> rfl, d3⟩
    have hm3_ : ul.length ≤ 4 := by omega
    have hk3_ : ¬ (4 : Int) < (ul.length : Int) := by omega
    have hj3_ : ¬ 4 < ul.length := by omega
    by_cases hl4 : (ut.length : Int) ≤ 4
    rotate_left
    · have hn_ : ¬ ut.length ≤ 4 := by omega
      have hn2_ : 4 < ut.length := by omega
      have hn3_ : (4 : Int) < (ut.length : Int) := by omega
      have HX : Hid (R = 3) := Lib.hid (by rw [HV0.out, decide_eq_true hl0, decide_eq_true hl1, decide_eq_true hl2, decide_eq_true hl3, decide_eq_false hl4]; simp only [Bool.false_and, Bool.and_false]; rfl)
      have HE : Hid (R = 3) := HX
      go_wp2_with fail
      go_ret
      exact ⟨by rw [HE.out] <;> rfl, d3⟩
    have hm4_ : ut.length ≤ 4 := by omega
    have hk4_ : ¬ (4 : Int) < (ut.length : Int) := by omega
    have hj4_ : ¬ 4 < ut.length := by omega
    replace HV0 : Hid (R = ore (firstE (declE el false) lo) (ore (firstE (eqE el) eq) (ore (firstE (auE el (d + 1)) au) (ore (firstE (trE el n true) ul) (ore (firstE (trE el n false) ut) 0))))) := by show _ = _; rw [HV0.out, decide_eq_true hl0, decide_eq_true hl1, decide_eq_true hl2, decide_eq_true hl3, decide_eq_true hl4]; rfl
    obtain ⟨x9, hx9⟩ : ∃ x, firstE (declE el false) lo = x := ⟨_, rfl⟩
    have G9 : Gives w3 32 #[.slice eA el.length ec, .slice loA lo.length loc, .bool false] (.int .i64 x9) := fun U hU => (hx9 ▸ rdecls_e HEN.out HLo.out U (after_after (after_after hw d3) hU)).mono fun e w' h => ⟨h.1, @After.is_more _ _ h.2⟩
    rw [hx9] at HV0
    clear hx9
    go_wp2_with fail
    refine (Gives.on G9 _ inferInstance).mono ?_
    rintro e w10 ⟨rfl, hy_⟩
    have c10_ : After w3 w10 := after_of_more hy_ inferInstance
    clear hy_
    have d10 : After w w10 := after_after d3 c10_
    have b10 : After W1 w10 := after_after (b3) c10_
    clear k0 k1 k2 k3 k4 k5 kl
    obtain ⟨k0, k1, k2, k3, k4, k5, kl⟩ := HK.out w10 (b10)
    by_cases hE : x9 = 0
    rotate_left
    · have z1 : (x9 == 0) = false := by rw [beq_eq_false_iff_ne]; exact hE
      have z2 : (x9 != 0) = true := by rw [bne, z1]; rfl
      have HX : Hid (R = x9) := Lib.hid (HV0.out.trans (ore_no hE))
      have HE : Hid (R = x9) := HX
      go_wp2_with fail
      go_ret
      exact ⟨by rw [HE.out] <;> rfl, d10⟩
    subst hE
    replace HV0 := Lib.hid (HV0.out.trans (ore_yes rfl))
    clear G9
    clear hl0 hm0_ hk0_ hj0_ hl1 hm1_ hk1_ hj1_ hl2 hm2_ hk2_ hj2_ hl3 hm3_ hk3_ hj3_ hl4 hm4_ hk4_ hj4_
    go_wp2_with fail
    go_loopw [10] (fun i wr => ∃ m : Nat, m ≤ eq.length ∧ i = .int .i64 (m : Nat) ∧ Hid (firstE (eqE el) (eq.take m) = 0) ∧ After W1 wr) (fun i _ => eq.length - (intOf i).toNat)
    case atStart => exact ⟨0, by omega, rfl, Lib.hid (by simp [firstE]), b10⟩
    case round =>
      obtain ⟨m, hm, rfl, HJm, arm⟩ := hrel
      have drm : After w wr := after_after dBW1 arm
      obtain ⟨rm, hrm⟩ : ∃ r, wr = r := ⟨_, rfl⟩
      rw [hrm] at arm drm ⊢
      clear hrm wr
      clear k0 k1 k2 k3 k4 k5 kl
      obtain ⟨k0, k1, k2, k3, k4, k5, kl⟩ := HK.out rm (arm)
      by_cases hltm : m < eq.length
      · have hltmI : (m : Int) < (eq.length : Int) := by omega
        obtain ⟨bm, pm, ym, rfl, hlem, HYm, hPm⟩ := (HEq.out.eqs rm (k := after_after hw drm)).part (i := m) hltm
        obtain ⟨⟨qA, qc, ql⟩, ⟨k, o, t, v, s, A, c, xs⟩⟩ := ym
        obtain ⟨_, _, HPm_⟩ := HEq.out.elem (i := m) HYm.out
        have HPm := Lib.hid HPm_
        obtain ⟨z0, z1, z2, z3, z4, z5⟩ := hPm.six
        have z6 := hPm.c0
        simp only [Tx.kind, Tx.op, Tx.ty, Tx.va, Tx.name, Tx.ad, Tx.args, Tx.cap] at z0 z1 z2 z3 z4 z5 z6
        clear HPm_ hPm
        have HS1 : Hid ((eqE el ⟨⟨qA, qc, ql⟩, .mk k o t v s A c xs⟩) ≠ 0 → R = (eqE el ⟨⟨qA, qc, ql⟩, .mk k o t v s A c xs⟩)) := Lib.hid fun h => by
          have h1 := firstE_stop (eqE el) HYm.out HJm.out h
          have h2 : R = (eqE el ⟨⟨qA, qc, ql⟩, .mk k o t v s A c xs⟩) := HV0.out.trans ((ore_no (by rw [h1]; exact h)).trans h1)
          exact h2
        have HV1 : Hid ((eqE el ⟨⟨qA, qc, ql⟩, .mk k o t v s A c xs⟩) = ore (eqE el ⟨⟨qA, qc, ql⟩, .mk k o t v s A c xs⟩) 0) := Lib.hid (ore_zero _).symm
        have HNm : Hid ((eqE el ⟨⟨qA, qc, ql⟩, .mk k o t v s A c xs⟩) = 0 → firstE (eqE el) (eq.take (m + 1)) = 0) := Lib.hid fun h => (firstE_take (eqE el) HYm.out HJm.out).trans h
        obtain ⟨X1, hX_⟩ : ∃ X, X = (eqE el ⟨⟨qA, qc, ql⟩, .mk k o t v s A c xs⟩) := ⟨_, rfl⟩
        replace HV1 := Lib.hid (hX_.trans HV1.out)
        rw [← hX_] at HS1 HNm
        clear hX_
        obtain ⟨x11, hx11⟩ : ∃ x, eqE el ⟨⟨qA, qc, ql⟩, .mk k o t v s A c xs⟩ = x := ⟨_, rfl⟩
        have G11 : Gives rm 17 #[.slice eA el.length ec, .agg #[.slice qA ql.length qc, .int .i64 k, .int .i64 o, .int .i64 t, .int .i64 v, .string s, .slice A xs.length c]] (.int .i64 x11) := fun U hU => (hx11 ▸ req_any HEN.out HPm.out.lf (HPm.out.sz trivial) HPm.out.ri HPm.out.tb U (after_after (after_after hw drm) hU)).mono fun e w' h => ⟨h.1, @After.is_more _ _ h.2⟩
        rw [hx11] at HV1
        clear hx11
        go_wp2_with fail
        refine (Gives.on G11 _ inferInstance).mono ?_
        rintro e w12 ⟨rfl, hy_⟩
        have c12_ : After rm w12 := after_of_more hy_ inferInstance
        clear hy_
        have d12 : After w w12 := after_after drm c12_
        have b12 : After W1 w12 := after_after (arm) c12_
        clear k0 k1 k2 k3 k4 k5 kl
        obtain ⟨k0, k1, k2, k3, k4, k5, kl⟩ := HK.out w12 (b12)
        by_cases hE : x11 = 0
        rotate_left
        · have z1 : (x11 == 0) = false := by rw [beq_eq_false_iff_ne]; exact hE
          have z2 : (x11 != 0) = true := by rw [bne, z1]; rfl
          have HX : Hid (X1 = x11) := Lib.hid (HV1.out.trans (ore_no hE))
          have HE : Hid (R = x11) := Lib.hid ((HS1.out (by rw [HX.out]; exact hE)).trans HX.out)
          go_wp2_with fail
          go_ret
          exact ⟨by rw [HE.out] <;> rfl, d12⟩
        subst hE
        replace HV1 := Lib.hid (HV1.out.trans (ore_yes rfl))
        clear G11
        go_wp2_with fail
        go_roundw
        case rel => exact ⟨m + 1, by omega, by go_num, Lib.hid (HNm.out HV1.out), b12⟩
        case measure => simp only [intOf]; omega
      · replace HV0 := Lib.hid (HV0.out.trans (ore_yes (firstE_all (eqE el) hltm HJm.out)))
        go_wp2_with fail
        go_loopw [11] (fun i wr => ∃ x : Nat, x ≤ au.length ∧ i = .int .i64 (x : Nat) ∧ Hid (firstE (auE el (d + 1)) (au.take x) = 0) ∧ After W1 wr) (fun i _ => au.length - (intOf i).toNat)
        case atStart => exact ⟨0, by omega, rfl, Lib.hid (by simp [firstE]), arm⟩
        case round =>
          obtain ⟨x, hx, rfl, HJx, arx⟩ := hrel
          have drx : After w wr := after_after dBW1 arx
          obtain ⟨rx, hrx⟩ : ∃ r, wr = r := ⟨_, rfl⟩
          rw [hrx] at arx drx ⊢
          clear hrx wr
          clear k0 k1 k2 k3 k4 k5 kl
          obtain ⟨k0, k1, k2, k3, k4, k5, kl⟩ := HK.out rx (arx)
          by_cases hltx : x < au.length
          · have hltxI : (x : Int) < (au.length : Int) := by omega
            obtain ⟨bx, px, yx, rfl, hlex, HYx, hPx⟩ := (HAu.out.aus rx (k := after_after hw drx)).part (i := x) hltx
            obtain ⟨xA, xc, xl⟩ := yx
            obtain ⟨_, _, HPx_⟩ := HAu.out.elem (i := x) HYx.out
            have HPx := Lib.hid HPx_
            have y0 : rx.cell? ⟨bx, px + x, none⟩ = some (.slice xA xl.length xc) := by have := hPx.1; rwa [Nat.mul_one] at this
            clear HPx_ hPx
            have HS1 : Hid ((auE el (d + 1) (.mk xA xc xl)) ≠ 0 → R = (auE el (d + 1) (.mk xA xc xl))) := Lib.hid fun h => by
              have h1 := firstE_stop (auE el (d + 1)) HYx.out HJx.out h
              have h2 : R = (auE el (d + 1) (.mk xA xc xl)) := HV0.out.trans ((ore_no (by rw [h1]; exact h)).trans h1)
              exact h2
            have HV1 : Hid ((auE el (d + 1) (.mk xA xc xl)) = ore (auE el (d + 1) (.mk xA xc xl)) 0) := Lib.hid (ore_zero _).symm
            have HNx : Hid ((auE el (d + 1) (.mk xA xc xl)) = 0 → firstE (auE el (d + 1)) (au.take (x + 1)) = 0) := Lib.hid fun h => (firstE_take (auE el (d + 1)) HYx.out HJx.out).trans h
            obtain ⟨X1, hX_⟩ : ∃ X, X = (auE el (d + 1) (.mk xA xc xl)) := ⟨_, rfl⟩
            replace HV1 := Lib.hid (hX_.trans HV1.out)
            rw [← hX_] at HS1 HNx
            clear hX_
            obtain ⟨x13, hx13⟩ : ∃ x, auE el (d + 1) (.mk xA xc xl) = x := ⟨_, rfl⟩
            have G13 : Gives rx 34 #[.slice eA el.length ec, .agg #[.slice xA xl.length xc], .int .i64 ((d : Int) + 1)] (.int .i64 x13) := fun U hU => (hx13 ▸ HA.out xA xc xl HPx.out.2 U (after_after (after_after hw drx) hU)).mono fun e w' h => ⟨h.1, @After.is_more _ _ h.2⟩
            rw [hx13] at HV1
            clear hx13
            go_wp2_with fail
            refine (Gives.on G13 _ inferInstance).mono ?_
            rintro e w14 ⟨rfl, hy_⟩
            have c14_ : After rx w14 := after_of_more hy_ inferInstance
            clear hy_
            have d14 : After w w14 := after_after drx c14_
            have b14 : After W1 w14 := after_after (arx) c14_
            clear k0 k1 k2 k3 k4 k5 kl
            obtain ⟨k0, k1, k2, k3, k4, k5, kl⟩ := HK.out w14 (b14)
            by_cases hE : x13 = 0
            rotate_left
            · have z1 : (x13 == 0) = false := by rw [beq_eq_false_iff_ne]; exact hE
              have z2 : (x13 != 0) = true := by rw [bne, z1]; rfl
              have HX : Hid (X1 = x13) := Lib.hid (HV1.out.trans (ore_no hE))
              have HE : Hid (R = x13) := Lib.hid ((HS1.out (by rw [HX.out]; exact hE)).trans HX.out)
              go_wp2_with fail
              go_ret
              exact ⟨by rw [HE.out] <;> rfl, d14⟩
            subst hE
            replace HV1 := Lib.hid (HV1.out.trans (ore_yes rfl))
            clear G13
            go_wp2_with fail
            go_roundw
            case rel => exact ⟨x + 1, by omega, by go_num, Lib.hid (HNx.out HV1.out), b14⟩
            case measure => simp only [intOf]; omega
          · replace HV0 := Lib.hid (HV0.out.trans (ore_yes (firstE_all (auE el (d + 1)) hltx HJx.out)))
            obtain ⟨x15, hx15⟩ : ∃ x, firstE (trE el n true) ul = x := ⟨_, rfl⟩
            have G15 : Gives rx 83 #[.slice eA el.length ec, .slice ulA ul.length ulc, .int .i64 (n : Nat), .bool true] (.int .i64 x15) := fun U hU => (hx15 ▸ rtrans_any HEN.out HUl.out U (after_after (after_after hw drx) hU)).mono fun e w' h => ⟨h.1, @After.is_more _ _ h.2⟩
            rw [hx15] at HV0
            clear hx15
            go_wp2_with fail
            refine (Gives.on G15 _ inferInstance).mono ?_
            rintro e w16 ⟨rfl, hy_⟩
            have c16_ : After rx w16 := after_of_more hy_ inferInstance
            clear hy_
            have d16 : After w w16 := after_after drx c16_
            have b16 : After W1 w16 := after_after (arx) c16_
            clear k0 k1 k2 k3 k4 k5 kl
            obtain ⟨k0, k1, k2, k3, k4, k5, kl⟩ := HK.out w16 (b16)
            by_cases hE : x15 = 0
            rotate_left
            · have z1 : (x15 == 0) = false := by rw [beq_eq_false_iff_ne]; exact hE
              have z2 : (x15 != 0) = true := by rw [bne, z1]; rfl
              have HX : Hid (R = x15) := Lib.hid (HV0.out.trans (ore_no hE))
              have HE : Hid (R = x15) := HX
              go_wp2_with fail
              go_ret
              exact ⟨by rw [HE.out] <;> rfl, d16⟩
            subst hE
            replace HV0 := Lib.hid (HV0.out.trans (ore_yes rfl))
            clear G15
            obtain ⟨x17, hx17⟩ : ∃ x, firstE (trE el n false) ut = x := ⟨_, rfl⟩
            have G17 : Gives w16 83 #[.slice eA el.length ec, .slice utA ut.length utc, .int .i64 (n : Nat), .bool false] (.int .i64 x17) := fun U hU => (hx17 ▸ rtrans_any HEN.out HUt.out U (after_after (after_after hw d16) hU)).mono fun e w' h => ⟨h.1, @After.is_more _ _ h.2⟩
            rw [hx17] at HV0
            clear hx17
            go_wp2_with fail
            refine (Gives.on G17 _ inferInstance).mono ?_
            rintro e w18 ⟨rfl, hy_⟩
            have c18_ : After w16 w18 := after_of_more hy_ inferInstance
            clear hy_
            have d18 : After w w18 := after_after d16 c18_
            have b18 : After W1 w18 := after_after (b16) c18_
            clear k0 k1 k2 k3 k4 k5 kl
            obtain ⟨k0, k1, k2, k3, k4, k5, kl⟩ := HK.out w18 (b18)
            have HE : Hid (R = x17) := Lib.hid (HV0.out.trans (ore_zero _))
            go_wp2_with fail
            go_ret
            exact ⟨by rw [HE.out] <;> rfl, d18⟩
set_option maxRecDepth 100000 in
set_option maxHeartbeats 3200000 in
theorem rauto_deep {w0 : World} {eA : Option Addr} {ec : Nat} {el : List EnD} {d : Nat} {A1 : Option Addr} {c1 : Nat} {l : List StT} (hd : ¬ d < 3) (w : World) (hw : After w0 w) :
    Calls Tryz.prog 34 #[.slice eA el.length ec, .agg #[.slice A1 l.length c1], .int .i64 (d : Nat)] w fun e w' => e = .returned (.int .i64 (auE el d (.mk A1 c1 l))) ∧ After w w' := by
  obtain ⟨R, hR⟩ : ∃ R, auE el d (.mk A1 c1 l) = R := ⟨_, rfl⟩
  have HV0 : Hid (R = ore (limE (decide ((d : Int) < 3)) 3) (ore (limE (decide ((0 : Int) < (l.length : Int))) 8) (ore (limE (decide ((l.length : Int) ≤ 8)) 3) (ore (firstE (stE el l.length d) l) 0)))) := by
    show _ = _
    rw [← hR]
    rw [auE_is, ore_zero]
  rw [hR]
  clear hR
  obtain ⟨gb, hgb⟩ : ∃ g, w.heap.size = g := ⟨_, rfl⟩
  obtain ⟨W1, hW1, a1, HK⟩ : ∃ W, w.alloc (.cells #[.slice A1 l.length c1] 72) = W ∧ After w W ∧ Hid (∀ U : World, After W U → U.cell? ⟨gb, 0, none⟩ = some (.slice A1 l.length c1) ∧ Le (gb + 1) U) := by
    refine ⟨_, rfl, inferInstance, fun U hU => ?_⟩
    have y0 := (Blk.new w 72 #[.slice A1 l.length c1]).after (w' := U)
    rw [hgb] at y0
    exact ⟨(y0.cell 0).trans rfl, y0.is_le⟩
  obtain ⟨k0, kl⟩ := HK.out W1 (after_refl _)
  have dBW1 := a1
  go_enter Tryz.func34, Tryz.ntmps34
  have hd2 : (2 : Int) < (d : Int) := by omega
  have hd3 : 2 < d := by omega
  have HE : Hid (R = 3) := Lib.hid (HV0.out.trans (by rw [decide_eq_false (show ¬ (d : Int) < 3 by omega)]; rfl))
  go_wp2_with fail
  try rw [hW1]
  try rw [hgb]
  clear hW1 hgb
  go_ret
  exact ⟨by rw [HE.out] <;> rfl, a1⟩
set_option maxRecDepth 100000 in
set_option maxHeartbeats 3200000 in
theorem rauto_of {w0 : World} {eA : Option Addr} {ec : Nat} {el : List EnD} (hen : RowOf 2 PEn w0 ⟨eA, ec, el⟩) {d : Nat} {A1 : Option Addr} {c1 : Nat} {l : List StT} (hd : d < 3) (hx : RowOf 6 (PSt True) w0 ⟨A1, c1, l⟩) (hS : ∀ (n : Nat) (nm : ByteArray) (loA : Option Addr) (loc : Nat) (lo : List DeclD) (eqA : Option Addr) (eqc : Nat) (eq : List EqD) (aA : Option Addr) (ac : Nat) (au : List AuT) (ulA : Option Addr) (ulc : Nat) (ul : List TrD) (utA : Option Addr) (utc : Nat) (ut : List TrD), RSta True w0 (.mk nm ⟨loA, loc, lo⟩ ⟨eqA, eqc, eq⟩ aA ac au ⟨ulA, ulc, ul⟩ ⟨utA, utc, ut⟩) → ∀ U, After w0 U → Calls Tryz.prog 52 #[.slice eA el.length ec, .agg #[.string nm, .slice loA lo.length loc, .slice eqA eq.length eqc, .slice aA au.length ac, .slice ulA ul.length ulc, .slice utA ut.length utc], .int .i64 (n : Nat), .int .i64 (d : Nat)] U fun e w' => e = .returned (.int .i64 (stE el n d (.mk nm ⟨loA, loc, lo⟩ ⟨eqA, eqc, eq⟩ aA ac au ⟨ulA, ulc, ul⟩ ⟨utA, utc, ut⟩))) ∧ After U w') (w : World) (hw : After w0 w) :
    Calls Tryz.prog 34 #[.slice eA el.length ec, .agg #[.slice A1 l.length c1], .int .i64 (d : Nat)] w fun e w' => e = .returned (.int .i64 (auE el d (.mk A1 c1 l))) ∧ After w w' := by
  obtain ⟨R, hR⟩ : ∃ R, auE el d (.mk A1 c1 l) = R := ⟨_, rfl⟩
  have HV0 : Hid (R = ore (limE (decide ((d : Int) < 3)) 3) (ore (limE (decide ((0 : Int) < (l.length : Int))) 8) (ore (limE (decide ((l.length : Int) ≤ 8)) 3) (ore (firstE (stE el l.length d) l) 0)))) := by
    show _ = _
    rw [← hR]
    rw [auE_is, ore_zero]
  rw [hR]
  clear hR
  have HEN := Lib.hid hen
  have hel := hen.len
  simp only [] at hel
  clear hen
  have HX0 := Lib.hid hx
  have hbl := hx.len
  simp only [] at hbl
  have HS0 := Lib.hid hS
  clear hx hS
  obtain ⟨gb, hgb⟩ : ∃ g, w.heap.size = g := ⟨_, rfl⟩
  obtain ⟨W1, hW1, a1, HK⟩ : ∃ W, w.alloc (.cells #[.slice A1 l.length c1] 72) = W ∧ After w W ∧ Hid (∀ U : World, After W U → U.cell? ⟨gb, 0, none⟩ = some (.slice A1 l.length c1) ∧ Le (gb + 1) U) := by
    refine ⟨_, rfl, inferInstance, fun U hU => ?_⟩
    have y0 := (Blk.new w 72 #[.slice A1 l.length c1]).after (w' := U)
    rw [hgb] at y0
    exact ⟨(y0.cell 0).trans rfl, y0.is_le⟩
  obtain ⟨k0, kl⟩ := HK.out W1 (after_refl _)
  have dBW1 := a1
  go_enter Tryz.func34, Tryz.ntmps34
  have hd2 : ¬ (2 : Int) < (d : Int) := by omega
  have hd3 : ¬ 2 < d := by omega
  replace HV0 := Lib.hid (HV0.out.trans ((congrArg (fun b => ore (limE b 3) _) (decide_eq_true (show (d : Int) < 3 by omega))).trans (ore_yes (show limE true 3 = 0 from rfl))))
  by_cases hc2 : (0 : Int) < (l.length : Int)
  rotate_left
  · have hzB_ : ((l.length : Int) == 0) = true := by rw [beq_iff_eq]; omega
    have HX : Hid (R = 8) := Lib.hid (HV0.out.trans ((congrArg (fun b => ore (limE b 8) _) (decide_eq_false hc2)).trans (ore_no (show limE false 8 ≠ 0 by decide))))
    have HE : Hid (R = 8) := HX
    go_wp2_with fail
    try rw [hW1]
    try rw [hgb]
    clear hW1 hgb
    go_ret
    exact ⟨by rw [HE.out] <;> rfl, a1⟩
  replace HV0 := Lib.hid (HV0.out.trans ((congrArg (fun b => ore (limE b 8) _) (decide_eq_true hc2)).trans (ore_yes (show limE true 8 = 0 from rfl))))
  have hzB_ : ((l.length : Int) == 0) = false := by rw [beq_eq_false_iff_ne]; omega
  by_cases hc3 : (l.length : Int) ≤ 8
  rotate_left
  · have hy_ : (8 : Int) < (l.length : Int) := by omega
    have hy2_ : 8 < l.length := by omega
    have HX : Hid (R = 3) := Lib.hid (HV0.out.trans ((congrArg (fun b => ore (limE b 3) _) (decide_eq_false hc3)).trans (ore_no (show limE false 3 ≠ 0 by decide))))
    have HE : Hid (R = 3) := HX
    go_wp2_with fail
    go_ret
    exact ⟨by rw [HE.out] <;> rfl, a1⟩
  replace HV0 := Lib.hid (HV0.out.trans ((congrArg (fun b => ore (limE b 3) _) (decide_eq_true hc3)).trans (ore_yes (show limE true 3 = 0 from rfl))))
  have hy_ : ¬ (8 : Int) < (l.length : Int) := by omega
  have hy2_ : ¬ 8 < l.length := by omega
  go_wp2_with fail
  go_loopw [7] (fun i wr => ∃ j : Nat, j ≤ l.length ∧ i = .int .i64 (j : Nat) ∧ Hid (firstE (stE el l.length d) (l.take j) = 0) ∧ After W1 wr) (fun i _ => l.length - (intOf i).toNat)
  case atStart => exact ⟨0, by omega, rfl, Lib.hid (by simp [firstE]), after_refl W1⟩
  case round =>
    obtain ⟨j, hj, rfl, HJj, arj⟩ := hrel
    have drj : After w wr := after_after dBW1 arj
    obtain ⟨rj, hrj⟩ : ∃ r, wr = r := ⟨_, rfl⟩
    rw [hrj] at arj drj ⊢
    clear hrj wr
    clear k0 kl
    obtain ⟨k0, kl⟩ := HK.out rj (arj)
    by_cases hltj : j < l.length
    · have hltjI : (j : Int) < (l.length : Int) := by omega
      obtain ⟨bj, pj, yj, rfl, hlej, HYj, hPj⟩ := (HX0.out.sts rj (k := after_after hw drj)).part (i := j) hltj
      obtain ⟨nm, ⟨loA, loc, lo⟩, ⟨eqA, eqc, eq⟩, aA, ac, au, ⟨ulA, ulc, ul⟩, ⟨utA, utc, ut⟩⟩ := yj
      obtain ⟨_, _, HPj_⟩ := HX0.out.elem (i := j) HYj.out
      have HPj := Lib.hid HPj_
      obtain ⟨y0, y1, y2, y3, y4, y5⟩ := hPj.1
      simp only [StT.name, StT.locals, StT.eqs, StT.ad, StT.cap, StT.autos, StT.unl, StT.unt] at y0 y1 y2 y3 y4 y5
      clear HPj_ hPj
      have HS1 : Hid ((stE el l.length d (.mk nm ⟨loA, loc, lo⟩ ⟨eqA, eqc, eq⟩ aA ac au ⟨ulA, ulc, ul⟩ ⟨utA, utc, ut⟩)) ≠ 0 → R = (stE el l.length d (.mk nm ⟨loA, loc, lo⟩ ⟨eqA, eqc, eq⟩ aA ac au ⟨ulA, ulc, ul⟩ ⟨utA, utc, ut⟩))) := Lib.hid fun h => by
        have h1 := firstE_stop (stE el l.length d) HYj.out HJj.out h
        have h2 : R = (stE el l.length d (.mk nm ⟨loA, loc, lo⟩ ⟨eqA, eqc, eq⟩ aA ac au ⟨ulA, ulc, ul⟩ ⟨utA, utc, ut⟩)) := HV0.out.trans ((ore_no (by rw [h1]; exact h)).trans h1)
        exact h2
      have HV1 : Hid ((stE el l.length d (.mk nm ⟨loA, loc, lo⟩ ⟨eqA, eqc, eq⟩ aA ac au ⟨ulA, ulc, ul⟩ ⟨utA, utc, ut⟩)) = ore (stE el l.length d (.mk nm ⟨loA, loc, lo⟩ ⟨eqA, eqc, eq⟩ aA ac au ⟨ulA, ulc, ul⟩ ⟨utA, utc, ut⟩)) 0) := Lib.hid (ore_zero _).symm
      have HNj : Hid ((stE el l.length d (.mk nm ⟨loA, loc, lo⟩ ⟨eqA, eqc, eq⟩ aA ac au ⟨ulA, ulc, ul⟩ ⟨utA, utc, ut⟩)) = 0 → firstE (stE el l.length d) (l.take (j + 1)) = 0) := Lib.hid fun h => (firstE_take (stE el l.length d) HYj.out HJj.out).trans h
      obtain ⟨X1, hX_⟩ : ∃ X, X = (stE el l.length d (.mk nm ⟨loA, loc, lo⟩ ⟨eqA, eqc, eq⟩ aA ac au ⟨ulA, ulc, ul⟩ ⟨utA, utc, ut⟩)) := ⟨_, rfl⟩
      replace HV1 := Lib.hid (hX_.trans HV1.out)
      rw [← hX_] at HS1 HNj
      clear hX_
      obtain ⟨x4, hx4⟩ : ∃ x, stE el l.length d (.mk nm ⟨loA, loc, lo⟩ ⟨eqA, eqc, eq⟩ aA ac au ⟨ulA, ulc, ul⟩ ⟨utA, utc, ut⟩) = x := ⟨_, rfl⟩
      have G4 : Gives rj 52 #[.slice eA el.length ec, .agg #[.string nm, .slice loA lo.length loc, .slice eqA eq.length eqc, .slice aA au.length ac, .slice ulA ul.length ulc, .slice utA ut.length utc], .int .i64 (l.length : Nat), .int .i64 (d : Nat)] (.int .i64 x4) := fun U hU => (hx4 ▸ HS0.out _ _ _ _ _ _ _ _ _ _ _ _ _ _ _ _ _ HPj.out.2 U (after_after (after_after hw drj) hU)).mono fun e w' h => ⟨h.1, @After.is_more _ _ h.2⟩
      rw [hx4] at HV1
      clear hx4
      go_wp2_with fail
      refine wp_region_more (by kernel_rfl) (by kernel_rfl) ?_
      repeat (go_big_quiet_step ((go_at_call 52; with_reducible exact Calls.more_of (Gives.on G4 _ inferInstance))))
      refine wpQuiet_nil ?_
      rintro _ ⟨y_, rfl⟩
      obtain ⟨w5, hv_, c5_⟩ : ∃ v, rj.more y_ = v ∧ After rj v := ⟨_, rfl, inferInstance⟩
      rw [hv_]
      clear hv_
      have d5 : After w w5 := after_after drj c5_
      have b5 : After W1 w5 := after_after (arj) c5_
      clear k0 kl
      obtain ⟨k0, kl⟩ := HK.out w5 (b5)
      by_cases hE : x4 = 0
      rotate_left
      · have z1 : (x4 == 0) = false := by rw [beq_eq_false_iff_ne]; exact hE
        have z2 : (x4 != 0) = true := by rw [bne, z1]; rfl
        have HX : Hid (X1 = x4) := Lib.hid (HV1.out.trans (ore_no hE))
        have HE : Hid (R = x4) := Lib.hid ((HS1.out (by rw [HX.out]; exact hE)).trans HX.out)
        go_wp2_with fail
        go_ret
        exact ⟨by rw [HE.out] <;> rfl, d5⟩
      subst hE
      replace HV1 := Lib.hid (HV1.out.trans (ore_yes rfl))
      clear G4
      go_wp2_with fail
      go_roundw
      case rel => exact ⟨j + 1, by omega, by go_num, Lib.hid (HNj.out HV1.out), b5⟩
      case measure => simp only [intOf]; omega
    · replace HV0 := Lib.hid (HV0.out.trans (ore_yes (firstE_all (stE el l.length d) hltj HJj.out)))
      have HE : Hid (R = 0) := HV0
      go_wp2_with fail
      go_ret
      exact ⟨by rw [HE.out] <;> rfl, drj⟩
theorem rauto_n {w0 : World} {eA : Option Addr} {ec : Nat} {el : List EnD} (hen : RowOf 2 PEn w0 ⟨eA, ec, el⟩) (m : Nat) : ∀ (d : Nat), 3 - d ≤ m → ∀ (A1 : Option Addr) (c1 : Nat) (l : List StT), RAu True w0 (.mk A1 c1 l) → ∀ w : World, After w0 w →
    Calls Tryz.prog 34 #[.slice eA el.length ec, .agg #[.slice A1 l.length c1], .int .i64 (d : Nat)] w fun e w' => e = .returned (.int .i64 (auE el d (.mk A1 c1 l))) ∧ After w w' := by
  induction m with
  | zero =>
    intro d hd A1 c1 l hx w hw
    exact rauto_deep (by omega) w hw
  | succ m ih =>
    intro d hd A1 c1 l hx w hw
    by_cases hd3 : d < 3
    rotate_left
    · exact rauto_deep hd3 w hw
    refine rauto_of hen hd3 hx.rows ?_ w hw
    intro n nm loA loc lo eqA eqc eq aA ac au ulA ulc ul utA utc ut hR U hU
    obtain ⟨h1, h2, h3, h4, h5, h6⟩ := RSta.parts hR
    refine rstate_of hen (by omega) h1 h2 h3 h4 h5 h6 ?_ U hU
    intro A1 c1 l h U hU
    have hi := ih (d + 1) (by omega) A1 c1 l h U hU
    rwa [show ((d + 1 : Nat) : Int) = (d : Int) + 1 by omega] at hi
set_option maxRecDepth 100000 in
set_option maxHeartbeats 6400000 in
theorem rhead_any {w0 : World} {eA : Option Addr} {ec : Nat} {el : List EnD} (hen : RowOf 2 PEn w0 ⟨eA, ec, el⟩) {nm : ByteArray} {inA : Option Addr} {inc : Nat} {in_ : List DeclD} {ouA : Option Addr} {ouc : Nat} {ou : List DeclD} {loA : Option Addr} {loc : Nat} {lo : List DeclD} {eqA : Option Addr} {eqc : Nat} {eq : List EqD} {auA : Option Addr} {auc : Nat} {au : List AuT} {asA : Option Addr} {asc : Nat} {as_ : List Tx} {enA : Option Addr} {enc : Nat} {en_ : List Tx} {b p : Nat} (hy : PNd True w0 b p ⟨nm, ⟨inA, inc, in_⟩, ⟨ouA, ouc, ou⟩, ⟨loA, loc, lo⟩, ⟨eqA, eqc, eq⟩, ⟨auA, auc, au⟩, ⟨asA, asc, as_⟩, ⟨enA, enc, en_⟩⟩) (w : World) (hw : After w0 w) :
    Calls Tryz.prog 16 #[.slice eA el.length ec, .agg #[.string nm, .slice inA in_.length inc, .slice ouA ou.length ouc, .slice loA lo.length loc, .slice eqA eq.length eqc, .slice auA au.length auc, .slice asA as_.length asc, .slice enA en_.length enc]] w fun e w' => e = .returned (.int .i64 (headE el ⟨nm, ⟨inA, inc, in_⟩, ⟨ouA, ouc, ou⟩, ⟨loA, loc, lo⟩, ⟨eqA, eqc, eq⟩, ⟨auA, auc, au⟩, ⟨asA, asc, as_⟩, ⟨enA, enc, en_⟩⟩)) ∧ After w w' := by
  obtain ⟨R, hR⟩ : ∃ R, headE el ⟨nm, ⟨inA, inc, in_⟩, ⟨ouA, ouc, ou⟩, ⟨loA, loc, lo⟩, ⟨eqA, eqc, eq⟩, ⟨auA, auc, au⟩, ⟨asA, asc, as_⟩, ⟨enA, enc, en_⟩⟩ = R := ⟨_, rfl⟩
  have HV0 : Hid (R = ore (identE nm) (ore (limE (decide ((in_.length : Int) ≤ 64) && (decide ((ou.length : Int) ≤ 64) && (decide ((lo.length : Int) ≤ 256) && (decide ((eq.length : Int) ≤ 256) && (decide ((au.length : Int) ≤ 8) && (decide ((as_.length : Int) ≤ 8) && (decide ((en_.length : Int) ≤ 8)))))))) 3) (ore (limE (decide ((0 : Int) < (ou.length : Int))) 8) (ore (firstE (declE el true) in_) (ore (firstE (declE el true) ou) (ore (firstE (declE el false) lo) 0)))))) := by
    show _ = _
    rw [← hR]
    rw [ore_zero]; rfl
  rw [hR]
  clear hR
  have HEN := Lib.hid hen
  have hel := hen.len
  simp only [] at hel
  clear hen
  have HY := Lib.hid hy
  have hlen : in_.length ≤ 140737488355328 ∧ ou.length ≤ 140737488355328 ∧ lo.length ≤ 140737488355328 ∧ eq.length ≤ 140737488355328 ∧ au.length ≤ 140737488355328 ∧ as_.length ≤ 140737488355328 ∧ en_.length ≤ 140737488355328 := ⟨hy.r1.len, hy.r2.len, hy.r3.len, hy.r4.len, hy.r5.len, hy.r6.len, hy.r7.len⟩
  obtain ⟨hl1_, hl2_, hl3_, hl4_, hl5_, hl6_, hl7_⟩ := hlen
  clear hy
  obtain ⟨gb, hgb⟩ : ∃ g, w.heap.size = g := ⟨_, rfl⟩
  obtain ⟨W1, hW1, a1, HK⟩ : ∃ W, w.alloc (.cells #[.string nm, .slice inA in_.length inc, .slice ouA ou.length ouc, .slice loA lo.length loc, .slice eqA eq.length eqc, .slice auA au.length auc, .slice asA as_.length asc, .slice enA en_.length enc] 52) = W ∧ After w W ∧ Hid (∀ U : World, After W U → U.cell? ⟨gb, 0, none⟩ = some (.string nm) ∧ U.cell? ⟨gb, 1, none⟩ = some (.slice inA in_.length inc) ∧ U.cell? ⟨gb, 2, none⟩ = some (.slice ouA ou.length ouc) ∧ U.cell? ⟨gb, 3, none⟩ = some (.slice loA lo.length loc) ∧ U.cell? ⟨gb, 4, none⟩ = some (.slice eqA eq.length eqc) ∧ U.cell? ⟨gb, 5, none⟩ = some (.slice auA au.length auc) ∧ U.cell? ⟨gb, 6, none⟩ = some (.slice asA as_.length asc) ∧ U.cell? ⟨gb, 7, none⟩ = some (.slice enA en_.length enc) ∧ Le (gb + 1) U) := by
    refine ⟨_, rfl, inferInstance, fun U hU => ?_⟩
    have y0 := (Blk.new w 52 #[.string nm, .slice inA in_.length inc, .slice ouA ou.length ouc, .slice loA lo.length loc, .slice eqA eq.length eqc, .slice auA au.length auc, .slice asA as_.length asc, .slice enA en_.length enc]).after (w' := U)
    rw [hgb] at y0
    exact ⟨(y0.cell 0).trans rfl, (y0.cell 1).trans rfl, (y0.cell 2).trans rfl, (y0.cell 3).trans rfl, (y0.cell 4).trans rfl, (y0.cell 5).trans rfl, (y0.cell 6).trans rfl, (y0.cell 7).trans rfl, y0.is_le⟩
  obtain ⟨k0, k1, k2, k3, k4, k5, k6, k7, kl⟩ := HK.out W1 (after_refl _)
  have dBW1 := a1
  go_enter Tryz.func16, Tryz.ntmps16
  replace HV0 := Lib.hid (HV0.out.trans (congrArg (fun z => ore z _) (show identE nm = limE (identB nm) 6 from rfl)))
  obtain ⟨b2, hb2⟩ : ∃ b, (identB nm) = b := ⟨_, rfl⟩
  have G2 : Gives W1 31 #[.string nm] (.bool b2) := fun U hU => (hb2 ▸ rident_any nm HY.out.nm U).mono fun e w' h => ⟨h.1, @After.is_more _ _ h.2⟩
  rw [hb2] at HV0
  clear hb2
  go_wp2_with fail
  try rw [hW1]
  try rw [hgb]
  clear hW1 hgb
  refine (Gives.on G2 _ inferInstance).mono ?_
  rintro e w3 ⟨rfl, hy_⟩
  have c3_ : After W1 w3 := after_of_more hy_ inferInstance
  clear hy_
  have d3 : After w w3 := after_after a1 c3_
  have b3 : After W1 w3 := after_after (after_refl W1) c3_
  clear k0 k1 k2 k3 k4 k5 k6 k7 kl
  obtain ⟨k0, k1, k2, k3, k4, k5, k6, k7, kl⟩ := HK.out w3 (b3)
  cases b2 with
  | false =>
    have HX : Hid (R = 6) := Lib.hid (HV0.out.trans (ore_no (by decide)))
    have HE : Hid (R = 6) := HX
    go_wp2_with fail
    go_ret
    exact ⟨by rw [HE.out] <;> rfl, d3⟩
  | true =>
    replace HV0 := Lib.hid (HV0.out.trans (ore_yes rfl))
    clear G2
    by_cases hl0 : (in_.length : Int) ≤ 64
    rotate_left
    · have hn_ : ¬ in_.length ≤ 64 := by omega
      have hn2_ : 64 < in_.length := by omega
      have hn3_ : (64 : Int) < (in_.length : Int) := by omega
      have HX : Hid (R = 3) := Lib.hid (by rw [HV0.out, decide_eq_false hl0]; simp only [Bool.false_and, Bool.and_false]; rfl)
      have HE : Hid (R = 3) := HX
      go_wp2_with fail
      go_ret
      exact ⟨by rw [HE.out] <;> rfl, d3⟩
    have hm0_ : in_.length ≤ 64 := by omega
    have hk0_ : ¬ (64 : Int) < (in_.length : Int) := by omega
    have hj0_ : ¬ 64 < in_.length := by omega
    by_cases hl1 : (ou.length : Int) ≤ 64
    rotate_left
    · have hn_ : ¬ ou.length ≤ 64 := by omega
      have hn2_ : 64 < ou.length := by omega
      have hn3_ : (64 : Int) < (ou.length : Int) := by omega
      have HX : Hid (R = 3) := Lib.hid (by rw [HV0.out, decide_eq_true hl0, decide_eq_false hl1]; simp only [Bool.false_and, Bool.and_false]; rfl)
      have HE : Hid (R = 3) := HX
      go_wp2_with fail
      go_ret
      exact ⟨by rw [HE.out] <;> rfl, d3⟩
    have hm1_ : ou.length ≤ 64 := by omega
    have hk1_ : ¬ (64 : Int) < (ou.length : Int) := by omega
    have hj1_ : ¬ 64 < ou.length := by omega
    by_cases hl2 : (lo.length : Int) ≤ 256
    rotate_left
    · have hn_ : ¬ lo.length ≤ 256 := by omega
      have hn2_ : 256 < lo.length := by omega
      have hn3_ : (256 : Int) < (lo.length : Int) := by omega
      have HX : Hid (R = 3) := Lib.hid (by rw [HV0.out, decide_eq_true hl0, decide_eq_true hl1, decide_eq_false hl2]; simp only [Bool.false_and, Bool.and_false]; rfl)
      have HE : Hid (R = 3) := HX
      go_wp2_with fail
      go_ret
      exact ⟨by rw [HE.out] <;> rfl, d3⟩
    have hm2_ : lo.length ≤ 256 := by omega
    have hk2_ : ¬ (256 : Int) < (lo.length : Int) := by omega
    have hj2_ : ¬ 256 < lo.length := by omega
    by_cases hl3 : (eq.length : Int) ≤ 256
    rotate_left
    · have hn_ : ¬ eq.length ≤ 256 := by omega
      have hn2_ : 256 < eq.length := by omega
      have hn3_ : (256 : Int) < (eq.length : Int) := by omega
      have HX : Hid (R = 3) := Lib.hid (by rw [HV0.out, decide_eq_true hl0, decide_eq_true hl1, decide_eq_true hl2, decide_eq_false hl3]; simp only [Bool.false_and, Bool.and_false]; rfl)
      have HE : Hid (R = 3) := HX
      go_wp2_with fail
      go_ret
      exact ⟨by rw [HE.out] <;> rfl, d3⟩
    have hm3_ : eq.length ≤ 256 := by omega
    have hk3_ : ¬ (256 : Int) < (eq.length : Int) := by omega
    have hj3_ : ¬ 256 < eq.length := by omega
    by_cases hl4 : (au.length : Int) ≤ 8
    rotate_left
    · have hn_ : ¬ au.length ≤ 8 := by omega
      have hn2_ : 8 < au.length := by omega
      have hn3_ : (8 : Int) < (au.length : Int) := by omega
      have HX : Hid (R = 3) := Lib.hid (by rw [HV0.out, decide_eq_true hl0, decide_eq_true hl1, decide_eq_true hl2, decide_eq_true hl3, decide_eq_false hl4]; simp only [Bool.false_and, Bool.and_false]; rfl)
      have HE : Hid (R = 3) := HX
      go_wp2_with fail
      go_ret
      exact ⟨by rw [HE.out] <;> rfl, d3⟩
    have hm4_ : au.length ≤ 8 := by omega
    have hk4_ : ¬ (8 : Int) < (au.length : Int) := by omega
    have hj4_ : ¬ 8 < au.length := by omega
    by_cases hl5 : (as_.length : Int) ≤ 8
    rotate_left
    · have hn_ : ¬ as_.length ≤ 8 := by omega
      have hn2_ : 8 < as_.length := by omega
      have hn3_ : (8 : Int) < (as_.length : Int) := by omega
      have HX : Hid (R = 3) := Lib.hid (by rw [HV0.out, decide_eq_true hl0, decide_eq_true hl1, decide_eq_true hl2, decide_eq_true hl3, decide_eq_true hl4, decide_eq_false hl5]; simp only [Bool.false_and, Bool.and_false]; rfl)
      have HE : Hid (R = 3) := HX
      go_wp2_with fail
      go_ret
      exact ⟨by rw [HE.out] <;> rfl, d3⟩
    have hm5_ : as_.length ≤ 8 := by omega
    have hk5_ : ¬ (8 : Int) < (as_.length : Int) := by omega
    have hj5_ : ¬ 8 < as_.length := by omega
    by_cases hl6 : (en_.length : Int) ≤ 8
    rotate_left
    · have hn_ : ¬ en_.length ≤ 8 := by omega
      have hn2_ : 8 < en_.length := by omega
      have hn3_ : (8 : Int) < (en_.length : Int) := by omega
      have HX : Hid (R = 3) := Lib.hid (by rw [HV0.out, decide_eq_true hl0, decide_eq_true hl1, decide_eq_true hl2, decide_eq_true hl3, decide_eq_true hl4, decide_eq_true hl5, decide_eq_false hl6]; simp only [Bool.false_and, Bool.and_false]; rfl)
      have HE : Hid (R = 3) := HX
      go_wp2_with fail
      go_ret
      exact ⟨by rw [HE.out] <;> rfl, d3⟩
    have hm6_ : en_.length ≤ 8 := by omega
    have hk6_ : ¬ (8 : Int) < (en_.length : Int) := by omega
    have hj6_ : ¬ 8 < en_.length := by omega
    replace HV0 : Hid (R = ore (limE (decide ((0 : Int) < (ou.length : Int))) 8) (ore (firstE (declE el true) in_) (ore (firstE (declE el true) ou) (ore (firstE (declE el false) lo) 0)))) := by show _ = _; rw [HV0.out, decide_eq_true hl0, decide_eq_true hl1, decide_eq_true hl2, decide_eq_true hl3, decide_eq_true hl4, decide_eq_true hl5, decide_eq_true hl6]; rfl
    by_cases hc11 : (0 : Int) < (ou.length : Int)
    rotate_left
    · have hzB_ : ((ou.length : Int) == 0) = true := by rw [beq_iff_eq]; omega
      have HX : Hid (R = 8) := Lib.hid (HV0.out.trans ((congrArg (fun b => ore (limE b 8) _) (decide_eq_false hc11)).trans (ore_no (show limE false 8 ≠ 0 by decide))))
      have HE : Hid (R = 8) := HX
      go_wp2_with fail
      go_ret
      exact ⟨by rw [HE.out] <;> rfl, d3⟩
    replace HV0 := Lib.hid (HV0.out.trans ((congrArg (fun b => ore (limE b 8) _) (decide_eq_true hc11)).trans (ore_yes (show limE true 8 = 0 from rfl))))
    have hzB_ : ((ou.length : Int) == 0) = false := by rw [beq_eq_false_iff_ne]; omega
    obtain ⟨x12, hx12⟩ : ∃ x, firstE (declE el true) in_ = x := ⟨_, rfl⟩
    have G12 : Gives w3 32 #[.slice eA el.length ec, .slice inA in_.length inc, .bool true] (.int .i64 x12) := fun U hU => (hx12 ▸ rdecls_e HEN.out HY.out.r1 U (after_after (after_after hw d3) hU)).mono fun e w' h => ⟨h.1, @After.is_more _ _ h.2⟩
    rw [hx12] at HV0
    clear hx12
    go_wp2_with fail
    refine (Gives.on G12 _ inferInstance).mono ?_
    rintro e w13 ⟨rfl, hy_⟩
    have c13_ : After w3 w13 := after_of_more hy_ inferInstance
    clear hy_
    have d13 : After w w13 := after_after d3 c13_
    have b13 : After W1 w13 := after_after (b3) c13_
    clear k0 k1 k2 k3 k4 k5 k6 k7 kl
    obtain ⟨k0, k1, k2, k3, k4, k5, k6, k7, kl⟩ := HK.out w13 (b13)
    by_cases hE : x12 = 0
    rotate_left
    · have z1 : (x12 == 0) = false := by rw [beq_eq_false_iff_ne]; exact hE
      have z2 : (x12 != 0) = true := by rw [bne, z1]; rfl
      have HX : Hid (R = x12) := Lib.hid (HV0.out.trans (ore_no hE))
      have HE : Hid (R = x12) := HX
      go_wp2_with fail
      go_ret
      exact ⟨by rw [HE.out] <;> rfl, d13⟩
    subst hE
    replace HV0 := Lib.hid (HV0.out.trans (ore_yes rfl))
    clear G12
    obtain ⟨x14, hx14⟩ : ∃ x, firstE (declE el true) ou = x := ⟨_, rfl⟩
    have G14 : Gives w13 32 #[.slice eA el.length ec, .slice ouA ou.length ouc, .bool true] (.int .i64 x14) := fun U hU => (hx14 ▸ rdecls_e HEN.out HY.out.r2 U (after_after (after_after hw d13) hU)).mono fun e w' h => ⟨h.1, @After.is_more _ _ h.2⟩
    rw [hx14] at HV0
    clear hx14
    go_wp2_with fail
    refine (Gives.on G14 _ inferInstance).mono ?_
    rintro e w15 ⟨rfl, hy_⟩
    have c15_ : After w13 w15 := after_of_more hy_ inferInstance
    clear hy_
    have d15 : After w w15 := after_after d13 c15_
    have b15 : After W1 w15 := after_after (b13) c15_
    clear k0 k1 k2 k3 k4 k5 k6 k7 kl
    obtain ⟨k0, k1, k2, k3, k4, k5, k6, k7, kl⟩ := HK.out w15 (b15)
    by_cases hE : x14 = 0
    rotate_left
    · have z1 : (x14 == 0) = false := by rw [beq_eq_false_iff_ne]; exact hE
      have z2 : (x14 != 0) = true := by rw [bne, z1]; rfl
      have HX : Hid (R = x14) := Lib.hid (HV0.out.trans (ore_no hE))
      have HE : Hid (R = x14) := HX
      go_wp2_with fail
      go_ret
      exact ⟨by rw [HE.out] <;> rfl, d15⟩
    subst hE
    replace HV0 := Lib.hid (HV0.out.trans (ore_yes rfl))
    clear G14
    obtain ⟨x16, hx16⟩ : ∃ x, firstE (declE el false) lo = x := ⟨_, rfl⟩
    have G16 : Gives w15 32 #[.slice eA el.length ec, .slice loA lo.length loc, .bool false] (.int .i64 x16) := fun U hU => (hx16 ▸ rdecls_e HEN.out HY.out.r3 U (after_after (after_after hw d15) hU)).mono fun e w' h => ⟨h.1, @After.is_more _ _ h.2⟩
    rw [hx16] at HV0
    clear hx16
    go_wp2_with fail
    refine (Gives.on G16 _ inferInstance).mono ?_
    rintro e w17 ⟨rfl, hy_⟩
    have c17_ : After w15 w17 := after_of_more hy_ inferInstance
    clear hy_
    have d17 : After w w17 := after_after d15 c17_
    have b17 : After W1 w17 := after_after (b15) c17_
    clear k0 k1 k2 k3 k4 k5 k6 k7 kl
    obtain ⟨k0, k1, k2, k3, k4, k5, k6, k7, kl⟩ := HK.out w17 (b17)
    have HE : Hid (R = x16) := Lib.hid (HV0.out.trans (ore_zero _))
    go_wp2_with fail
    go_ret
    exact ⟨by rw [HE.out] <;> rfl, d17⟩
set_option maxRecDepth 100000 in
set_option maxHeartbeats 6400000 in
theorem rtail_any {w0 : World} {eA : Option Addr} {ec : Nat} {el : List EnD} (hen : RowOf 2 PEn w0 ⟨eA, ec, el⟩) {nm : ByteArray} {inA : Option Addr} {inc : Nat} {in_ : List DeclD} {ouA : Option Addr} {ouc : Nat} {ou : List DeclD} {loA : Option Addr} {loc : Nat} {lo : List DeclD} {eqA : Option Addr} {eqc : Nat} {eq : List EqD} {auA : Option Addr} {auc : Nat} {au : List AuT} {asA : Option Addr} {asc : Nat} {as_ : List Tx} {enA : Option Addr} {enc : Nat} {en_ : List Tx} {b p : Nat} (hy : PNd True w0 b p ⟨nm, ⟨inA, inc, in_⟩, ⟨ouA, ouc, ou⟩, ⟨loA, loc, lo⟩, ⟨eqA, eqc, eq⟩, ⟨auA, auc, au⟩, ⟨asA, asc, as_⟩, ⟨enA, enc, en_⟩⟩) (w : World) (hw : After w0 w) :
    Calls Tryz.prog 18 #[.slice eA el.length ec, .agg #[.string nm, .slice inA in_.length inc, .slice ouA ou.length ouc, .slice loA lo.length loc, .slice eqA eq.length eqc, .slice auA au.length auc, .slice asA as_.length asc, .slice enA en_.length enc]] w fun e w' => e = .returned (.int .i64 (tailE el ⟨nm, ⟨inA, inc, in_⟩, ⟨ouA, ouc, ou⟩, ⟨loA, loc, lo⟩, ⟨eqA, eqc, eq⟩, ⟨auA, auc, au⟩, ⟨asA, asc, as_⟩, ⟨enA, enc, en_⟩⟩)) ∧ After w w' := by
  obtain ⟨R, hR⟩ : ∃ R, tailE el ⟨nm, ⟨inA, inc, in_⟩, ⟨ouA, ouc, ou⟩, ⟨loA, loc, lo⟩, ⟨eqA, eqc, eq⟩, ⟨auA, auc, au⟩, ⟨asA, asc, as_⟩, ⟨enA, enc, en_⟩⟩ = R := ⟨_, rfl⟩
  have HV0 : Hid (R = ore (firstE (auE el 0) au) (ore (firstE (exE el) as_) (ore (firstE (exE el) en_) 0))) := by
    show _ = _
    rw [← hR]
    rw [ore_zero]; rfl
  rw [hR]
  clear hR
  have HEN := Lib.hid hen
  have hel := hen.len
  simp only [] at hel
  clear hen
  have HY := Lib.hid hy
  have hl5_ := hy.r5.len
  have hl6_ := hy.r6.len
  have hl7_ := hy.r7.len
  simp only [] at hl5_ hl6_ hl7_
  clear hy
  obtain ⟨gb, hgb⟩ : ∃ g, w.heap.size = g := ⟨_, rfl⟩
  obtain ⟨W1, hW1, a1, HK⟩ : ∃ W, w.alloc (.cells #[.string nm, .slice inA in_.length inc, .slice ouA ou.length ouc, .slice loA lo.length loc, .slice eqA eq.length eqc, .slice auA au.length auc, .slice asA as_.length asc, .slice enA en_.length enc] 52) = W ∧ After w W ∧ Hid (∀ U : World, After W U → U.cell? ⟨gb, 0, none⟩ = some (.string nm) ∧ U.cell? ⟨gb, 1, none⟩ = some (.slice inA in_.length inc) ∧ U.cell? ⟨gb, 2, none⟩ = some (.slice ouA ou.length ouc) ∧ U.cell? ⟨gb, 3, none⟩ = some (.slice loA lo.length loc) ∧ U.cell? ⟨gb, 4, none⟩ = some (.slice eqA eq.length eqc) ∧ U.cell? ⟨gb, 5, none⟩ = some (.slice auA au.length auc) ∧ U.cell? ⟨gb, 6, none⟩ = some (.slice asA as_.length asc) ∧ U.cell? ⟨gb, 7, none⟩ = some (.slice enA en_.length enc) ∧ Le (gb + 1) U) := by
    refine ⟨_, rfl, inferInstance, fun U hU => ?_⟩
    have y0 := (Blk.new w 52 #[.string nm, .slice inA in_.length inc, .slice ouA ou.length ouc, .slice loA lo.length loc, .slice eqA eq.length eqc, .slice auA au.length auc, .slice asA as_.length asc, .slice enA en_.length enc]).after (w' := U)
    rw [hgb] at y0
    exact ⟨(y0.cell 0).trans rfl, (y0.cell 1).trans rfl, (y0.cell 2).trans rfl, (y0.cell 3).trans rfl, (y0.cell 4).trans rfl, (y0.cell 5).trans rfl, (y0.cell 6).trans rfl, (y0.cell 7).trans rfl, y0.is_le⟩
  obtain ⟨k0, k1, k2, k3, k4, k5, k6, k7, kl⟩ := HK.out W1 (after_refl _)
  have dBW1 := a1
  go_enter Tryz.func18, Tryz.ntmps18
  go_wp2_with fail
  try rw [hW1]
  try rw [hgb]
  clear hW1 hgb
  go_loopw [5] (fun i wr => ∃ x : Nat, x ≤ au.length ∧ i = .int .i64 (x : Nat) ∧ Hid (firstE (auE el 0) (au.take x) = 0) ∧ After W1 wr) (fun i _ => au.length - (intOf i).toNat)
  case atStart => exact ⟨0, by omega, rfl, Lib.hid (by simp [firstE]), after_refl W1⟩
  case round =>
    obtain ⟨x, hx, rfl, HJx, arx⟩ := hrel
    have drx : After w wr := after_after dBW1 arx
    obtain ⟨rx, hrx⟩ : ∃ r, wr = r := ⟨_, rfl⟩
    rw [hrx] at arx drx ⊢
    clear hrx wr
    clear k0 k1 k2 k3 k4 k5 k6 k7 kl
    obtain ⟨k0, k1, k2, k3, k4, k5, k6, k7, kl⟩ := HK.out rx (arx)
    by_cases hltx : x < au.length
    · have hltxI : (x : Int) < (au.length : Int) := by omega
      obtain ⟨bx, px, yx, rfl, hlex, HYx, hPx⟩ := (HY.out.r5.aus rx (k := after_after hw drx)).part (i := x) hltx
      obtain ⟨xA, xc, xl⟩ := yx
      obtain ⟨_, _, HPx_⟩ := HY.out.r5.elem (i := x) HYx.out
      have HPx := Lib.hid HPx_
      have y0 : rx.cell? ⟨bx, px + x, none⟩ = some (.slice xA xl.length xc) := by have := hPx.1; rwa [Nat.mul_one] at this
      clear HPx_ hPx
      have HS1 : Hid ((auE el 0 (.mk xA xc xl)) ≠ 0 → R = (auE el 0 (.mk xA xc xl))) := Lib.hid fun h => by
        have h1 := firstE_stop (auE el 0) HYx.out HJx.out h
        have h2 : R = (auE el 0 (.mk xA xc xl)) := HV0.out.trans ((ore_no (by rw [h1]; exact h)).trans h1)
        exact h2
      have HV1 : Hid ((auE el 0 (.mk xA xc xl)) = ore (auE el 0 (.mk xA xc xl)) 0) := Lib.hid (ore_zero _).symm
      have HNx : Hid ((auE el 0 (.mk xA xc xl)) = 0 → firstE (auE el 0) (au.take (x + 1)) = 0) := Lib.hid fun h => (firstE_take (auE el 0) HYx.out HJx.out).trans h
      obtain ⟨X1, hX_⟩ : ∃ X, X = (auE el 0 (.mk xA xc xl)) := ⟨_, rfl⟩
      replace HV1 := Lib.hid (hX_.trans HV1.out)
      rw [← hX_] at HS1 HNx
      clear hX_
      obtain ⟨x2, hx2⟩ : ∃ x, auE el 0 (.mk xA xc xl) = x := ⟨_, rfl⟩
      have G2 : Gives rx 34 #[.slice eA el.length ec, .agg #[.slice xA xl.length xc], .int .i64 0] (.int .i64 x2) := fun U hU => (hx2 ▸ rauto_n HEN.out 3 0 (by omega) xA xc xl HPx.out.2 U (after_after (after_after hw drx) hU)).mono fun e w' h => ⟨h.1, @After.is_more _ _ h.2⟩
      rw [hx2] at HV1
      clear hx2
      go_wp2_with fail
      refine (Gives.on G2 _ inferInstance).mono ?_
      rintro e w3 ⟨rfl, hy_⟩
      have c3_ : After rx w3 := after_of_more hy_ inferInstance
      clear hy_
      have d3 : After w w3 := after_after drx c3_
      have b3 : After W1 w3 := after_after (arx) c3_
      clear k0 k1 k2 k3 k4 k5 k6 k7 kl
      obtain ⟨k0, k1, k2, k3, k4, k5, k6, k7, kl⟩ := HK.out w3 (b3)
      by_cases hE : x2 = 0
      rotate_left
      · have z1 : (x2 == 0) = false := by rw [beq_eq_false_iff_ne]; exact hE
        have z2 : (x2 != 0) = true := by rw [bne, z1]; rfl
        have HX : Hid (X1 = x2) := Lib.hid (HV1.out.trans (ore_no hE))
        have HE : Hid (R = x2) := Lib.hid ((HS1.out (by rw [HX.out]; exact hE)).trans HX.out)
        go_wp2_with fail
        go_ret
        exact ⟨by rw [HE.out] <;> rfl, d3⟩
      subst hE
      replace HV1 := Lib.hid (HV1.out.trans (ore_yes rfl))
      clear G2
      go_wp2_with fail
      go_roundw
      case rel => exact ⟨x + 1, by omega, by go_num, Lib.hid (HNx.out HV1.out), b3⟩
      case measure => simp only [intOf]; omega
    · replace HV0 := Lib.hid (HV0.out.trans (ore_yes (firstE_all (auE el 0) hltx HJx.out)))
      go_wp2_with fail
      go_loopw [7] (fun i wr => ∃ m : Nat, m ≤ as_.length ∧ i = .int .i64 (m : Nat) ∧ Hid (firstE (exE el) (as_.take m) = 0) ∧ After W1 wr) (fun i _ => as_.length - (intOf i).toNat)
      case atStart => exact ⟨0, by omega, rfl, Lib.hid (by simp [firstE]), arx⟩
      case round =>
        obtain ⟨m, hm, rfl, HJm, arm⟩ := hrel
        have drm : After w wr := after_after dBW1 arm
        obtain ⟨rm, hrm⟩ : ∃ r, wr = r := ⟨_, rfl⟩
        rw [hrm] at arm drm ⊢
        clear hrm wr
        clear k0 k1 k2 k3 k4 k5 k6 k7 kl
        obtain ⟨k0, k1, k2, k3, k4, k5, k6, k7, kl⟩ := HK.out rm (arm)
        by_cases hltm : m < as_.length
        · have hltmI : (m : Int) < (as_.length : Int) := by omega
          obtain ⟨bm, pm, ym, rfl, hlem, HYm, hPm⟩ := (HY.out.r6.txs rm (k := after_after hw drm)).part (i := m) hltm
          obtain ⟨k, o, t, v, s, A, c, xs⟩ := ym
          obtain ⟨_, _, HPm_⟩ := HY.out.r6.elem (i := m) HYm.out
          have HPm := Lib.hid HPm_
          obtain ⟨z0, z1, z2, z3, z4, z5⟩ := hPm.six
          simp only [Tx.kind, Tx.op, Tx.ty, Tx.va, Tx.name, Tx.ad, Tx.args, Tx.cap] at z0 z1 z2 z3 z4 z5
          clear HPm_ hPm
          have HS1 : Hid ((exE el (.mk k o t v s A c xs)) ≠ 0 → R = (exE el (.mk k o t v s A c xs))) := Lib.hid fun h => by
            have h1 := firstE_stop (exE el) HYm.out HJm.out h
            have h2 : R = (exE el (.mk k o t v s A c xs)) := HV0.out.trans ((ore_no (by rw [h1]; exact h)).trans h1)
            exact h2
          have HV1 : Hid ((exE el (.mk k o t v s A c xs)) = ore (exE el (.mk k o t v s A c xs)) 0) := Lib.hid (ore_zero _).symm
          have HNm : Hid ((exE el (.mk k o t v s A c xs)) = 0 → firstE (exE el) (as_.take (m + 1)) = 0) := Lib.hid fun h => (firstE_take (exE el) HYm.out HJm.out).trans h
          obtain ⟨X1, hX_⟩ : ∃ X, X = (exE el (.mk k o t v s A c xs)) := ⟨_, rfl⟩
          replace HV1 := Lib.hid (hX_.trans HV1.out)
          rw [← hX_] at HS1 HNm
          clear hX_
          obtain ⟨x4, hx4⟩ : ∃ x, exE el (.mk k o t v s A c xs) = x := ⟨_, rfl⟩
          have G4 : Gives rm 33 #[.slice eA el.length ec, .agg #[.int .i64 k, .int .i64 o, .int .i64 t, .int .i64 v, .string s, .slice A xs.length c]] (.int .i64 x4) := fun U hU => (hx4 ▸ rexpr_any (x := ⟨eA, ec, el⟩) HEN.out (HPm.out.sz trivial) HPm.out.rx HPm.out.tb U (after_after (after_after hw drm) hU)).mono fun e w' h => ⟨h.1, @After.is_more _ _ h.2⟩
          rw [hx4] at HV1
          clear hx4
          go_wp2_with fail
          refine (Gives.on G4 _ inferInstance).mono ?_
          rintro e w5 ⟨rfl, hy_⟩
          have c5_ : After rm w5 := after_of_more hy_ inferInstance
          clear hy_
          have d5 : After w w5 := after_after drm c5_
          have b5 : After W1 w5 := after_after (arm) c5_
          clear k0 k1 k2 k3 k4 k5 k6 k7 kl
          obtain ⟨k0, k1, k2, k3, k4, k5, k6, k7, kl⟩ := HK.out w5 (b5)
          by_cases hE : x4 = 0
          rotate_left
          · have z1 : (x4 == 0) = false := by rw [beq_eq_false_iff_ne]; exact hE
            have z2 : (x4 != 0) = true := by rw [bne, z1]; rfl
            have HX : Hid (X1 = x4) := Lib.hid (HV1.out.trans (ore_no hE))
            have HE : Hid (R = x4) := Lib.hid ((HS1.out (by rw [HX.out]; exact hE)).trans HX.out)
            go_wp2_with fail
            go_ret
            exact ⟨by rw [HE.out] <;> rfl, d5⟩
          subst hE
          replace HV1 := Lib.hid (HV1.out.trans (ore_yes rfl))
          clear G4
          go_wp2_with fail
          go_roundw
          case rel => exact ⟨m + 1, by omega, by go_num, Lib.hid (HNm.out HV1.out), b5⟩
          case measure => simp only [intOf]; omega
        · replace HV0 := Lib.hid (HV0.out.trans (ore_yes (firstE_all (exE el) hltm HJm.out)))
          go_wp2_with fail
          go_loopw [9] (fun i wr => ∃ q : Nat, q ≤ en_.length ∧ i = .int .i64 (q : Nat) ∧ Hid (firstE (exE el) (en_.take q) = 0) ∧ After W1 wr) (fun i _ => en_.length - (intOf i).toNat)
          case atStart => exact ⟨0, by omega, rfl, Lib.hid (by simp [firstE]), arm⟩
          case round =>
            obtain ⟨q, hq, rfl, HJq, arq⟩ := hrel
            have drq : After w wr := after_after dBW1 arq
            obtain ⟨rq, hrq⟩ : ∃ r, wr = r := ⟨_, rfl⟩
            rw [hrq] at arq drq ⊢
            clear hrq wr
            clear k0 k1 k2 k3 k4 k5 k6 k7 kl
            obtain ⟨k0, k1, k2, k3, k4, k5, k6, k7, kl⟩ := HK.out rq (arq)
            by_cases hltq : q < en_.length
            · have hltqI : (q : Int) < (en_.length : Int) := by omega
              obtain ⟨bq, pq, yq, rfl, hleq, HYq, hPq⟩ := (HY.out.r7.txs rq (k := after_after hw drq)).part (i := q) hltq
              obtain ⟨k, o, t, v, s, A, c, xs⟩ := yq
              obtain ⟨_, _, HPq_⟩ := HY.out.r7.elem (i := q) HYq.out
              have HPq := Lib.hid HPq_
              obtain ⟨z0, z1, z2, z3, z4, z5⟩ := hPq.six
              simp only [Tx.kind, Tx.op, Tx.ty, Tx.va, Tx.name, Tx.ad, Tx.args, Tx.cap] at z0 z1 z2 z3 z4 z5
              clear HPq_ hPq
              have HS1 : Hid ((exE el (.mk k o t v s A c xs)) ≠ 0 → R = (exE el (.mk k o t v s A c xs))) := Lib.hid fun h => by
                have h1 := firstE_stop (exE el) HYq.out HJq.out h
                have h2 : R = (exE el (.mk k o t v s A c xs)) := HV0.out.trans ((ore_no (by rw [h1]; exact h)).trans h1)
                exact h2
              have HV1 : Hid ((exE el (.mk k o t v s A c xs)) = ore (exE el (.mk k o t v s A c xs)) 0) := Lib.hid (ore_zero _).symm
              have HNq : Hid ((exE el (.mk k o t v s A c xs)) = 0 → firstE (exE el) (en_.take (q + 1)) = 0) := Lib.hid fun h => (firstE_take (exE el) HYq.out HJq.out).trans h
              obtain ⟨X1, hX_⟩ : ∃ X, X = (exE el (.mk k o t v s A c xs)) := ⟨_, rfl⟩
              replace HV1 := Lib.hid (hX_.trans HV1.out)
              rw [← hX_] at HS1 HNq
              clear hX_
              obtain ⟨x6, hx6⟩ : ∃ x, exE el (.mk k o t v s A c xs) = x := ⟨_, rfl⟩
              have G6 : Gives rq 33 #[.slice eA el.length ec, .agg #[.int .i64 k, .int .i64 o, .int .i64 t, .int .i64 v, .string s, .slice A xs.length c]] (.int .i64 x6) := fun U hU => (hx6 ▸ rexpr_any (x := ⟨eA, ec, el⟩) HEN.out (HPq.out.sz trivial) HPq.out.rx HPq.out.tb U (after_after (after_after hw drq) hU)).mono fun e w' h => ⟨h.1, @After.is_more _ _ h.2⟩
              rw [hx6] at HV1
              clear hx6
              go_wp2_with fail
              refine (Gives.on G6 _ inferInstance).mono ?_
              rintro e w7 ⟨rfl, hy_⟩
              have c7_ : After rq w7 := after_of_more hy_ inferInstance
              clear hy_
              have d7 : After w w7 := after_after drq c7_
              have b7 : After W1 w7 := after_after (arq) c7_
              clear k0 k1 k2 k3 k4 k5 k6 k7 kl
              obtain ⟨k0, k1, k2, k3, k4, k5, k6, k7, kl⟩ := HK.out w7 (b7)
              by_cases hE : x6 = 0
              rotate_left
              · have z1 : (x6 == 0) = false := by rw [beq_eq_false_iff_ne]; exact hE
                have z2 : (x6 != 0) = true := by rw [bne, z1]; rfl
                have HX : Hid (X1 = x6) := Lib.hid (HV1.out.trans (ore_no hE))
                have HE : Hid (R = x6) := Lib.hid ((HS1.out (by rw [HX.out]; exact hE)).trans HX.out)
                go_wp2_with fail
                go_ret
                exact ⟨by rw [HE.out] <;> rfl, d7⟩
              subst hE
              replace HV1 := Lib.hid (HV1.out.trans (ore_yes rfl))
              clear G6
              go_wp2_with fail
              go_roundw
              case rel => exact ⟨q + 1, by omega, by go_num, Lib.hid (HNq.out HV1.out), b7⟩
              case measure => simp only [intOf]; omega
            · replace HV0 := Lib.hid (HV0.out.trans (ore_yes (firstE_all (exE el) hltq HJq.out)))
              have HE : Hid (R = 0) := HV0
              go_wp2_with fail
              go_ret
              exact ⟨by rw [HE.out] <;> rfl, drq⟩
end Go.Proofs.YtdghfhnkacfahaaGreat
