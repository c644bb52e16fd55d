/-
  Contracts: look's decls (printed by gen_lkd.py).
-/
import Derived.Test.YtdghfhnkacfahaaSLk
import Derived.Test.YtdghfhnkacfahaaSTail
import Derived.BigQuiet
set_option linter.unusedVariables false
set_option linter.unusedSimpArgs false
namespace Go.Proofs.Ytdghfhnkacfahaa
open Go.RowKit Go.BigFrame
set_option maxRecDepth 100000 in
set_option maxHeartbeats 3200000 in
theorem ldecls_any {w0 : World} {g nd q} {en : Lst EnD} (h : Look w0 g en.A en.l.length en.c nd q) (hen : RowOf 2 PEn w0 en) (x : Lst DeclD) (hx : RowOf 3 PDecl w0 x) (port : Bool) (w : World) (hw : After w0 w) :
    Calls Try.prog 69 #[.pointer (some ⟨g, 0, none⟩), .slice x.A x.l.length x.c, .bool port] w fun e w' => PE w nd q (declsE en.l port x.l) e w' := by
  have HI : Hid (∀ s : ByteArray, s.size ≤ 140737488355328 → ∀ U, After w0 U → Calls Try.prog 68 #[.pointer (some ⟨g, 0, none⟩), .string s] U fun e w' => PE U nd q (identE s) e w') := fun s hs U hU => lident_any h s hs U hU
  have HM : Hid (∀ b e, e ≠ 0 → ∀ U, After w0 U → Calls Try.prog 33 #[.pointer (some ⟨g, 0, none⟩), .bool b, .int .i64 e] U fun e' w' => PE U nd q (limE b e) e' w') := fun b e he U hU => must_any (h.here U (k := hU)) b e he
  obtain ⟨eA, ec, el⟩ := en
  simp only [] at h ⊢
  have HZ : Hid (∀ t : Int, t ≤ 9223372036854775807 → ∀ U, After w0 U → Calls Try.prog 41 #[.slice eA el.length ec, .int .i64 t] U fun e w' => e = .returned (.int .i64 (sizeV el t : Nat)) ∧ ∃ z, w' = U.more z) := fun t ht U hU => (vsize_any hen U hU t ht).mono fun e w_ h_ => ⟨h_.1, have := h_.2; After.is_more _ _⟩
  have HH : Hid (∀ t v : Int, t ≤ 9223372036854775807 → ∀ U, After w0 U → Calls Try.prog 42 #[.slice eA el.length ec, .int .i64 t, .int .i64 v] U fun e w' => e = .returned (.bool (hasV el t v)) ∧ ∃ z, w' = U.more z) := fun t v ht U hU => (vhas_any hen U hU t v ht).mono fun e w_ h_ => ⟨h_.1, have := h_.2; After.is_more _ _⟩
  obtain ⟨R, hR⟩ : ∃ R, declsE el port x.l = R := ⟨_, rfl⟩
  have HV0 : Hid (R = ore (firstE (declE el port) x.l) 0) := by
    show _ = _
    rw [← hR, ore_zero]; rfl
  rw [hR]
  have HL : Hid (∀ U, After w0 U → U.cell? ⟨g, 0, none⟩ = some (.slice eA el.length ec) ∧ Le (g + 1) U) := fun U hU => ⟨(h.here U (k := hU)).fields.1, (h.here U (k := hU)).fields.2.2.2⟩
  obtain ⟨A1, c1, l⟩ := x
  simp only [] at HV0 ⊢
  have XX := Lib.hid hx
  have hbl := hx.len
  simp only [] at hbl
  have dBw := after_refl w
  have HK : Hid (∀ U : World, After w U → U.cell? ⟨g, 0, none⟩ = some (.slice eA el.length ec) ∧ Le (g + 1) U) := fun U hU => HL.out U (after_after hw hU)
  obtain ⟨l0, ll⟩ := HK.out w (after_refl _)
  clear hR h hx hen
  cases port with
  | false =>
    go_enter Try.func69, Try.ntmps69
    go_wp2_with fail
    go_loopw [12] (fun i wr => ∃ j : Nat, j ≤ l.length ∧ i = .int .i64 (j : Nat) ∧ Hid (firstE (declE el false) (l.take j) = 0) ∧ After w wr) (fun i _ => l.length - (intOf i).toNat)
    case atStart => exact ⟨0, by omega, rfl, Lib.hid (by simp [firstE]), after_refl w⟩
    case round =>
      obtain ⟨j, hj, rfl, HJj, arj⟩ := hrel
      have drj : After w wr := after_after dBw arj
      obtain ⟨rj, hrj⟩ : ∃ r, wr = r := ⟨_, rfl⟩
      rw [hrj] at arj drj ⊢
      clear hrj wr
      clear l0 ll
      obtain ⟨l0, ll⟩ := HK.out rj (arj)
      by_cases hltj : j < l.length
      · have hltjI : (j : Int) < (l.length : Int) := by omega
        obtain ⟨bj, pj, yj, rfl, hlej, HYj, hPj⟩ := (XX.out.decls rj (k := after_after hw drj)).part (i := j) hltj
        obtain ⟨nm, ty, cA, cc, cl⟩ := yj
        have y0 := hPj.c0
        have y1 := hPj.c1
        have y2 := hPj.c2
        have hn := hPj.nm
        have htb := hPj.tb
        have HCL := Lib.hid (hPj.cl.below pon_keeps (Below.refl _ _))
        have hcl := hPj.cl.len
        simp only [] at y0 y1 y2 hn htb hcl
        have HZ1 := Lib.hid (HZ.out ty htb)
        obtain ⟨sz, hsz⟩ : ∃ z, sizeV el ty = z := ⟨_, rfl⟩
        rw [hsz] at HZ1
        clear hPj
        have HS1 : Hid ((declE el false ⟨nm, ty, ⟨cA, cc, cl⟩⟩) ≠ 0 → R = (declE el false ⟨nm, ty, ⟨cA, cc, cl⟩⟩)) := Lib.hid fun h => by
          have h1 := firstE_stop (declE el false) HYj.out HJj.out h
          have h2 : R = (declE el false ⟨nm, ty, ⟨cA, cc, cl⟩⟩) := HV0.out.trans ((ore_no (by rw [h1]; exact h)).trans h1)
          exact h2
        have HV1 : Hid ((declE el false ⟨nm, ty, ⟨cA, cc, cl⟩⟩) = ore (identE nm) (ore (limE (decide ((0 : Int) < (sz : Int))) 10) (ore (limE (!false || (cl.length : Int) == 0) 11) (ore (limE (decide ((cl.length : Int) ≤ 4)) 3) (ore (firstE (onE el) cl) 0))))) := by show _ = _; rw [ore_zero, ← hsz]; rfl
        have HNj : Hid ((declE el false ⟨nm, ty, ⟨cA, cc, cl⟩⟩) = 0 → firstE (declE el false) (l.take (j + 1)) = 0) := Lib.hid fun h => (firstE_take (declE el false) HYj.out HJj.out).trans h
        obtain ⟨X1, hX_⟩ : ∃ X, X = (declE el false ⟨nm, ty, ⟨cA, cc, cl⟩⟩) := ⟨_, rfl⟩
        replace HV1 := Lib.hid (hX_.trans HV1.out)
        rw [← hX_] at HS1 HNj
        clear hX_
        obtain ⟨g2, hg2⟩ : ∃ g, rj.heap.size = g := ⟨_, rfl⟩
        obtain ⟨W2, hW2, HK2, a2_⟩ : ∃ W, rj.alloc (.cells #[.string nm, .int .i64 ty, .slice cA cl.length cc] 83) = W ∧ Hid (∀ U : World, After W U → U.cell? ⟨g2, 0, none⟩ = some (.string nm) ∧ U.cell? ⟨g2, 1, none⟩ = some (.int .i64 ty) ∧ U.cell? ⟨g2, 2, none⟩ = some (.slice cA cl.length cc) ∧ Le (g2 + 1) U ∧ U.cell? ⟨g, 0, none⟩ = some (.slice eA el.length ec) ∧ Le (g + 1) U) ∧ After rj W := by
          refine ⟨_, rfl, fun U hU => ?_, inferInstance⟩
          have y0 := (Blk.new rj 83 #[.string nm, .int .i64 ty, .slice cA cl.length cc]).after (w' := U)
          rw [hg2] at y0
          have q0 : After w0 U := after_after hw (after_after drj (after_after inferInstance hU))
          have q1 : After w U := after_after (arj) (after_after inferInstance hU)
          exact ⟨by rw [y0.cell]; rfl, by rw [y0.cell]; rfl, by rw [y0.cell]; rfl, y0.is_le, (HL.out U q0).1, (HL.out U q0).2⟩
        have d2 : After w W2 := after_after drj a2_
        obtain ⟨k0, k1, k2, m2_, o0_, o1_⟩ := HK2.out W2 (after_refl _)
        go_wp2_with fail
        try rw [hW2]
        try rw [hg2]
        clear hW2 hg2
        clear l0 ll
        obtain ⟨_, _, _, _, l0, ll⟩ := HK2.out W2 (after_refl _)
        clear o0_ o1_
        have dBW2 := d2
        refine (HI.out nm hn W2 (after_after hw d2)).mono ?_
        rintro e w3 hp
        by_cases hE : identE nm = 0
        rotate_left
        · obtain ⟨F, hF, HP⟩ : ∃ F, e = pan nd q F ∧ Hid (PE w nd q R (pan nd q F) w3) := by
            obtain ⟨rfl, c3_⟩ := hp.of1 hE
            have HX : Hid (X1 = identE nm) := Lib.hid (HV1.out.trans (ore_no hE))
            have HE : Hid (R = identE nm) := Lib.hid ((HS1.out (by rw [HX.out]; exact hE)).trans HX.out)
            exact ⟨_, rfl, Lib.hid (by rw [HE.out]; exact PE.mk1 hE (after_after d2 c3_))⟩
          clear hE hp
          subst hF
          unfold pan
          go_wp2_with fail
          exact ⟨rfl, HP.out⟩
        replace HV1 := Lib.hid (HV1.out.trans (ore_yes hE))
        obtain ⟨rfl, c3_⟩ := hp.ofz hE
        have d3 : After w w3 := after_after d2 c3_
        have b3 : After W2 w3 := after_after (after_refl W2) c3_
        clear k0 k1 k2 m2_ l0 ll
        obtain ⟨k0, k1, k2, m2_, l0, ll⟩ := HK2.out w3 (b3)
        clear hE hp
        go_wp2_with fail
        have e0_ : After w0 w3 := after_after hw d3
        refine wp_region_more_tail 9 (by kernel_rfl) (by kernel_rfl) ?_
        simp only [List.take_succ_cons, List.take_zero, List.drop_succ_cons, List.drop_zero]
        repeat (go_big_quiet_step ((go_at_call 41; exact Calls.more_of (HZ1.out _ inferInstance))))
        refine wpQuiet_nil ?_
        rintro _ ⟨y_, rfl⟩
        obtain ⟨w4, hv_, c4_⟩ : ∃ v, w3.more y_ = v ∧ After w3 v := ⟨_, rfl, inferInstance⟩
        rw [hv_]
        clear hv_ e0_
        have d4 : After w w4 := after_after d3 c4_
        have b4 : After W2 w4 := after_after (b3) c4_
        clear k0 k1 k2 m2_ l0 ll
        obtain ⟨k0, k1, k2, m2_, l0, ll⟩ := HK2.out w4 (b4)
        go_wp2_with fail
        refine (HM.out _ 10 (by decide) w4 (after_after hw d4)).mono ?_
        rintro e w5 hp
        replace hp := hp.to (F := limE (decide ((0 : Int) < (sz : Int))) 10) (congrArg (fun b => limE b 10) (decide_eq_decide.2 (by omega)))
        by_cases hE : limE (decide ((0 : Int) < (sz : Int))) 10 = 0
        rotate_left
        · obtain ⟨F, hF, HP⟩ : ∃ F, e = pan nd q F ∧ Hid (PE w nd q R (pan nd q F) w5) := by
            obtain ⟨rfl, c5_⟩ := hp.of1 hE
            have HX : Hid (X1 = limE (decide ((0 : Int) < (sz : Int))) 10) := Lib.hid (HV1.out.trans (ore_no hE))
            have HE : Hid (R = limE (decide ((0 : Int) < (sz : Int))) 10) := Lib.hid ((HS1.out (by rw [HX.out]; exact hE)).trans HX.out)
            exact ⟨_, rfl, Lib.hid (by rw [HE.out]; exact PE.mk1 hE (after_after d4 c5_))⟩
          clear hE hp
          subst hF
          unfold pan
          go_wp2_with fail
          exact ⟨rfl, HP.out⟩
        replace HV1 := Lib.hid (HV1.out.trans (ore_yes hE))
        obtain ⟨rfl, c5_⟩ := hp.ofz hE
        have d5 : After w w5 := after_after d4 c5_
        have b5 : After W2 w5 := after_after (b4) c5_
        clear k0 k1 k2 m2_ l0 ll
        obtain ⟨k0, k1, k2, m2_, l0, ll⟩ := HK2.out w5 (b5)
        clear hE hp
        go_wp2_with fail
        refine (HM.out true 11 (by decide) w5 (after_after hw d5)).mono ?_
        rintro e w6 hp
        replace hp := hp.to (F := limE true 11) (rfl)
        by_cases hE : limE true 11 = 0
        rotate_left
        · obtain ⟨F, hF, HP⟩ : ∃ F, e = pan nd q F ∧ Hid (PE w nd q R (pan nd q F) w6) := by
            obtain ⟨rfl, c6_⟩ := hp.of1 hE
            have HX : Hid (X1 = limE true 11) := Lib.hid (HV1.out.trans (ore_no hE))
            have HE : Hid (R = limE true 11) := Lib.hid ((HS1.out (by rw [HX.out]; exact hE)).trans HX.out)
            exact ⟨_, rfl, Lib.hid (by rw [HE.out]; exact PE.mk1 hE (after_after d5 c6_))⟩
          clear hE hp
          subst hF
          unfold pan
          go_wp2_with fail
          exact ⟨rfl, HP.out⟩
        replace HV1 := Lib.hid (HV1.out.trans (ore_yes hE))
        obtain ⟨rfl, c6_⟩ := hp.ofz hE
        have d6 : After w w6 := after_after d5 c6_
        have b6 : After W2 w6 := after_after (b5) c6_
        clear k0 k1 k2 m2_ l0 ll
        obtain ⟨k0, k1, k2, m2_, l0, ll⟩ := HK2.out w6 (b6)
        clear hE hp
        go_wp2_with fail
        refine (HM.out _ 3 (by decide) w6 (after_after hw d6)).mono ?_
        rintro e w7 hp
        replace hp := hp.to (F := limE (decide ((cl.length : Int) ≤ 4)) 3) (congrArg (fun b => limE b 3) (decide_eq_decide.2 (by omega)))
        by_cases hE : limE (decide ((cl.length : Int) ≤ 4)) 3 = 0
        rotate_left
        · obtain ⟨F, hF, HP⟩ : ∃ F, e = pan nd q F ∧ Hid (PE w nd q R (pan nd q F) w7) := by
            obtain ⟨rfl, c7_⟩ := hp.of1 hE
            have HX : Hid (X1 = limE (decide ((cl.length : Int) ≤ 4)) 3) := Lib.hid (HV1.out.trans (ore_no hE))
            have HE : Hid (R = limE (decide ((cl.length : Int) ≤ 4)) 3) := Lib.hid ((HS1.out (by rw [HX.out]; exact hE)).trans HX.out)
            exact ⟨_, rfl, Lib.hid (by rw [HE.out]; exact PE.mk1 hE (after_after d6 c7_))⟩
          clear hE hp
          subst hF
          unfold pan
          go_wp2_with fail
          exact ⟨rfl, HP.out⟩
        replace HV1 := Lib.hid (HV1.out.trans (ore_yes hE))
        obtain ⟨rfl, c7_⟩ := hp.ofz hE
        have d7 : After w w7 := after_after d6 c7_
        have b7 : After W2 w7 := after_after (b6) c7_
        clear k0 k1 k2 m2_ l0 ll
        obtain ⟨k0, k1, k2, m2_, l0, ll⟩ := HK2.out w7 (b7)
        clear hE hp
        go_wp2_with fail
        go_loopw [49] (fun i wr => ∃ m : Nat, m ≤ cl.length ∧ i = .int .i64 (m : Nat) ∧ Hid (firstE (onE el) (cl.take m) = 0) ∧ After W2 wr) (fun i _ => cl.length - (intOf i).toNat)
        case atStart => exact ⟨0, by omega, rfl, Lib.hid (by simp [firstE]), b7⟩
        case round =>
          obtain ⟨m, hm, rfl, HJm, arm⟩ := hrel
          have drm : After w wr := after_after dBW2 arm
          obtain ⟨rm, hrm⟩ : ∃ r, wr = r := ⟨_, rfl⟩
          rw [hrm] at arm drm ⊢
          clear hrm wr
          clear k0 k1 k2 m2_ l0 ll
          obtain ⟨k0, k1, k2, m2_, l0, ll⟩ := HK2.out rm (arm)
          by_cases hltm : m < cl.length
          · have hltmI : (m : Int) < (cl.length : Int) := by omega
            obtain ⟨bm, pm, ym, rfl, hlem, HYm, hPm⟩ := (HCL.out.ons rm (k := after_after a2_ arm)).part (i := m) hltm
            obtain ⟨nm2, t2, tag2⟩ := ym
            have y0 := hPm.c0
            have y1 := hPm.c1
            have y2 := hPm.c2
            have hn2 := hPm.nm
            have ht2b := hPm.tb
            simp only [] at y0 y1 y2 hn2 ht2b
            clear hPm
            have HS2 : Hid ((onE el ⟨nm2, t2, tag2⟩) ≠ 0 → R = (onE el ⟨nm2, t2, tag2⟩)) := Lib.hid fun h => by
              have h1 := firstE_stop (onE el) HYm.out HJm.out h
              have h2 : X1 = (onE el ⟨nm2, t2, tag2⟩) := HV1.out.trans ((ore_no (by rw [h1]; exact h)).trans h1)
              exact (HS1.out (by rw [h2]; exact h)).trans h2
            have HV2 : Hid ((onE el ⟨nm2, t2, tag2⟩) = ore (identE nm2) (ore (limE (!(t2 == 2) && hasV el t2 tag2) 5) 0)) := by show _ = _; rw [ore_zero]; rfl
            have HNm : Hid ((onE el ⟨nm2, t2, tag2⟩) = 0 → firstE (onE el) (cl.take (m + 1)) = 0) := Lib.hid fun h => (firstE_take (onE el) HYm.out HJm.out).trans h
            obtain ⟨X2, hX_⟩ : ∃ X, X = (onE el ⟨nm2, t2, tag2⟩) := ⟨_, rfl⟩
            replace HV2 := Lib.hid (hX_.trans HV2.out)
            rw [← hX_] at HS2 HNm
            clear hX_
            obtain ⟨g8, hg8⟩ : ∃ g, rm.heap.size = g := ⟨_, rfl⟩
            obtain ⟨W8, hW8, HK8, a8_⟩ : ∃ W, rm.alloc (.cells #[.string nm2, .int .i64 t2, .int .i64 tag2] 130) = W ∧ Hid (∀ U : World, After W U → U.cell? ⟨g8, 0, none⟩ = some (.string nm2) ∧ U.cell? ⟨g8, 1, none⟩ = some (.int .i64 t2) ∧ U.cell? ⟨g8, 2, none⟩ = some (.int .i64 tag2) ∧ Le (g8 + 1) U ∧ U.cell? ⟨g, 0, none⟩ = some (.slice eA el.length ec) ∧ Le (g + 1) U) ∧ After rm W := by
              refine ⟨_, rfl, fun U hU => ?_, inferInstance⟩
              have y0 := (Blk.new rm 130 #[.string nm2, .int .i64 t2, .int .i64 tag2]).after (w' := U)
              rw [hg8] at y0
              have q0 : After w0 U := after_after hw (after_after drm (after_after inferInstance hU))
              have q1 : After W2 U := after_after (arm) (after_after inferInstance hU)
              exact ⟨by rw [y0.cell]; rfl, by rw [y0.cell]; rfl, by rw [y0.cell]; rfl, y0.is_le, (HL.out U q0).1, (HL.out U q0).2⟩
            have d8 : After w W8 := after_after drm a8_
            obtain ⟨n0, n1, n2, m8_, o0_, o1_⟩ := HK8.out W8 (after_refl _)
            go_wp2_with fail
            try rw [hW8]
            try rw [hg8]
            clear hW8 hg8
            clear k0 k1 k2 m2_ l0 ll
            obtain ⟨_, _, _, _, l0, ll⟩ := HK8.out W8 (after_refl _)
            clear o0_ o1_
            refine (HI.out nm2 hn2 W8 (after_after hw d8)).mono ?_
            rintro e w9 hp
            by_cases hE : identE nm2 = 0
            rotate_left
            · obtain ⟨F, hF, HP⟩ : ∃ F, e = pan nd q F ∧ Hid (PE w nd q R (pan nd q F) w9) := by
                obtain ⟨rfl, c9_⟩ := hp.of1 hE
                have HX : Hid (X2 = identE nm2) := Lib.hid (HV2.out.trans (ore_no hE))
                have HE : Hid (R = identE nm2) := Lib.hid ((HS2.out (by rw [HX.out]; exact hE)).trans HX.out)
                exact ⟨_, rfl, Lib.hid (by rw [HE.out]; exact PE.mk1 hE (after_after d8 c9_))⟩
              clear hE hp
              subst hF
              unfold pan
              go_wp2_with fail
              exact ⟨rfl, HP.out⟩
            replace HV2 := Lib.hid (HV2.out.trans (ore_yes hE))
            obtain ⟨rfl, c9_⟩ := hp.ofz hE
            have d9 : After w w9 := after_after d8 c9_
            have b9 : After W8 w9 := after_after (after_refl W8) c9_
            clear n0 n1 n2 m8_ l0 ll
            obtain ⟨n0, n1, n2, m8_, l0, ll⟩ := HK8.out w9 (b9)
            clear hE hp
            by_cases ht2 : t2 = 2
            · replace HV2 : Hid (X2 = ore (limE false 5) 0) := by show _ = _; rw [HV2.out, ht2]; rfl
              have hq2 : (t2 == 2) = true := by rw [beq_iff_eq]; exact ht2
              have hq3 : (t2 != 2) = false := by rw [bne, hq2]; rfl
              clear ht2
              go_wp2_with fail
              have e0_ : After w0 w9 := after_after hw d9
              refine wp_region_more_tail 15 (by kernel_rfl) (by kernel_rfl) ?_
              simp only [List.take_succ_cons, List.take_zero, List.drop_succ_cons, List.drop_zero]
              repeat (go_big_quiet_step (fail))
              refine wpQuiet_nil ?_
              rintro _ ⟨y_, rfl⟩
              obtain ⟨w10, hv_, c10_⟩ : ∃ v, w9.more y_ = v ∧ After w9 v := ⟨_, rfl, inferInstance⟩
              rw [hv_]
              clear hv_ e0_
              have d10 : After w w10 := after_after d9 c10_
              have b10 : After W8 w10 := after_after (b9) c10_
              clear n0 n1 n2 m8_ l0 ll
              obtain ⟨n0, n1, n2, m8_, l0, ll⟩ := HK8.out w10 (b10)
              go_wp2_with fail
              refine (HM.out _ 5 (by decide) w10 (after_after hw d10)).mono ?_
              rintro e w11 hp
              replace hp := hp.to (F := limE false 5) (rfl)
              by_cases hE : limE false 5 = 0
              rotate_left
              · obtain ⟨F, hF, HP⟩ : ∃ F, e = pan nd q F ∧ Hid (PE w nd q R (pan nd q F) w11) := by
                  obtain ⟨rfl, c11_⟩ := hp.of1 hE
                  have HX : Hid (X2 = limE false 5) := Lib.hid (HV2.out.trans (ore_no hE))
                  have HE : Hid (R = limE false 5) := Lib.hid ((HS2.out (by rw [HX.out]; exact hE)).trans HX.out)
                  exact ⟨_, rfl, Lib.hid (by rw [HE.out]; exact PE.mk1 hE (after_after d10 c11_))⟩
                clear hE hp
                subst hF
                unfold pan
                go_wp2_with fail
                exact ⟨rfl, HP.out⟩
              exact absurd hE (by decide)
            · have hq2 : (t2 == 2) = false := by rw [beq_eq_false_iff_ne]; exact ht2
              have hq3 : (t2 != 2) = true := by rw [bne, hq2]; rfl
              replace HV2 : Hid (X2 = ore (limE (hasV el t2 tag2) 5) 0) := by show _ = _; rw [HV2.out, hq2]; rfl
              have HC : Hid (∀ U, After w0 U → Calls Try.prog 42 #[.slice eA el.length ec, .int .i64 t2, .int .i64 tag2] U fun e w' => e = .returned (.bool (hasV el t2 tag2)) ∧ ∃ z, w' = U.more z) := fun U hU => HH.out t2 tag2 ht2b U hU
              obtain ⟨hb, hhb⟩ : ∃ b, hasV el t2 tag2 = b := ⟨_, rfl⟩
              rw [hhb] at HC HV2
              clear ht2 hhb
              go_wp2_with fail
              have e0_ : After w0 w9 := after_after hw d9
              refine wp_region_more_tail 15 (by kernel_rfl) (by kernel_rfl) ?_
              simp only [List.take_succ_cons, List.take_zero, List.drop_succ_cons, List.drop_zero]
              repeat (go_big_quiet_step ((go_at_call 42; exact Calls.more_of (HC.out _ inferInstance))))
              refine wpQuiet_nil ?_
              rintro _ ⟨y_, rfl⟩
              obtain ⟨w12, hv_, c12_⟩ : ∃ v, w9.more y_ = v ∧ After w9 v := ⟨_, rfl, inferInstance⟩
              rw [hv_]
              clear hv_ e0_
              have d12 : After w w12 := after_after d9 c12_
              have b12 : After W8 w12 := after_after (b9) c12_
              clear n0 n1 n2 m8_ l0 ll
              obtain ⟨n0, n1, n2, m8_, l0, ll⟩ := HK8.out w12 (b12)
              go_wp2_with fail
              refine (HM.out hb 5 (by decide) w12 (after_after hw d12)).mono ?_
              rintro e w13 hp
              replace hp := hp.to (F := limE hb 5) (rfl)
              by_cases hE : limE hb 5 = 0
              rotate_left
              · obtain ⟨F, hF, HP⟩ : ∃ F, e = pan nd q F ∧ Hid (PE w nd q R (pan nd q F) w13) := by
                  obtain ⟨rfl, c13_⟩ := hp.of1 hE
                  have HX : Hid (X2 = limE hb 5) := Lib.hid (HV2.out.trans (ore_no hE))
                  have HE : Hid (R = limE hb 5) := Lib.hid ((HS2.out (by rw [HX.out]; exact hE)).trans HX.out)
                  exact ⟨_, rfl, Lib.hid (by rw [HE.out]; exact PE.mk1 hE (after_after d12 c13_))⟩
                clear hE hp
                subst hF
                unfold pan
                go_wp2_with fail
                exact ⟨rfl, HP.out⟩
              replace HV2 := Lib.hid (HV2.out.trans (ore_yes hE))
              obtain ⟨rfl, c13_⟩ := hp.ofz hE
              have d13 : After w w13 := after_after d12 c13_
              have b13 : After W8 w13 := after_after (b12) c13_
              clear n0 n1 n2 m8_ l0 ll
              obtain ⟨n0, n1, n2, m8_, l0, ll⟩ := HK8.out w13 (b13)
              clear hE hp
              go_wp2_with fail
              go_roundw
              case rel => exact ⟨m + 1, by omega, by go_num, Lib.hid (HNm.out HV2.out), after_after (arm) (after_after a8_ (b13))⟩
              case measure => simp only [intOf]; omega
          · replace HV1 := Lib.hid (HV1.out.trans (ore_yes (firstE_all (onE el) hltm HJm.out)))
            go_wp2_with fail
            go_roundw
            case rel => exact ⟨j + 1, by omega, by go_num, Lib.hid (HNj.out HV1.out), after_after (arj) (after_after a2_ (arm))⟩
            case measure => simp only [intOf]; omega
      · replace HV0 := Lib.hid (HV0.out.trans (ore_yes (firstE_all (declE el false) hltj HJj.out)))
        go_wp2_with fail
        go_end0
        exact by have hz := HV0.out; rw [hz]; exact PE.mk0 drj
  | true =>
    go_enter Try.func69, Try.ntmps69
    go_wp2_with fail
    go_loopw [12] (fun i wr => ∃ j : Nat, j ≤ l.length ∧ i = .int .i64 (j : Nat) ∧ Hid (firstE (declE el true) (l.take j) = 0) ∧ After w wr) (fun i _ => l.length - (intOf i).toNat)
    case atStart => exact ⟨0, by omega, rfl, Lib.hid (by simp [firstE]), after_refl w⟩
    case round =>
      obtain ⟨j, hj, rfl, HJj, arj⟩ := hrel
      have drj : After w wr := after_after dBw arj
      obtain ⟨rj, hrj⟩ : ∃ r, wr = r := ⟨_, rfl⟩
      rw [hrj] at arj drj ⊢
      clear hrj wr
      clear l0 ll
      obtain ⟨l0, ll⟩ := HK.out rj (arj)
      by_cases hltj : j < l.length
      · have hltjI : (j : Int) < (l.length : Int) := by omega
        obtain ⟨bj, pj, yj, rfl, hlej, HYj, hPj⟩ := (XX.out.decls rj (k := after_after hw drj)).part (i := j) hltj
        obtain ⟨nm, ty, cA, cc, cl⟩ := yj
        have y0 := hPj.c0
        have y1 := hPj.c1
        have y2 := hPj.c2
        have hn := hPj.nm
        have htb := hPj.tb
        have HCL := Lib.hid (hPj.cl.below pon_keeps (Below.refl _ _))
        have hcl := hPj.cl.len
        simp only [] at y0 y1 y2 hn htb hcl
        have HZ1 := Lib.hid (HZ.out ty htb)
        obtain ⟨sz, hsz⟩ : ∃ z, sizeV el ty = z := ⟨_, rfl⟩
        rw [hsz] at HZ1
        clear hPj
        have HS1 : Hid ((declE el true ⟨nm, ty, ⟨cA, cc, cl⟩⟩) ≠ 0 → R = (declE el true ⟨nm, ty, ⟨cA, cc, cl⟩⟩)) := Lib.hid fun h => by
          have h1 := firstE_stop (declE el true) HYj.out HJj.out h
          have h2 : R = (declE el true ⟨nm, ty, ⟨cA, cc, cl⟩⟩) := HV0.out.trans ((ore_no (by rw [h1]; exact h)).trans h1)
          exact h2
        have HV1 : Hid ((declE el true ⟨nm, ty, ⟨cA, cc, cl⟩⟩) = ore (identE nm) (ore (limE (decide ((0 : Int) < (sz : Int))) 10) (ore (limE (!true || (cl.length : Int) == 0) 11) (ore (limE (decide ((cl.length : Int) ≤ 4)) 3) (ore (firstE (onE el) cl) 0))))) := by show _ = _; rw [ore_zero, ← hsz]; rfl
        have HNj : Hid ((declE el true ⟨nm, ty, ⟨cA, cc, cl⟩⟩) = 0 → firstE (declE el true) (l.take (j + 1)) = 0) := Lib.hid fun h => (firstE_take (declE el true) HYj.out HJj.out).trans h
        obtain ⟨X1, hX_⟩ : ∃ X, X = (declE el true ⟨nm, ty, ⟨cA, cc, cl⟩⟩) := ⟨_, rfl⟩
        replace HV1 := Lib.hid (hX_.trans HV1.out)
        rw [← hX_] at HS1 HNj
        clear hX_
        obtain ⟨g2, hg2⟩ : ∃ g, rj.heap.size = g := ⟨_, rfl⟩
        obtain ⟨W2, hW2, HK2, a2_⟩ : ∃ W, rj.alloc (.cells #[.string nm, .int .i64 ty, .slice cA cl.length cc] 83) = W ∧ Hid (∀ U : World, After W U → U.cell? ⟨g2, 0, none⟩ = some (.string nm) ∧ U.cell? ⟨g2, 1, none⟩ = some (.int .i64 ty) ∧ U.cell? ⟨g2, 2, none⟩ = some (.slice cA cl.length cc) ∧ Le (g2 + 1) U ∧ U.cell? ⟨g, 0, none⟩ = some (.slice eA el.length ec) ∧ Le (g + 1) U) ∧ After rj W := by
          refine ⟨_, rfl, fun U hU => ?_, inferInstance⟩
          have y0 := (Blk.new rj 83 #[.string nm, .int .i64 ty, .slice cA cl.length cc]).after (w' := U)
          rw [hg2] at y0
          have q0 : After w0 U := after_after hw (after_after drj (after_after inferInstance hU))
          have q1 : After w U := after_after (arj) (after_after inferInstance hU)
          exact ⟨by rw [y0.cell]; rfl, by rw [y0.cell]; rfl, by rw [y0.cell]; rfl, y0.is_le, (HL.out U q0).1, (HL.out U q0).2⟩
        have d2 : After w W2 := after_after drj a2_
        obtain ⟨k0, k1, k2, m2_, o0_, o1_⟩ := HK2.out W2 (after_refl _)
        go_wp2_with fail
        try rw [hW2]
        try rw [hg2]
        clear hW2 hg2
        clear l0 ll
        obtain ⟨_, _, _, _, l0, ll⟩ := HK2.out W2 (after_refl _)
        clear o0_ o1_
        have dBW2 := d2
        refine (HI.out nm hn W2 (after_after hw d2)).mono ?_
        rintro e w3 hp
        by_cases hE : identE nm = 0
        rotate_left
        · obtain ⟨F, hF, HP⟩ : ∃ F, e = pan nd q F ∧ Hid (PE w nd q R (pan nd q F) w3) := by
            obtain ⟨rfl, c3_⟩ := hp.of1 hE
            have HX : Hid (X1 = identE nm) := Lib.hid (HV1.out.trans (ore_no hE))
            have HE : Hid (R = identE nm) := Lib.hid ((HS1.out (by rw [HX.out]; exact hE)).trans HX.out)
            exact ⟨_, rfl, Lib.hid (by rw [HE.out]; exact PE.mk1 hE (after_after d2 c3_))⟩
          clear hE hp
          subst hF
          unfold pan
          go_wp2_with fail
          exact ⟨rfl, HP.out⟩
        replace HV1 := Lib.hid (HV1.out.trans (ore_yes hE))
        obtain ⟨rfl, c3_⟩ := hp.ofz hE
        have d3 : After w w3 := after_after d2 c3_
        have b3 : After W2 w3 := after_after (after_refl W2) c3_
        clear k0 k1 k2 m2_ l0 ll
        obtain ⟨k0, k1, k2, m2_, l0, ll⟩ := HK2.out w3 (b3)
        clear hE hp
        go_wp2_with fail
        have e0_ : After w0 w3 := after_after hw d3
        refine wp_region_more_tail 9 (by kernel_rfl) (by kernel_rfl) ?_
        simp only [List.take_succ_cons, List.take_zero, List.drop_succ_cons, List.drop_zero]
        repeat (go_big_quiet_step ((go_at_call 41; exact Calls.more_of (HZ1.out _ inferInstance))))
        refine wpQuiet_nil ?_
        rintro _ ⟨y_, rfl⟩
        obtain ⟨w4, hv_, c4_⟩ : ∃ v, w3.more y_ = v ∧ After w3 v := ⟨_, rfl, inferInstance⟩
        rw [hv_]
        clear hv_ e0_
        have d4 : After w w4 := after_after d3 c4_
        have b4 : After W2 w4 := after_after (b3) c4_
        clear k0 k1 k2 m2_ l0 ll
        obtain ⟨k0, k1, k2, m2_, l0, ll⟩ := HK2.out w4 (b4)
        go_wp2_with fail
        refine (HM.out _ 10 (by decide) w4 (after_after hw d4)).mono ?_
        rintro e w5 hp
        replace hp := hp.to (F := limE (decide ((0 : Int) < (sz : Int))) 10) (congrArg (fun b => limE b 10) (decide_eq_decide.2 (by omega)))
        by_cases hE : limE (decide ((0 : Int) < (sz : Int))) 10 = 0
        rotate_left
        · obtain ⟨F, hF, HP⟩ : ∃ F, e = pan nd q F ∧ Hid (PE w nd q R (pan nd q F) w5) := by
            obtain ⟨rfl, c5_⟩ := hp.of1 hE
            have HX : Hid (X1 = limE (decide ((0 : Int) < (sz : Int))) 10) := Lib.hid (HV1.out.trans (ore_no hE))
            have HE : Hid (R = limE (decide ((0 : Int) < (sz : Int))) 10) := Lib.hid ((HS1.out (by rw [HX.out]; exact hE)).trans HX.out)
            exact ⟨_, rfl, Lib.hid (by rw [HE.out]; exact PE.mk1 hE (after_after d4 c5_))⟩
          clear hE hp
          subst hF
          unfold pan
          go_wp2_with fail
          exact ⟨rfl, HP.out⟩
        replace HV1 := Lib.hid (HV1.out.trans (ore_yes hE))
        obtain ⟨rfl, c5_⟩ := hp.ofz hE
        have d5 : After w w5 := after_after d4 c5_
        have b5 : After W2 w5 := after_after (b4) c5_
        clear k0 k1 k2 m2_ l0 ll
        obtain ⟨k0, k1, k2, m2_, l0, ll⟩ := HK2.out w5 (b5)
        clear hE hp
        by_cases hz0 : cl.length = 0
        rotate_left
        · have hz1 : ((cl.length : Int) == 0) = false := by rw [beq_eq_false_iff_ne]; omega
          have hz3 : (cl.length == 0) = false := by rw [beq_eq_false_iff_ne]; omega
          replace HV1 : Hid (X1 = ore (limE false 11) (ore (limE (decide ((cl.length : Int) ≤ 4)) 3) (ore (firstE (onE el) cl) 0))) := by show _ = _; rw [HV1.out, hz1]; rfl
          clear hz0
          go_wp2_with fail
          refine (HM.out _ 11 (by decide) w5 (after_after hw d5)).mono ?_
          rintro e w6 hp
          replace hp := hp.to (F := limE false 11) (rfl)
          by_cases hE : limE false 11 = 0
          rotate_left
          · obtain ⟨F, hF, HP⟩ : ∃ F, e = pan nd q F ∧ Hid (PE w nd q R (pan nd q F) w6) := by
              obtain ⟨rfl, c6_⟩ := hp.of1 hE
              have HX : Hid (X1 = limE false 11) := Lib.hid (HV1.out.trans (ore_no hE))
              have HE : Hid (R = limE false 11) := Lib.hid ((HS1.out (by rw [HX.out]; exact hE)).trans HX.out)
              exact ⟨_, rfl, Lib.hid (by rw [HE.out]; exact PE.mk1 hE (after_after d5 c6_))⟩
            clear hE hp
            subst hF
            unfold pan
            go_wp2_with fail
            exact ⟨rfl, HP.out⟩
          exact absurd hE (by decide)
        have hz1 : ((cl.length : Int) == 0) = true := by rw [beq_iff_eq]; omega
        have hz3 : (cl.length == 0) = true := by rw [beq_iff_eq]; omega
        replace HV1 : Hid (X1 = ore (limE true 11) (ore (limE (decide ((cl.length : Int) ≤ 4)) 3) (ore (firstE (onE el) cl) 0))) := by show _ = _; rw [HV1.out, hz1]; rfl
        clear hz0
        go_wp2_with fail
        refine (HM.out true 11 (by decide) w5 (after_after hw d5)).mono ?_
        rintro e w7 hp
        replace hp := hp.to (F := limE true 11) (rfl)
        by_cases hE : limE true 11 = 0
        rotate_left
        · obtain ⟨F, hF, HP⟩ : ∃ F, e = pan nd q F ∧ Hid (PE w nd q R (pan nd q F) w7) := by
            obtain ⟨rfl, c7_⟩ := hp.of1 hE
            have HX : Hid (X1 = limE true 11) := Lib.hid (HV1.out.trans (ore_no hE))
            have HE : Hid (R = limE true 11) := Lib.hid ((HS1.out (by rw [HX.out]; exact hE)).trans HX.out)
            exact ⟨_, rfl, Lib.hid (by rw [HE.out]; exact PE.mk1 hE (after_after d5 c7_))⟩
          clear hE hp
          subst hF
          unfold pan
          go_wp2_with fail
          exact ⟨rfl, HP.out⟩
        replace HV1 := Lib.hid (HV1.out.trans (ore_yes hE))
        obtain ⟨rfl, c7_⟩ := hp.ofz hE
        have d7 : After w w7 := after_after d5 c7_
        have b7 : After W2 w7 := after_after (b5) c7_
        clear k0 k1 k2 m2_ l0 ll
        obtain ⟨k0, k1, k2, m2_, l0, ll⟩ := HK2.out w7 (b7)
        clear hE hp
        clear hz1 hz3
        go_wp2_with fail
        refine (HM.out _ 3 (by decide) w7 (after_after hw d7)).mono ?_
        rintro e w8 hp
        replace hp := hp.to (F := limE (decide ((cl.length : Int) ≤ 4)) 3) (congrArg (fun b => limE b 3) (decide_eq_decide.2 (by omega)))
        by_cases hE : limE (decide ((cl.length : Int) ≤ 4)) 3 = 0
        rotate_left
        · obtain ⟨F, hF, HP⟩ : ∃ F, e = pan nd q F ∧ Hid (PE w nd q R (pan nd q F) w8) := by
            obtain ⟨rfl, c8_⟩ := hp.of1 hE
            have HX : Hid (X1 = limE (decide ((cl.length : Int) ≤ 4)) 3) := Lib.hid (HV1.out.trans (ore_no hE))
            have HE : Hid (R = limE (decide ((cl.length : Int) ≤ 4)) 3) := Lib.hid ((HS1.out (by rw [HX.out]; exact hE)).trans HX.out)
            exact ⟨_, rfl, Lib.hid (by rw [HE.out]; exact PE.mk1 hE (after_after d7 c8_))⟩
          clear hE hp
          subst hF
          unfold pan
          go_wp2_with fail
          exact ⟨rfl, HP.out⟩
        replace HV1 := Lib.hid (HV1.out.trans (ore_yes hE))
        obtain ⟨rfl, c8_⟩ := hp.ofz hE
        have d8 : After w w8 := after_after d7 c8_
        have b8 : After W2 w8 := after_after (b7) c8_
        clear k0 k1 k2 m2_ l0 ll
        obtain ⟨k0, k1, k2, m2_, l0, ll⟩ := HK2.out w8 (b8)
        clear hE hp
        go_wp2_with fail
        go_loopw [49] (fun i wr => ∃ m : Nat, m ≤ cl.length ∧ i = .int .i64 (m : Nat) ∧ Hid (firstE (onE el) (cl.take m) = 0) ∧ After W2 wr) (fun i _ => cl.length - (intOf i).toNat)
        case atStart => exact ⟨0, by omega, rfl, Lib.hid (by simp [firstE]), b8⟩
        case round =>
          obtain ⟨m, hm, rfl, HJm, arm⟩ := hrel
          have drm : After w wr := after_after dBW2 arm
          obtain ⟨rm, hrm⟩ : ∃ r, wr = r := ⟨_, rfl⟩
          rw [hrm] at arm drm ⊢
          clear hrm wr
          clear k0 k1 k2 m2_ l0 ll
          obtain ⟨k0, k1, k2, m2_, l0, ll⟩ := HK2.out rm (arm)
          by_cases hltm : m < cl.length
          · have hltmI : (m : Int) < (cl.length : Int) := by omega
            obtain ⟨bm, pm, ym, rfl, hlem, HYm, hPm⟩ := (HCL.out.ons rm (k := after_after a2_ arm)).part (i := m) hltm
            obtain ⟨nm2, t2, tag2⟩ := ym
            have y0 := hPm.c0
            have y1 := hPm.c1
            have y2 := hPm.c2
            have hn2 := hPm.nm
            have ht2b := hPm.tb
            simp only [] at y0 y1 y2 hn2 ht2b
            clear hPm
            have HS2 : Hid ((onE el ⟨nm2, t2, tag2⟩) ≠ 0 → R = (onE el ⟨nm2, t2, tag2⟩)) := Lib.hid fun h => by
              have h1 := firstE_stop (onE el) HYm.out HJm.out h
              have h2 : X1 = (onE el ⟨nm2, t2, tag2⟩) := HV1.out.trans ((ore_no (by rw [h1]; exact h)).trans h1)
              exact (HS1.out (by rw [h2]; exact h)).trans h2
            have HV2 : Hid ((onE el ⟨nm2, t2, tag2⟩) = ore (identE nm2) (ore (limE (!(t2 == 2) && hasV el t2 tag2) 5) 0)) := by show _ = _; rw [ore_zero]; rfl
            have HNm : Hid ((onE el ⟨nm2, t2, tag2⟩) = 0 → firstE (onE el) (cl.take (m + 1)) = 0) := Lib.hid fun h => (firstE_take (onE el) HYm.out HJm.out).trans h
            obtain ⟨X2, hX_⟩ : ∃ X, X = (onE el ⟨nm2, t2, tag2⟩) := ⟨_, rfl⟩
            replace HV2 := Lib.hid (hX_.trans HV2.out)
            rw [← hX_] at HS2 HNm
            clear hX_
            obtain ⟨g9, hg9⟩ : ∃ g, rm.heap.size = g := ⟨_, rfl⟩
            obtain ⟨W9, hW9, HK9, a9_⟩ : ∃ W, rm.alloc (.cells #[.string nm2, .int .i64 t2, .int .i64 tag2] 130) = W ∧ Hid (∀ U : World, After W U → U.cell? ⟨g9, 0, none⟩ = some (.string nm2) ∧ U.cell? ⟨g9, 1, none⟩ = some (.int .i64 t2) ∧ U.cell? ⟨g9, 2, none⟩ = some (.int .i64 tag2) ∧ Le (g9 + 1) U ∧ U.cell? ⟨g, 0, none⟩ = some (.slice eA el.length ec) ∧ Le (g + 1) U) ∧ After rm W := by
              refine ⟨_, rfl, fun U hU => ?_, inferInstance⟩
              have y0 := (Blk.new rm 130 #[.string nm2, .int .i64 t2, .int .i64 tag2]).after (w' := U)
              rw [hg9] at y0
              have q0 : After w0 U := after_after hw (after_after drm (after_after inferInstance hU))
              have q1 : After W2 U := after_after (arm) (after_after inferInstance hU)
              exact ⟨by rw [y0.cell]; rfl, by rw [y0.cell]; rfl, by rw [y0.cell]; rfl, y0.is_le, (HL.out U q0).1, (HL.out U q0).2⟩
            have d9 : After w W9 := after_after drm a9_
            obtain ⟨n0, n1, n2, m9_, o0_, o1_⟩ := HK9.out W9 (after_refl _)
            go_wp2_with fail
            try rw [hW9]
            try rw [hg9]
            clear hW9 hg9
            clear k0 k1 k2 m2_ l0 ll
            obtain ⟨_, _, _, _, l0, ll⟩ := HK9.out W9 (after_refl _)
            clear o0_ o1_
            refine (HI.out nm2 hn2 W9 (after_after hw d9)).mono ?_
            rintro e w10 hp
            by_cases hE : identE nm2 = 0
            rotate_left
            · obtain ⟨F, hF, HP⟩ : ∃ F, e = pan nd q F ∧ Hid (PE w nd q R (pan nd q F) w10) := by
                obtain ⟨rfl, c10_⟩ := hp.of1 hE
                have HX : Hid (X2 = identE nm2) := Lib.hid (HV2.out.trans (ore_no hE))
                have HE : Hid (R = identE nm2) := Lib.hid ((HS2.out (by rw [HX.out]; exact hE)).trans HX.out)
                exact ⟨_, rfl, Lib.hid (by rw [HE.out]; exact PE.mk1 hE (after_after d9 c10_))⟩
              clear hE hp
              subst hF
              unfold pan
              go_wp2_with fail
              exact ⟨rfl, HP.out⟩
            replace HV2 := Lib.hid (HV2.out.trans (ore_yes hE))
            obtain ⟨rfl, c10_⟩ := hp.ofz hE
            have d10 : After w w10 := after_after d9 c10_
            have b10 : After W9 w10 := after_after (after_refl W9) c10_
            clear n0 n1 n2 m9_ l0 ll
            obtain ⟨n0, n1, n2, m9_, l0, ll⟩ := HK9.out w10 (b10)
            clear hE hp
            by_cases ht2 : t2 = 2
            · replace HV2 : Hid (X2 = ore (limE false 5) 0) := by show _ = _; rw [HV2.out, ht2]; rfl
              have hq2 : (t2 == 2) = true := by rw [beq_iff_eq]; exact ht2
              have hq3 : (t2 != 2) = false := by rw [bne, hq2]; rfl
              clear ht2
              go_wp2_with fail
              have e0_ : After w0 w10 := after_after hw d10
              refine wp_region_more_tail 15 (by kernel_rfl) (by kernel_rfl) ?_
              simp only [List.take_succ_cons, List.take_zero, List.drop_succ_cons, List.drop_zero]
              repeat (go_big_quiet_step (fail))
              refine wpQuiet_nil ?_
              rintro _ ⟨y_, rfl⟩
              obtain ⟨w11, hv_, c11_⟩ : ∃ v, w10.more y_ = v ∧ After w10 v := ⟨_, rfl, inferInstance⟩
              rw [hv_]
              clear hv_ e0_
              have d11 : After w w11 := after_after d10 c11_
              have b11 : After W9 w11 := after_after (b10) c11_
              clear n0 n1 n2 m9_ l0 ll
              obtain ⟨n0, n1, n2, m9_, l0, ll⟩ := HK9.out w11 (b11)
              go_wp2_with fail
              refine (HM.out _ 5 (by decide) w11 (after_after hw d11)).mono ?_
              rintro e w12 hp
              replace hp := hp.to (F := limE false 5) (rfl)
              by_cases hE : limE false 5 = 0
              rotate_left
              · obtain ⟨F, hF, HP⟩ : ∃ F, e = pan nd q F ∧ Hid (PE w nd q R (pan nd q F) w12) := by
                  obtain ⟨rfl, c12_⟩ := hp.of1 hE
                  have HX : Hid (X2 = limE false 5) := Lib.hid (HV2.out.trans (ore_no hE))
                  have HE : Hid (R = limE false 5) := Lib.hid ((HS2.out (by rw [HX.out]; exact hE)).trans HX.out)
                  exact ⟨_, rfl, Lib.hid (by rw [HE.out]; exact PE.mk1 hE (after_after d11 c12_))⟩
                clear hE hp
                subst hF
                unfold pan
                go_wp2_with fail
                exact ⟨rfl, HP.out⟩
              exact absurd hE (by decide)
            · have hq2 : (t2 == 2) = false := by rw [beq_eq_false_iff_ne]; exact ht2
              have hq3 : (t2 != 2) = true := by rw [bne, hq2]; rfl
              replace HV2 : Hid (X2 = ore (limE (hasV el t2 tag2) 5) 0) := by show _ = _; rw [HV2.out, hq2]; rfl
              have HC : Hid (∀ U, After w0 U → Calls Try.prog 42 #[.slice eA el.length ec, .int .i64 t2, .int .i64 tag2] U fun e w' => e = .returned (.bool (hasV el t2 tag2)) ∧ ∃ z, w' = U.more z) := fun U hU => HH.out t2 tag2 ht2b U hU
              obtain ⟨hb, hhb⟩ : ∃ b, hasV el t2 tag2 = b := ⟨_, rfl⟩
              rw [hhb] at HC HV2
              clear ht2 hhb
              go_wp2_with fail
              have e0_ : After w0 w10 := after_after hw d10
              refine wp_region_more_tail 15 (by kernel_rfl) (by kernel_rfl) ?_
              simp only [List.take_succ_cons, List.take_zero, List.drop_succ_cons, List.drop_zero]
              repeat (go_big_quiet_step ((go_at_call 42; exact Calls.more_of (HC.out _ inferInstance))))
              refine wpQuiet_nil ?_
              rintro _ ⟨y_, rfl⟩
              obtain ⟨w13, hv_, c13_⟩ : ∃ v, w10.more y_ = v ∧ After w10 v := ⟨_, rfl, inferInstance⟩
              rw [hv_]
              clear hv_ e0_
              have d13 : After w w13 := after_after d10 c13_
              have b13 : After W9 w13 := after_after (b10) c13_
              clear n0 n1 n2 m9_ l0 ll
              obtain ⟨n0, n1, n2, m9_, l0, ll⟩ := HK9.out w13 (b13)
              go_wp2_with fail
              refine (HM.out hb 5 (by decide) w13 (after_after hw d13)).mono ?_
              rintro e w14 hp
              replace hp := hp.to (F := limE hb 5) (rfl)
              by_cases hE : limE hb 5 = 0
              rotate_left
              · obtain ⟨F, hF, HP⟩ : ∃ F, e = pan nd q F ∧ Hid (PE w nd q R (pan nd q F) w14) := by
                  obtain ⟨rfl, c14_⟩ := hp.of1 hE
                  have HX : Hid (X2 = limE hb 5) := Lib.hid (HV2.out.trans (ore_no hE))
                  have HE : Hid (R = limE hb 5) := Lib.hid ((HS2.out (by rw [HX.out]; exact hE)).trans HX.out)
                  exact ⟨_, rfl, Lib.hid (by rw [HE.out]; exact PE.mk1 hE (after_after d13 c14_))⟩
                clear hE hp
                subst hF
                unfold pan
                go_wp2_with fail
                exact ⟨rfl, HP.out⟩
              replace HV2 := Lib.hid (HV2.out.trans (ore_yes hE))
              obtain ⟨rfl, c14_⟩ := hp.ofz hE
              have d14 : After w w14 := after_after d13 c14_
              have b14 : After W9 w14 := after_after (b13) c14_
              clear n0 n1 n2 m9_ l0 ll
              obtain ⟨n0, n1, n2, m9_, l0, ll⟩ := HK9.out w14 (b14)
              clear hE hp
              go_wp2_with fail
              go_roundw
              case rel => exact ⟨m + 1, by omega, by go_num, Lib.hid (HNm.out HV2.out), after_after (arm) (after_after a9_ (b14))⟩
              case measure => simp only [intOf]; omega
          · replace HV1 := Lib.hid (HV1.out.trans (ore_yes (firstE_all (onE el) hltm HJm.out)))
            go_wp2_with fail
            go_roundw
            case rel => exact ⟨j + 1, by omega, by go_num, Lib.hid (HNj.out HV1.out), after_after (arj) (after_after a2_ (arm))⟩
            case measure => simp only [intOf]; omega
      · replace HV0 := Lib.hid (HV0.out.trans (ore_yes (firstE_all (declE el true) hltj HJj.out)))
        go_wp2_with fail
        go_end0
        exact by have hz := HV0.out; rw [hz]; exact PE.mk0 drj
end Go.Proofs.Ytdghfhnkacfahaa
