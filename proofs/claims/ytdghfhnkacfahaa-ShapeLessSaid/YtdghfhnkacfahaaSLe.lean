/-
  Contracts: look's equation and transitions (printed by gen_lke.py).
-/
import Derived.Test.YtdghfhnkacfahaaSLk
import Derived.Test.YtdghfhnkacfahaaSTail
import Derived.BigQuiet
set_option linter.unusedVariables false
set_option linter.unusedSimpArgs false
namespace Go.Proofs.Ytdghfhnkacfahaa
open Go.RowKit Go.BigFrame
set_option maxRecDepth 100000 in
set_option maxHeartbeats 3200000 in
theorem leq_any {w0 : World} {g nd q} {en : Lst EnD} (h : Look w0 g en.A en.l.length en.c nd q) (hen : RowOf 2 PEn w0 en) (x : Lst ByteArray) (hx : RowOf 1 PStr w0 x) {k o t v : Int} {s : ByteArray} {A : Option Addr} {c : Nat} {xs : List Tx} (hX : RX w0 (.mk k o t v s A c xs)) (hB : TxB (.mk k o t v s A c xs)) (hs : True) (w : World) (hw : After w0 w) :
    Calls Try.prog 70 #[.pointer (some ⟨g, 0, none⟩), .agg #[.slice x.A x.l.length x.c, .int .i64 k, .int .i64 o, .int .i64 t, .int .i64 v, .string s, .slice A xs.length c]] w fun e w' => PE w nd q (eqE en.l ⟨x, .mk k o t v s A c xs⟩) e w' := by
  have HI : Hid (∀ s : ByteArray, s.size ≤ 140737488355328 → ∀ U, After w0 U → Calls Try.prog 68 #[.pointer (some ⟨g, 0, none⟩), .string s] U fun e w' => PE U nd q (identE s) e w') := fun s hs U hU => lident_any h s hs U hU
  have HM : Hid (∀ b e, e ≠ 0 → ∀ U, After w0 U → Calls Try.prog 33 #[.pointer (some ⟨g, 0, none⟩), .bool b, .int .i64 e] U fun e' w' => PE U nd q (limE b e) e' w') := fun b e he U hU => must_any (h.here U (k := hU)) b e he
  have HG : Hid (∀ e, ∀ U, After w0 U → Calls Try.prog 72 #[.pointer (some ⟨g, 0, none⟩), .int .i64 e] U fun e' w' => PE U nd q e e' w') := fun e U hU => right_any (h.here U (k := hU)) e
  obtain ⟨eA, ec, el⟩ := en
  simp only [] at h ⊢
  have HX : Hid (∀ U, After w0 U → Calls Try.prog 8 #[.slice eA el.length ec, .agg #[.int .i64 k, .int .i64 o, .int .i64 t, .int .i64 v, .string s, .slice A xs.length c]] U fun e w' => e = .returned (.int .i64 (exE el (.mk k o t v s A c xs))) ∧ ∃ z, w' = U.more z) := fun U hU => (sexpr_any hen hs hX hB U hU).mono fun e w_ h_ => ⟨h_.1, have := h_.2; After.is_more _ _⟩
  obtain ⟨R, hR⟩ : ∃ R, eqE el ⟨x, .mk k o t v s A c xs⟩ = R := ⟨_, rfl⟩
  have HV0 : Hid (R = ore (limE (decide ((0 : Int) < (x.l.length : Int))) 8) (ore (limE (decide ((x.l.length : Int) ≤ 64)) 3) (ore (firstE identE x.l) (ore (exE el (.mk k o t v s A c xs)) (ore (limE ((x.l.length : Int) == 1 || k == 10) 5) 0))))) := by
    show _ = _
    rw [← hR, ore_zero]; rfl
  rw [hR]
  obtain ⟨ee, hee⟩ : ∃ z, exE el (.mk k o t v s A c xs) = z := ⟨_, rfl⟩
  rw [hee] at HX HV0
  have HL : Hid (∀ U, After w0 U → U.cell? ⟨g, 0, none⟩ = some (.slice eA el.length ec) ∧ Le (g + 1) U) := fun U hU => ⟨(h.here U (k := hU)).fields.1, (h.here U (k := hU)).fields.2.2.2⟩
  obtain ⟨A1, c1, l⟩ := x
  simp only [] at HV0 ⊢
  have XX := Lib.hid hx
  have hbl := hx.len
  simp only [] at hbl
  clear hR h hx hen hee hX hB hs
  have dBw := after_refl w
  go_enter Try.func70, Try.ntmps70
  obtain ⟨g2, hg2⟩ : ∃ g, w.heap.size = g := ⟨_, rfl⟩
  obtain ⟨W2, hW2, HK2, a2_⟩ : ∃ W, w.alloc (.cells #[.slice A1 l.length c1, .int .i64 k, .int .i64 o, .int .i64 t, .int .i64 v, .string s, .slice A xs.length c] 48) = W ∧ Hid (∀ U : World, After W U → U.cell? ⟨g2, 0, none⟩ = some (.slice A1 l.length c1) ∧ U.cell? ⟨g2, 1, none⟩ = some (.int .i64 k) ∧ U.cell? ⟨g2, 2, none⟩ = some (.int .i64 o) ∧ U.cell? ⟨g2, 3, none⟩ = some (.int .i64 t) ∧ U.cell? ⟨g2, 4, none⟩ = some (.int .i64 v) ∧ U.cell? ⟨g2, 5, none⟩ = some (.string s) ∧ U.cell? ⟨g2, 6, none⟩ = some (.slice A xs.length c) ∧ Le (g2 + 1) U ∧ U.cell? ⟨g, 0, none⟩ = some (.slice eA el.length ec) ∧ Le (g + 1) U) ∧ After w W := by
    refine ⟨_, rfl, fun U hU => ?_, inferInstance⟩
    have y0 := (Blk.new w 48 #[.slice A1 l.length c1, .int .i64 k, .int .i64 o, .int .i64 t, .int .i64 v, .string s, .slice A xs.length c]).after (w' := U)
    rw [hg2] at y0
    have q0 : After w0 U := after_after hw (after_after dBw (after_after inferInstance hU))
    have q1 : After w U := after_after (after_refl w) (after_after inferInstance hU)
    exact ⟨by rw [y0.cell]; rfl, by rw [y0.cell]; rfl, by rw [y0.cell]; rfl, by rw [y0.cell]; rfl, by rw [y0.cell]; rfl, by rw [y0.cell]; rfl, by rw [y0.cell]; rfl, y0.is_le, (HL.out U q0).1, (HL.out U q0).2⟩
  have d2 : After w W2 := after_after dBw a2_
  obtain ⟨k0, k1, k2, k3, k4, k5, k6, m2_, o0_, o1_⟩ := HK2.out W2 (after_refl _)
  go_wp2_with fail
  try rw [hW2]
  try rw [hg2]
  clear hW2 hg2
  obtain ⟨_, _, _, _, _, _, _, _, l0, ll⟩ := HK2.out W2 (after_refl _)
  clear o0_ o1_
  have dBW2 := d2
  refine (HM.out _ 8 (by decide) W2 (after_after hw d2)).mono ?_
  rintro e w3 hp
  replace hp := hp.to (F := limE (decide ((0 : Int) < (l.length : Int))) 8) (congrArg (fun b => limE b 8) (decide_eq_decide.2 (by omega)))
  by_cases hE : limE (decide ((0 : Int) < (l.length : Int))) 8 = 0
  rotate_left
  · obtain ⟨F, hF, HP⟩ : ∃ F, e = pan nd q F ∧ Hid (PE w nd q R (pan nd q F) w3) := by
      obtain ⟨rfl, c3_⟩ := hp.of1 hE
      have HX : Hid (R = limE (decide ((0 : Int) < (l.length : Int))) 8) := Lib.hid (HV0.out.trans (ore_no hE))
      have HE : Hid (R = limE (decide ((0 : Int) < (l.length : Int))) 8) := HX
      exact ⟨_, rfl, Lib.hid (by rw [HE.out]; exact PE.mk1 hE (after_after d2 c3_))⟩
    clear hE hp
    subst hF
    unfold pan
    go_wp2_with fail
    exact ⟨rfl, HP.out⟩
  replace HV0 := Lib.hid (HV0.out.trans (ore_yes hE))
  obtain ⟨rfl, c3_⟩ := hp.ofz hE
  have d3 : After w w3 := after_after d2 c3_
  have b3 : After W2 w3 := after_after (after_refl W2) c3_
  clear k0 k1 k2 k3 k4 k5 k6 m2_ l0 ll
  obtain ⟨k0, k1, k2, k3, k4, k5, k6, m2_, l0, ll⟩ := HK2.out w3 (b3)
  clear hE hp
  go_wp2_with fail
  refine (HM.out _ 3 (by decide) w3 (after_after hw d3)).mono ?_
  rintro e w4 hp
  replace hp := hp.to (F := limE (decide ((l.length : Int) ≤ 64)) 3) (congrArg (fun b => limE b 3) (decide_eq_decide.2 (by omega)))
  by_cases hE : limE (decide ((l.length : Int) ≤ 64)) 3 = 0
  rotate_left
  · obtain ⟨F, hF, HP⟩ : ∃ F, e = pan nd q F ∧ Hid (PE w nd q R (pan nd q F) w4) := by
      obtain ⟨rfl, c4_⟩ := hp.of1 hE
      have HX : Hid (R = limE (decide ((l.length : Int) ≤ 64)) 3) := Lib.hid (HV0.out.trans (ore_no hE))
      have HE : Hid (R = limE (decide ((l.length : Int) ≤ 64)) 3) := HX
      exact ⟨_, rfl, Lib.hid (by rw [HE.out]; exact PE.mk1 hE (after_after d3 c4_))⟩
    clear hE hp
    subst hF
    unfold pan
    go_wp2_with fail
    exact ⟨rfl, HP.out⟩
  replace HV0 := Lib.hid (HV0.out.trans (ore_yes hE))
  obtain ⟨rfl, c4_⟩ := hp.ofz hE
  have d4 : After w w4 := after_after d3 c4_
  have b4 : After W2 w4 := after_after (b3) c4_
  clear k0 k1 k2 k3 k4 k5 k6 m2_ l0 ll
  obtain ⟨k0, k1, k2, k3, k4, k5, k6, m2_, l0, ll⟩ := HK2.out w4 (b4)
  clear hE hp
  go_wp2_with fail
  go_loopw [21] (fun i wr => ∃ j : Nat, j ≤ l.length ∧ i = .int .i64 (j : Nat) ∧ Hid (firstE identE (l.take j) = 0) ∧ After W2 wr) (fun i _ => l.length - (intOf i).toNat)
  case atStart => exact ⟨0, by omega, rfl, Lib.hid (by simp [firstE]), b4⟩
  case round =>
    obtain ⟨j, hj, rfl, HJj, arj⟩ := hrel
    have drj : After w wr := after_after dBW2 arj
    obtain ⟨rj, hrj⟩ : ∃ r, wr = r := ⟨_, rfl⟩
    rw [hrj] at arj drj ⊢
    clear hrj wr
    clear k0 k1 k2 k3 k4 k5 k6 m2_ l0 ll
    obtain ⟨k0, k1, k2, k3, k4, k5, k6, m2_, l0, ll⟩ := HK2.out rj (arj)
    by_cases hltj : j < l.length
    · have hltjI : (j : Int) < (l.length : Int) := by omega
      obtain ⟨bj, pj, yj, rfl, hlej, HYj, hPj⟩ := (XX.out.strs rj (k := after_after hw drj)).part (i := j) hltj
      have y0 : rj.cell? ⟨bj, pj + j, none⟩ = some (.string yj) := by have := hPj.1; rwa [Nat.mul_one] at this
      have hys := hPj.2
      clear hPj
      have HS1 : Hid ((identE yj) ≠ 0 → R = (identE yj)) := Lib.hid fun h => by
        have h1 := firstE_stop identE HYj.out HJj.out h
        have h2 : R = (identE yj) := HV0.out.trans ((ore_no (by rw [h1]; exact h)).trans h1)
        exact h2
      have HV1 : Hid ((identE yj) = ore (identE yj) 0) := Lib.hid (ore_zero _).symm
      have HNj : Hid ((identE yj) = 0 → firstE identE (l.take (j + 1)) = 0) := Lib.hid fun h => (firstE_take identE HYj.out HJj.out).trans h
      obtain ⟨X1, hX_⟩ : ∃ X, X = (identE yj) := ⟨_, rfl⟩
      replace HV1 := Lib.hid (hX_.trans HV1.out)
      rw [← hX_] at HS1 HNj
      clear hX_
      go_wp2_with fail
      refine (HI.out yj hys rj (after_after hw drj)).mono ?_
      rintro e w5 hp
      by_cases hE : identE yj = 0
      rotate_left
      · obtain ⟨F, hF, HP⟩ : ∃ F, e = pan nd q F ∧ Hid (PE w nd q R (pan nd q F) w5) := by
          obtain ⟨rfl, c5_⟩ := hp.of1 hE
          have HX : Hid (X1 = identE yj) := Lib.hid (HV1.out.trans (ore_no hE))
          have HE : Hid (R = identE yj) := Lib.hid ((HS1.out (by rw [HX.out]; exact hE)).trans HX.out)
          exact ⟨_, rfl, Lib.hid (by rw [HE.out]; exact PE.mk1 hE (after_after drj c5_))⟩
        clear hE hp
        subst hF
        unfold pan
        go_wp2_with fail
        exact ⟨rfl, HP.out⟩
      replace HV1 := Lib.hid (HV1.out.trans (ore_yes hE))
      obtain ⟨rfl, c5_⟩ := hp.ofz hE
      have d5 : After w w5 := after_after drj c5_
      have b5 : After W2 w5 := after_after (arj) c5_
      clear k0 k1 k2 k3 k4 k5 k6 m2_ l0 ll
      obtain ⟨k0, k1, k2, k3, k4, k5, k6, m2_, l0, ll⟩ := HK2.out w5 (b5)
      clear hE hp
      go_wp2_with fail
      go_roundw
      case rel => exact ⟨j + 1, by omega, by go_num, Lib.hid (HNj.out HV1.out), b5⟩
      case measure => simp only [intOf]; omega
    · replace HV0 := Lib.hid (HV0.out.trans (ore_yes (firstE_all identE hltj HJj.out)))
      go_wp2_with fail
      have e0_ : After w0 rj := after_after hw drj
      refine wp_region_more_tail 8 (by kernel_rfl) (by kernel_rfl) ?_
      simp only [List.take_succ_cons, List.take_zero, List.drop_succ_cons, List.drop_zero]
      repeat (go_big_quiet_step ((go_at_call 8; exact Calls.more_of (HX.out _ inferInstance))))
      refine wpQuiet_nil ?_
      rintro _ ⟨y_, rfl⟩
      obtain ⟨w6, hv_, c6_⟩ : ∃ v, rj.more y_ = v ∧ After rj v := ⟨_, rfl, inferInstance⟩
      rw [hv_]
      clear hv_ e0_
      have d6 : After w w6 := after_after drj c6_
      have b6 : After W2 w6 := after_after (arj) c6_
      clear k0 k1 k2 k3 k4 k5 k6 m2_ l0 ll
      obtain ⟨k0, k1, k2, k3, k4, k5, k6, m2_, l0, ll⟩ := HK2.out w6 (b6)
      go_wp2_with fail
      refine (HG.out ee w6 (after_after hw d6)).mono ?_
      rintro e w7 hp
      by_cases hE : ee = 0
      rotate_left
      · obtain ⟨F, hF, HP⟩ : ∃ F, e = pan nd q F ∧ Hid (PE w nd q R (pan nd q F) w7) := by
          obtain ⟨rfl, c7_⟩ := hp.of1 hE
          have HX : Hid (R = ee) := Lib.hid (HV0.out.trans (ore_no hE))
          have HE : Hid (R = ee) := HX
          exact ⟨_, rfl, Lib.hid (by rw [HE.out]; exact PE.mk1 hE (after_after d6 c7_))⟩
        clear hE hp
        subst hF
        unfold pan
        go_wp2_with fail
        exact ⟨rfl, HP.out⟩
      replace HV0 := Lib.hid (HV0.out.trans (ore_yes hE))
      obtain ⟨rfl, c7_⟩ := hp.ofz hE
      have d7 : After w w7 := after_after d6 c7_
      have b7 : After W2 w7 := after_after (b6) c7_
      clear k0 k1 k2 k3 k4 k5 k6 m2_ l0 ll
      obtain ⟨k0, k1, k2, k3, k4, k5, k6, m2_, l0, ll⟩ := HK2.out w7 (b7)
      clear hE hp
      by_cases hl1 : l.length = 1
      · have hz1 : ((l.length : Int) == 1) = true := by rw [beq_iff_eq]; omega
        have hz3 : (l.length == 1) = true := by rw [beq_iff_eq]; omega
        replace HV0 : Hid (R = ore (limE true 5) 0) := by show _ = _; rw [HV0.out, hz1]; rfl
        clear hl1
        go_wp2_with fail
        refine (HM.out true 5 (by decide) w7 (after_after hw d7)).mono ?_
        rintro e w8 hp
        replace hp := hp.to (F := limE true 5) (rfl)
        by_cases hE : limE true 5 = 0
        rotate_left
        · obtain ⟨F, hF, HP⟩ : ∃ F, e = pan nd q F ∧ Hid (PE w nd q R (pan nd q F) w8) := by
            obtain ⟨rfl, c8_⟩ := hp.of1 hE
            have HX : Hid (R = limE true 5) := Lib.hid (HV0.out.trans (ore_no hE))
            have HE : Hid (R = limE true 5) := HX
            exact ⟨_, rfl, Lib.hid (by rw [HE.out]; exact PE.mk1 hE (after_after d7 c8_))⟩
          clear hE hp
          subst hF
          unfold pan
          go_wp2_with fail
          exact ⟨rfl, HP.out⟩
        replace HV0 := Lib.hid (HV0.out.trans (ore_yes hE))
        obtain ⟨rfl, c8_⟩ := hp.ofz hE
        have d8 : After w w8 := after_after d7 c8_
        have b8 : After W2 w8 := after_after (b7) c8_
        clear k0 k1 k2 k3 k4 k5 k6 m2_ l0 ll
        obtain ⟨k0, k1, k2, k3, k4, k5, k6, m2_, l0, ll⟩ := HK2.out w8 (b8)
        clear hE hp
        go_wp2_with fail
        go_end0
        exact by have hz := HV0.out; rw [hz]; exact PE.mk0 d8
      · have hz1 : ((l.length : Int) == 1) = false := by rw [beq_eq_false_iff_ne]; omega
        have hz3 : (l.length == 1) = false := by rw [beq_eq_false_iff_ne]; omega
        replace HV0 : Hid (R = ore (limE (k == 10) 5) 0) := by show _ = _; rw [HV0.out, hz1]; rfl
        obtain ⟨bk, hbk⟩ : ∃ b, (k == 10) = b := ⟨_, rfl⟩
        rw [hbk] at HV0
        clear hl1
        go_wp2_with fail
        clear hbk
        refine (HM.out bk 5 (by decide) w7 (after_after hw d7)).mono ?_
        rintro e w9 hp
        replace hp := hp.to (F := limE bk 5) (rfl)
        by_cases hE : limE bk 5 = 0
        rotate_left
        · obtain ⟨F, hF, HP⟩ : ∃ F, e = pan nd q F ∧ Hid (PE w nd q R (pan nd q F) w9) := by
            obtain ⟨rfl, c9_⟩ := hp.of1 hE
            have HX : Hid (R = limE bk 5) := Lib.hid (HV0.out.trans (ore_no hE))
            have HE : Hid (R = limE bk 5) := HX
            exact ⟨_, rfl, Lib.hid (by rw [HE.out]; exact PE.mk1 hE (after_after d7 c9_))⟩
          clear hE hp
          subst hF
          unfold pan
          go_wp2_with fail
          exact ⟨rfl, HP.out⟩
        replace HV0 := Lib.hid (HV0.out.trans (ore_yes hE))
        obtain ⟨rfl, c9_⟩ := hp.ofz hE
        have d9 : After w w9 := after_after d7 c9_
        have b9 : After W2 w9 := after_after (b7) c9_
        clear k0 k1 k2 k3 k4 k5 k6 m2_ l0 ll
        obtain ⟨k0, k1, k2, k3, k4, k5, k6, m2_, l0, ll⟩ := HK2.out w9 (b9)
        clear hE hp
        go_wp2_with fail
        go_end0
        exact by have hz := HV0.out; rw [hz]; exact PE.mk0 d9
set_option maxRecDepth 100000 in
set_option maxHeartbeats 3200000 in
theorem ltr_any {w0 : World} {g nd q} {en : Lst EnD} (h : Look w0 g en.A en.l.length en.c nd q) (hen : RowOf 2 PEn w0 en) (x : Lst TrD) (hx : RowOf 8 (PTr False) w0 x) (n : Nat) (strong : Bool) (w : World) (hw : After w0 w) :
    Calls Try.prog 88 #[.pointer (some ⟨g, 0, none⟩), .slice x.A x.l.length x.c, .int .i64 (n : Nat), .bool strong] w fun e w' => PE w nd q (firstE (trE en.l n strong) x.l) e w' := by
  have HM : Hid (∀ b e, e ≠ 0 → ∀ U, After w0 U → Calls Try.prog 33 #[.pointer (some ⟨g, 0, none⟩), .bool b, .int .i64 e] U fun e' w' => PE U nd q (limE b e) e' w') := fun b e he U hU => must_any (h.here U (k := hU)) b e he
  have HG : Hid (∀ e, ∀ U, After w0 U → Calls Try.prog 72 #[.pointer (some ⟨g, 0, none⟩), .int .i64 e] U fun e' w' => PE U nd q e e' w') := fun e U hU => right_any (h.here U (k := hU)) e
  obtain ⟨eA, ec, el⟩ := en
  simp only [] at h ⊢
  have HX : Hid (∀ (k o t v : Int) (s : ByteArray) (A : Option Addr) (c : Nat) (xs : List Tx), True → TxB (.mk k o t v s A c xs) → RX w0 (.mk k o t v s A c xs) → ∀ U, After w0 U → Calls Try.prog 8 #[.slice eA el.length ec, .agg #[.int .i64 k, .int .i64 o, .int .i64 t, .int .i64 v, .string s, .slice A xs.length c]] U fun e w' => e = .returned (.int .i64 (exE el (.mk k o t v s A c xs))) ∧ ∃ z, w' = U.more z) := fun k o t v s A c xs hs hB hX U hU => (sexpr_any hen hs hX hB U hU).mono fun e w_ h_ => ⟨h_.1, have := h_.2; After.is_more _ _⟩
  have HSt : Hid (∀ (k o t v : Int) (s : ByteArray) (A : Option Addr) (c : Nat) (xs : List Tx), RX w0 (.mk k o t v s A c xs) → ∀ U, After w0 U → Calls Try.prog 105 #[.agg #[.int .i64 k, .int .i64 o, .int .i64 t, .int .i64 v, .string s, .slice A xs.length c]] U fun e w' => e = .returned (.bool (stateless (Tx.mk k o t v s A c xs).list)) ∧ After U w') := fun k o t v s A c xs hX U hU => stateless_any hX U hU
  obtain ⟨R, hR⟩ : ∃ R, firstE (trE el n strong) x.l = R := ⟨_, rfl⟩
  have HV0 : Hid (R = ore (firstE (trE el n strong) x.l) 0) := by
    show _ = _
    rw [← hR, ore_zero]
  rw [hR]
  have HL : Hid (∀ U, After w0 U → U.cell? ⟨g, 0, none⟩ = some (.slice eA el.length ec) ∧ Le (g + 1) U) := fun U hU => ⟨(h.here U (k := hU)).fields.1, (h.here U (k := hU)).fields.2.2.2⟩
  obtain ⟨A1, c1, l⟩ := x
  simp only [] at HV0 ⊢
  have XX := Lib.hid hx
  have hbl := hx.len
  simp only [] at hbl
  have dBw := after_refl w
  have HK : Hid (∀ U : World, After w U → U.cell? ⟨g, 0, none⟩ = some (.slice eA el.length ec) ∧ Le (g + 1) U) := fun U hU => HL.out U (after_after hw hU)
  obtain ⟨l0, ll⟩ := HK.out w (after_refl _)
  clear hR h hx hen
  cases strong with
  | false =>
    go_enter Try.func88, Try.ntmps88
    go_wp2_with fail
    go_loopw [12] (fun i wr => ∃ j : Nat, j ≤ l.length ∧ i = .int .i64 (j : Nat) ∧ Hid (firstE (trE el n false) (l.take j) = 0) ∧ After w wr) (fun i _ => l.length - (intOf i).toNat)
    case atStart => exact ⟨0, by omega, rfl, Lib.hid (by simp [firstE]), after_refl w⟩
    case round =>
      obtain ⟨j, hj, rfl, HJj, arj⟩ := hrel
      have drj : After w wr := after_after dBw arj
      obtain ⟨rj, hrj⟩ : ∃ r, wr = r := ⟨_, rfl⟩
      rw [hrj] at arj drj ⊢
      clear hrj wr
      clear l0 ll
      obtain ⟨l0, ll⟩ := HK.out rj (arj)
      by_cases hltj : j < l.length
      · have hltjI : (j : Int) < (l.length : Int) := by omega
        obtain ⟨bj, pj, yj, rfl, hlej, HYj, hPj⟩ := (XX.out.trs rj (k := after_after hw drj)).part (i := j) hltj
        obtain ⟨⟨k, o, t, v, s, A, c, xs⟩, dst, res⟩ := yj
        have hR0 := Lib.hid (hPj.co)
        obtain ⟨⟨y0, y1, y2, y3, y4, y5⟩, y6, y7⟩ : (Six rj bj (pj + j * 8) (.mk k o t v s A c xs)) ∧ rj.cell? ⟨bj, pj + j * 8 + 6, none⟩ = some (.int .i64 dst) ∧ rj.cell? ⟨bj, pj + j * 8 + 7, none⟩ = some (.bool res) := ⟨hPj.six, hPj.c6, hPj.c7⟩
        simp only [Tx.kind, Tx.op, Tx.ty, Tx.va, Tx.name, Tx.ad, Tx.args, Tx.cap] at y0 y1 y2 y3 y4 y5
        obtain ⟨_, _, HP0_⟩ := XX.out.elem (i := j) HYj.out
        have HP0 := Lib.hid HP0_
        clear HP0_
        have HX1 := Lib.hid (HX.out k o t v s A c xs trivial HP0.out.tb HP0.out.co)
        have HSL := Lib.hid (HSt.out k o t v s A c xs HP0.out.co)
        obtain ⟨ee, hee⟩ : ∃ z, exE el (.mk k o t v s A c xs) = z := ⟨_, rfl⟩
        obtain ⟨sl, hsl⟩ : ∃ z, stateless (Tx.mk k o t v s A c xs).list = z := ⟨_, rfl⟩
        rw [hee] at HX1
        rw [hsl] at HSL
        clear hPj hR0 HP0
        have HS1 : Hid ((trE el n false ⟨.mk k o t v s A c xs, dst, res⟩) ≠ 0 → R = (trE el n false ⟨.mk k o t v s A c xs, dst, res⟩)) := Lib.hid fun h => by
          have h1 := firstE_stop (trE el n false) HYj.out HJj.out h
          have h2 : R = (trE el n false ⟨.mk k o t v s A c xs, dst, res⟩) := HV0.out.trans ((ore_no (by rw [h1]; exact h)).trans h1)
          exact h2
        have HV1 : Hid ((trE el n false ⟨.mk k o t v s A c xs, dst, res⟩) = ore (limE (decide (0 ≤ dst) && decide (dst < (n : Int))) 14) (ore ee (ore (limE (!false || sl) 5) 0))) := by show _ = _; rw [ore_zero, ← hee, ← hsl]; rfl
        have HNj : Hid ((trE el n false ⟨.mk k o t v s A c xs, dst, res⟩) = 0 → firstE (trE el n false) (l.take (j + 1)) = 0) := Lib.hid fun h => (firstE_take (trE el n false) HYj.out HJj.out).trans h
        obtain ⟨X1, hX_⟩ : ∃ X, X = (trE el n false ⟨.mk k o t v s A c xs, dst, res⟩) := ⟨_, rfl⟩
        replace HV1 := Lib.hid (hX_.trans HV1.out)
        rw [← hX_] at HS1 HNj
        clear hX_
        by_cases hd0 : 0 ≤ dst
        rotate_left
        · have hz1 : decide (0 ≤ dst) = false := decide_eq_false hd0
          replace HV1 : Hid (X1 = ore (limE false 14) (ore ee (ore (limE (!false || sl) 5) 0))) := by show _ = _; rw [HV1.out, hz1]; rfl
          clear hd0
          obtain ⟨g2, hg2⟩ : ∃ g, rj.heap.size = g := ⟨_, rfl⟩
          obtain ⟨W2, hW2, HK2, a2_⟩ : ∃ W, rj.alloc (.cells #[.int .i64 k, .int .i64 o, .int .i64 t, .int .i64 v, .string s, .slice A xs.length c, .int .i64 dst, .bool res] 88) = W ∧ Hid (∀ U : World, After W U → U.cell? ⟨g2, 0, none⟩ = some (.int .i64 k) ∧ U.cell? ⟨g2, 1, none⟩ = some (.int .i64 o) ∧ U.cell? ⟨g2, 2, none⟩ = some (.int .i64 t) ∧ U.cell? ⟨g2, 3, none⟩ = some (.int .i64 v) ∧ U.cell? ⟨g2, 4, none⟩ = some (.string s) ∧ U.cell? ⟨g2, 5, none⟩ = some (.slice A xs.length c) ∧ U.cell? ⟨g2, 6, none⟩ = some (.int .i64 dst) ∧ U.cell? ⟨g2, 7, none⟩ = some (.bool res) ∧ Le (g2 + 1) U ∧ U.cell? ⟨g, 0, none⟩ = some (.slice eA el.length ec) ∧ Le (g + 1) U) ∧ After rj W := by
            refine ⟨_, rfl, fun U hU => ?_, inferInstance⟩
            have y0 := (Blk.new rj 88 #[.int .i64 k, .int .i64 o, .int .i64 t, .int .i64 v, .string s, .slice A xs.length c, .int .i64 dst, .bool res]).after (w' := U)
            rw [hg2] at y0
            have q0 : After w0 U := after_after hw (after_after drj (after_after inferInstance hU))
            have q1 : After w U := after_after (arj) (after_after inferInstance hU)
            exact ⟨by rw [y0.cell]; rfl, by rw [y0.cell]; rfl, by rw [y0.cell]; rfl, by rw [y0.cell]; rfl, by rw [y0.cell]; rfl, by rw [y0.cell]; rfl, by rw [y0.cell]; rfl, by rw [y0.cell]; rfl, y0.is_le, (HL.out U q0).1, (HL.out U q0).2⟩
          have d2 : After w W2 := after_after drj a2_
          obtain ⟨k0, k1, k2, k3, k4, k5, k6, k7, m2_, o0_, o1_⟩ := HK2.out W2 (after_refl _)
          go_wp2_with fail
          try rw [hW2]
          try rw [hg2]
          clear hW2 hg2
          clear l0 ll
          obtain ⟨_, _, _, _, _, _, _, _, _, l0, ll⟩ := HK2.out W2 (after_refl _)
          clear o0_ o1_
          refine (HM.out _ 14 (by decide) W2 (after_after hw d2)).mono ?_
          rintro e w3 hp
          replace hp := hp.to (F := limE false 14) (rfl)
          by_cases hE : limE false 14 = 0
          rotate_left
          · obtain ⟨F, hF, HP⟩ : ∃ F, e = pan nd q F ∧ Hid (PE w nd q R (pan nd q F) w3) := by
              obtain ⟨rfl, c3_⟩ := hp.of1 hE
              have HX : Hid (X1 = limE false 14) := Lib.hid (HV1.out.trans (ore_no hE))
              have HE : Hid (R = limE false 14) := Lib.hid ((HS1.out (by rw [HX.out]; exact hE)).trans HX.out)
              exact ⟨_, rfl, Lib.hid (by rw [HE.out]; exact PE.mk1 hE (after_after d2 c3_))⟩
            clear hE hp
            subst hF
            unfold pan
            go_wp2_with fail
            exact ⟨rfl, HP.out⟩
          exact absurd hE (by decide)
        have hz1 : decide (0 ≤ dst) = true := decide_eq_true hd0
        obtain ⟨bd, hbd⟩ : ∃ b, decide (dst < (n : Int)) = b := ⟨_, rfl⟩
        replace HV1 : Hid (X1 = ore (limE bd 14) (ore ee (ore (limE (!false || sl) 5) 0))) := by show _ = _; rw [HV1.out, hz1, hbd]; rfl
        obtain ⟨g4, hg4⟩ : ∃ g, rj.heap.size = g := ⟨_, rfl⟩
        obtain ⟨W4, hW4, HK4, a4_⟩ : ∃ W, rj.alloc (.cells #[.int .i64 k, .int .i64 o, .int .i64 t, .int .i64 v, .string s, .slice A xs.length c, .int .i64 dst, .bool res] 88) = W ∧ Hid (∀ U : World, After W U → U.cell? ⟨g4, 0, none⟩ = some (.int .i64 k) ∧ U.cell? ⟨g4, 1, none⟩ = some (.int .i64 o) ∧ U.cell? ⟨g4, 2, none⟩ = some (.int .i64 t) ∧ U.cell? ⟨g4, 3, none⟩ = some (.int .i64 v) ∧ U.cell? ⟨g4, 4, none⟩ = some (.string s) ∧ U.cell? ⟨g4, 5, none⟩ = some (.slice A xs.length c) ∧ U.cell? ⟨g4, 6, none⟩ = some (.int .i64 dst) ∧ U.cell? ⟨g4, 7, none⟩ = some (.bool res) ∧ Le (g4 + 1) U ∧ U.cell? ⟨g, 0, none⟩ = some (.slice eA el.length ec) ∧ Le (g + 1) U) ∧ After rj W := by
          refine ⟨_, rfl, fun U hU => ?_, inferInstance⟩
          have y0 := (Blk.new rj 88 #[.int .i64 k, .int .i64 o, .int .i64 t, .int .i64 v, .string s, .slice A xs.length c, .int .i64 dst, .bool res]).after (w' := U)
          rw [hg4] at y0
          have q0 : After w0 U := after_after hw (after_after drj (after_after inferInstance hU))
          have q1 : After w U := after_after (arj) (after_after inferInstance hU)
          exact ⟨by rw [y0.cell]; rfl, by rw [y0.cell]; rfl, by rw [y0.cell]; rfl, by rw [y0.cell]; rfl, by rw [y0.cell]; rfl, by rw [y0.cell]; rfl, by rw [y0.cell]; rfl, by rw [y0.cell]; rfl, y0.is_le, (HL.out U q0).1, (HL.out U q0).2⟩
        have d4 : After w W4 := after_after drj a4_
        obtain ⟨k0, k1, k2, k3, k4, k5, k6, k7, m4_, o0_, o1_⟩ := HK4.out W4 (after_refl _)
        go_wp2_with fail
        try rw [hW4]
        try rw [hg4]
        clear hW4 hg4
        clear l0 ll
        obtain ⟨_, _, _, _, _, _, _, _, _, l0, ll⟩ := HK4.out W4 (after_refl _)
        clear o0_ o1_
        clear hd0 hz1 hbd
        refine (HM.out bd 14 (by decide) W4 (after_after hw d4)).mono ?_
        rintro e w5 hp
        replace hp := hp.to (F := limE bd 14) (rfl)
        by_cases hE : limE bd 14 = 0
        rotate_left
        · obtain ⟨F, hF, HP⟩ : ∃ F, e = pan nd q F ∧ Hid (PE w nd q R (pan nd q F) w5) := by
            obtain ⟨rfl, c5_⟩ := hp.of1 hE
            have HX : Hid (X1 = limE bd 14) := Lib.hid (HV1.out.trans (ore_no hE))
            have HE : Hid (R = limE bd 14) := Lib.hid ((HS1.out (by rw [HX.out]; exact hE)).trans HX.out)
            exact ⟨_, rfl, Lib.hid (by rw [HE.out]; exact PE.mk1 hE (after_after d4 c5_))⟩
          clear hE hp
          subst hF
          unfold pan
          go_wp2_with fail
          exact ⟨rfl, HP.out⟩
        replace HV1 := Lib.hid (HV1.out.trans (ore_yes hE))
        obtain ⟨rfl, c5_⟩ := hp.ofz hE
        have d5 : After w w5 := after_after d4 c5_
        have b5 : After W4 w5 := after_after (after_refl W4) c5_
        clear k0 k1 k2 k3 k4 k5 k6 k7 m4_ l0 ll
        obtain ⟨k0, k1, k2, k3, k4, k5, k6, k7, m4_, l0, ll⟩ := HK4.out w5 (b5)
        clear hE hp
        go_wp2_with fail
        have e0_ : After w0 w5 := after_after hw d5
        refine wp_region_more_tail 8 (by kernel_rfl) (by kernel_rfl) ?_
        simp only [List.take_succ_cons, List.take_zero, List.drop_succ_cons, List.drop_zero]
        repeat (go_big_quiet_step ((go_at_call 8; exact Calls.more_of (HX1.out _ inferInstance))))
        refine wpQuiet_nil ?_
        rintro _ ⟨y_, rfl⟩
        obtain ⟨w6, hv_, c6_⟩ : ∃ v, w5.more y_ = v ∧ After w5 v := ⟨_, rfl, inferInstance⟩
        rw [hv_]
        clear hv_ e0_
        have d6 : After w w6 := after_after d5 c6_
        have b6 : After W4 w6 := after_after (b5) c6_
        clear k0 k1 k2 k3 k4 k5 k6 k7 m4_ l0 ll
        obtain ⟨k0, k1, k2, k3, k4, k5, k6, k7, m4_, l0, ll⟩ := HK4.out w6 (b6)
        go_wp2_with fail
        refine (HG.out ee w6 (after_after hw d6)).mono ?_
        rintro e w7 hp
        by_cases hE : ee = 0
        rotate_left
        · obtain ⟨F, hF, HP⟩ : ∃ F, e = pan nd q F ∧ Hid (PE w nd q R (pan nd q F) w7) := by
            obtain ⟨rfl, c7_⟩ := hp.of1 hE
            have HX : Hid (X1 = ee) := Lib.hid (HV1.out.trans (ore_no hE))
            have HE : Hid (R = ee) := Lib.hid ((HS1.out (by rw [HX.out]; exact hE)).trans HX.out)
            exact ⟨_, rfl, Lib.hid (by rw [HE.out]; exact PE.mk1 hE (after_after d6 c7_))⟩
          clear hE hp
          subst hF
          unfold pan
          go_wp2_with fail
          exact ⟨rfl, HP.out⟩
        replace HV1 := Lib.hid (HV1.out.trans (ore_yes hE))
        obtain ⟨rfl, c7_⟩ := hp.ofz hE
        have d7 : After w w7 := after_after d6 c7_
        have b7 : After W4 w7 := after_after (b6) c7_
        clear k0 k1 k2 k3 k4 k5 k6 k7 m4_ l0 ll
        obtain ⟨k0, k1, k2, k3, k4, k5, k6, k7, m4_, l0, ll⟩ := HK4.out w7 (b7)
        clear hE hp
        go_wp2_with fail
        refine (HM.out true 5 (by decide) w7 (after_after hw d7)).mono ?_
        rintro e w8 hp
        replace hp := hp.to (F := limE true 5) (rfl)
        by_cases hE : limE true 5 = 0
        rotate_left
        · obtain ⟨F, hF, HP⟩ : ∃ F, e = pan nd q F ∧ Hid (PE w nd q R (pan nd q F) w8) := by
            obtain ⟨rfl, c8_⟩ := hp.of1 hE
            have HX : Hid (X1 = limE true 5) := Lib.hid (HV1.out.trans (ore_no hE))
            have HE : Hid (R = limE true 5) := Lib.hid ((HS1.out (by rw [HX.out]; exact hE)).trans HX.out)
            exact ⟨_, rfl, Lib.hid (by rw [HE.out]; exact PE.mk1 hE (after_after d7 c8_))⟩
          clear hE hp
          subst hF
          unfold pan
          go_wp2_with fail
          exact ⟨rfl, HP.out⟩
        replace HV1 := Lib.hid (HV1.out.trans (ore_yes hE))
        obtain ⟨rfl, c8_⟩ := hp.ofz hE
        have d8 : After w w8 := after_after d7 c8_
        have b8 : After W4 w8 := after_after (b7) c8_
        clear k0 k1 k2 k3 k4 k5 k6 k7 m4_ l0 ll
        obtain ⟨k0, k1, k2, k3, k4, k5, k6, k7, m4_, l0, ll⟩ := HK4.out w8 (b8)
        clear hE hp
        go_wp2_with fail
        go_roundw
        case rel => exact ⟨j + 1, by omega, by go_num, Lib.hid (HNj.out HV1.out), after_after (arj) (after_after a4_ (b8))⟩
        case measure => simp only [intOf]; omega
      · replace HV0 := Lib.hid (HV0.out.trans (ore_yes (firstE_all (trE el n false) hltj HJj.out)))
        go_wp2_with fail
        go_end0
        exact by have hz := HV0.out; rw [hz]; exact PE.mk0 drj
  | true =>
    go_enter Try.func88, Try.ntmps88
    go_wp2_with fail
    go_loopw [12] (fun i wr => ∃ j : Nat, j ≤ l.length ∧ i = .int .i64 (j : Nat) ∧ Hid (firstE (trE el n true) (l.take j) = 0) ∧ After w wr) (fun i _ => l.length - (intOf i).toNat)
    case atStart => exact ⟨0, by omega, rfl, Lib.hid (by simp [firstE]), after_refl w⟩
    case round =>
      obtain ⟨j, hj, rfl, HJj, arj⟩ := hrel
      have drj : After w wr := after_after dBw arj
      obtain ⟨rj, hrj⟩ : ∃ r, wr = r := ⟨_, rfl⟩
      rw [hrj] at arj drj ⊢
      clear hrj wr
      clear l0 ll
      obtain ⟨l0, ll⟩ := HK.out rj (arj)
      by_cases hltj : j < l.length
      · have hltjI : (j : Int) < (l.length : Int) := by omega
        obtain ⟨bj, pj, yj, rfl, hlej, HYj, hPj⟩ := (XX.out.trs rj (k := after_after hw drj)).part (i := j) hltj
        obtain ⟨⟨k, o, t, v, s, A, c, xs⟩, dst, res⟩ := yj
        have hR0 := Lib.hid (hPj.co)
        obtain ⟨⟨y0, y1, y2, y3, y4, y5⟩, y6, y7⟩ : (Six rj bj (pj + j * 8) (.mk k o t v s A c xs)) ∧ rj.cell? ⟨bj, pj + j * 8 + 6, none⟩ = some (.int .i64 dst) ∧ rj.cell? ⟨bj, pj + j * 8 + 7, none⟩ = some (.bool res) := ⟨hPj.six, hPj.c6, hPj.c7⟩
        simp only [Tx.kind, Tx.op, Tx.ty, Tx.va, Tx.name, Tx.ad, Tx.args, Tx.cap] at y0 y1 y2 y3 y4 y5
        obtain ⟨_, _, HP0_⟩ := XX.out.elem (i := j) HYj.out
        have HP0 := Lib.hid HP0_
        clear HP0_
        have HX1 := Lib.hid (HX.out k o t v s A c xs trivial HP0.out.tb HP0.out.co)
        have HSL := Lib.hid (HSt.out k o t v s A c xs HP0.out.co)
        obtain ⟨ee, hee⟩ : ∃ z, exE el (.mk k o t v s A c xs) = z := ⟨_, rfl⟩
        obtain ⟨sl, hsl⟩ : ∃ z, stateless (Tx.mk k o t v s A c xs).list = z := ⟨_, rfl⟩
        rw [hee] at HX1
        rw [hsl] at HSL
        clear hPj hR0 HP0
        have HS1 : Hid ((trE el n true ⟨.mk k o t v s A c xs, dst, res⟩) ≠ 0 → R = (trE el n true ⟨.mk k o t v s A c xs, dst, res⟩)) := Lib.hid fun h => by
          have h1 := firstE_stop (trE el n true) HYj.out HJj.out h
          have h2 : R = (trE el n true ⟨.mk k o t v s A c xs, dst, res⟩) := HV0.out.trans ((ore_no (by rw [h1]; exact h)).trans h1)
          exact h2
        have HV1 : Hid ((trE el n true ⟨.mk k o t v s A c xs, dst, res⟩) = ore (limE (decide (0 ≤ dst) && decide (dst < (n : Int))) 14) (ore ee (ore (limE (!true || sl) 5) 0))) := by show _ = _; rw [ore_zero, ← hee, ← hsl]; rfl
        have HNj : Hid ((trE el n true ⟨.mk k o t v s A c xs, dst, res⟩) = 0 → firstE (trE el n true) (l.take (j + 1)) = 0) := Lib.hid fun h => (firstE_take (trE el n true) HYj.out HJj.out).trans h
        obtain ⟨X1, hX_⟩ : ∃ X, X = (trE el n true ⟨.mk k o t v s A c xs, dst, res⟩) := ⟨_, rfl⟩
        replace HV1 := Lib.hid (hX_.trans HV1.out)
        rw [← hX_] at HS1 HNj
        clear hX_
        by_cases hd0 : 0 ≤ dst
        rotate_left
        · have hz1 : decide (0 ≤ dst) = false := decide_eq_false hd0
          replace HV1 : Hid (X1 = ore (limE false 14) (ore ee (ore (limE (!true || sl) 5) 0))) := by show _ = _; rw [HV1.out, hz1]; rfl
          clear hd0
          obtain ⟨g2, hg2⟩ : ∃ g, rj.heap.size = g := ⟨_, rfl⟩
          obtain ⟨W2, hW2, HK2, a2_⟩ : ∃ W, rj.alloc (.cells #[.int .i64 k, .int .i64 o, .int .i64 t, .int .i64 v, .string s, .slice A xs.length c, .int .i64 dst, .bool res] 88) = W ∧ Hid (∀ U : World, After W U → U.cell? ⟨g2, 0, none⟩ = some (.int .i64 k) ∧ U.cell? ⟨g2, 1, none⟩ = some (.int .i64 o) ∧ U.cell? ⟨g2, 2, none⟩ = some (.int .i64 t) ∧ U.cell? ⟨g2, 3, none⟩ = some (.int .i64 v) ∧ U.cell? ⟨g2, 4, none⟩ = some (.string s) ∧ U.cell? ⟨g2, 5, none⟩ = some (.slice A xs.length c) ∧ U.cell? ⟨g2, 6, none⟩ = some (.int .i64 dst) ∧ U.cell? ⟨g2, 7, none⟩ = some (.bool res) ∧ Le (g2 + 1) U ∧ U.cell? ⟨g, 0, none⟩ = some (.slice eA el.length ec) ∧ Le (g + 1) U) ∧ After rj W := by
            refine ⟨_, rfl, fun U hU => ?_, inferInstance⟩
            have y0 := (Blk.new rj 88 #[.int .i64 k, .int .i64 o, .int .i64 t, .int .i64 v, .string s, .slice A xs.length c, .int .i64 dst, .bool res]).after (w' := U)
            rw [hg2] at y0
            have q0 : After w0 U := after_after hw (after_after drj (after_after inferInstance hU))
            have q1 : After w U := after_after (arj) (after_after inferInstance hU)
            exact ⟨by rw [y0.cell]; rfl, by rw [y0.cell]; rfl, by rw [y0.cell]; rfl, by rw [y0.cell]; rfl, by rw [y0.cell]; rfl, by rw [y0.cell]; rfl, by rw [y0.cell]; rfl, by rw [y0.cell]; rfl, y0.is_le, (HL.out U q0).1, (HL.out U q0).2⟩
          have d2 : After w W2 := after_after drj a2_
          obtain ⟨k0, k1, k2, k3, k4, k5, k6, k7, m2_, o0_, o1_⟩ := HK2.out W2 (after_refl _)
          go_wp2_with fail
          try rw [hW2]
          try rw [hg2]
          clear hW2 hg2
          clear l0 ll
          obtain ⟨_, _, _, _, _, _, _, _, _, l0, ll⟩ := HK2.out W2 (after_refl _)
          clear o0_ o1_
          refine (HM.out _ 14 (by decide) W2 (after_after hw d2)).mono ?_
          rintro e w3 hp
          replace hp := hp.to (F := limE false 14) (rfl)
          by_cases hE : limE false 14 = 0
          rotate_left
          · obtain ⟨F, hF, HP⟩ : ∃ F, e = pan nd q F ∧ Hid (PE w nd q R (pan nd q F) w3) := by
              obtain ⟨rfl, c3_⟩ := hp.of1 hE
              have HX : Hid (X1 = limE false 14) := Lib.hid (HV1.out.trans (ore_no hE))
              have HE : Hid (R = limE false 14) := Lib.hid ((HS1.out (by rw [HX.out]; exact hE)).trans HX.out)
              exact ⟨_, rfl, Lib.hid (by rw [HE.out]; exact PE.mk1 hE (after_after d2 c3_))⟩
            clear hE hp
            subst hF
            unfold pan
            go_wp2_with fail
            exact ⟨rfl, HP.out⟩
          exact absurd hE (by decide)
        have hz1 : decide (0 ≤ dst) = true := decide_eq_true hd0
        obtain ⟨bd, hbd⟩ : ∃ b, decide (dst < (n : Int)) = b := ⟨_, rfl⟩
        replace HV1 : Hid (X1 = ore (limE bd 14) (ore ee (ore (limE (!true || sl) 5) 0))) := by show _ = _; rw [HV1.out, hz1, hbd]; rfl
        obtain ⟨g4, hg4⟩ : ∃ g, rj.heap.size = g := ⟨_, rfl⟩
        obtain ⟨W4, hW4, HK4, a4_⟩ : ∃ W, rj.alloc (.cells #[.int .i64 k, .int .i64 o, .int .i64 t, .int .i64 v, .string s, .slice A xs.length c, .int .i64 dst, .bool res] 88) = W ∧ Hid (∀ U : World, After W U → U.cell? ⟨g4, 0, none⟩ = some (.int .i64 k) ∧ U.cell? ⟨g4, 1, none⟩ = some (.int .i64 o) ∧ U.cell? ⟨g4, 2, none⟩ = some (.int .i64 t) ∧ U.cell? ⟨g4, 3, none⟩ = some (.int .i64 v) ∧ U.cell? ⟨g4, 4, none⟩ = some (.string s) ∧ U.cell? ⟨g4, 5, none⟩ = some (.slice A xs.length c) ∧ U.cell? ⟨g4, 6, none⟩ = some (.int .i64 dst) ∧ U.cell? ⟨g4, 7, none⟩ = some (.bool res) ∧ Le (g4 + 1) U ∧ U.cell? ⟨g, 0, none⟩ = some (.slice eA el.length ec) ∧ Le (g + 1) U) ∧ After rj W := by
          refine ⟨_, rfl, fun U hU => ?_, inferInstance⟩
          have y0 := (Blk.new rj 88 #[.int .i64 k, .int .i64 o, .int .i64 t, .int .i64 v, .string s, .slice A xs.length c, .int .i64 dst, .bool res]).after (w' := U)
          rw [hg4] at y0
          have q0 : After w0 U := after_after hw (after_after drj (after_after inferInstance hU))
          have q1 : After w U := after_after (arj) (after_after inferInstance hU)
          exact ⟨by rw [y0.cell]; rfl, by rw [y0.cell]; rfl, by rw [y0.cell]; rfl, by rw [y0.cell]; rfl, by rw [y0.cell]; rfl, by rw [y0.cell]; rfl, by rw [y0.cell]; rfl, by rw [y0.cell]; rfl, y0.is_le, (HL.out U q0).1, (HL.out U q0).2⟩
        have d4 : After w W4 := after_after drj a4_
        obtain ⟨k0, k1, k2, k3, k4, k5, k6, k7, m4_, o0_, o1_⟩ := HK4.out W4 (after_refl _)
        go_wp2_with fail
        try rw [hW4]
        try rw [hg4]
        clear hW4 hg4
        clear l0 ll
        obtain ⟨_, _, _, _, _, _, _, _, _, l0, ll⟩ := HK4.out W4 (after_refl _)
        clear o0_ o1_
        clear hd0 hz1 hbd
        refine (HM.out bd 14 (by decide) W4 (after_after hw d4)).mono ?_
        rintro e w5 hp
        replace hp := hp.to (F := limE bd 14) (rfl)
        by_cases hE : limE bd 14 = 0
        rotate_left
        · obtain ⟨F, hF, HP⟩ : ∃ F, e = pan nd q F ∧ Hid (PE w nd q R (pan nd q F) w5) := by
            obtain ⟨rfl, c5_⟩ := hp.of1 hE
            have HX : Hid (X1 = limE bd 14) := Lib.hid (HV1.out.trans (ore_no hE))
            have HE : Hid (R = limE bd 14) := Lib.hid ((HS1.out (by rw [HX.out]; exact hE)).trans HX.out)
            exact ⟨_, rfl, Lib.hid (by rw [HE.out]; exact PE.mk1 hE (after_after d4 c5_))⟩
          clear hE hp
          subst hF
          unfold pan
          go_wp2_with fail
          exact ⟨rfl, HP.out⟩
        replace HV1 := Lib.hid (HV1.out.trans (ore_yes hE))
        obtain ⟨rfl, c5_⟩ := hp.ofz hE
        have d5 : After w w5 := after_after d4 c5_
        have b5 : After W4 w5 := after_after (after_refl W4) c5_
        clear k0 k1 k2 k3 k4 k5 k6 k7 m4_ l0 ll
        obtain ⟨k0, k1, k2, k3, k4, k5, k6, k7, m4_, l0, ll⟩ := HK4.out w5 (b5)
        clear hE hp
        go_wp2_with fail
        have e0_ : After w0 w5 := after_after hw d5
        refine wp_region_more_tail 8 (by kernel_rfl) (by kernel_rfl) ?_
        simp only [List.take_succ_cons, List.take_zero, List.drop_succ_cons, List.drop_zero]
        repeat (go_big_quiet_step ((go_at_call 8; exact Calls.more_of (HX1.out _ inferInstance))))
        refine wpQuiet_nil ?_
        rintro _ ⟨y_, rfl⟩
        obtain ⟨w6, hv_, c6_⟩ : ∃ v, w5.more y_ = v ∧ After w5 v := ⟨_, rfl, inferInstance⟩
        rw [hv_]
        clear hv_ e0_
        have d6 : After w w6 := after_after d5 c6_
        have b6 : After W4 w6 := after_after (b5) c6_
        clear k0 k1 k2 k3 k4 k5 k6 k7 m4_ l0 ll
        obtain ⟨k0, k1, k2, k3, k4, k5, k6, k7, m4_, l0, ll⟩ := HK4.out w6 (b6)
        go_wp2_with fail
        refine (HG.out ee w6 (after_after hw d6)).mono ?_
        rintro e w7 hp
        by_cases hE : ee = 0
        rotate_left
        · obtain ⟨F, hF, HP⟩ : ∃ F, e = pan nd q F ∧ Hid (PE w nd q R (pan nd q F) w7) := by
            obtain ⟨rfl, c7_⟩ := hp.of1 hE
            have HX : Hid (X1 = ee) := Lib.hid (HV1.out.trans (ore_no hE))
            have HE : Hid (R = ee) := Lib.hid ((HS1.out (by rw [HX.out]; exact hE)).trans HX.out)
            exact ⟨_, rfl, Lib.hid (by rw [HE.out]; exact PE.mk1 hE (after_after d6 c7_))⟩
          clear hE hp
          subst hF
          unfold pan
          go_wp2_with fail
          exact ⟨rfl, HP.out⟩
        replace HV1 := Lib.hid (HV1.out.trans (ore_yes hE))
        obtain ⟨rfl, c7_⟩ := hp.ofz hE
        have d7 : After w w7 := after_after d6 c7_
        have b7 : After W4 w7 := after_after (b6) c7_
        clear k0 k1 k2 k3 k4 k5 k6 k7 m4_ l0 ll
        obtain ⟨k0, k1, k2, k3, k4, k5, k6, k7, m4_, l0, ll⟩ := HK4.out w7 (b7)
        clear hE hp
        go_wp2_with fail
        refine (HSL.out w7 (after_after hw d7)).mono ?_
        rintro e w8 ⟨rfl, c8_⟩
        have d8 : After w w8 := after_after d7 c8_
        have b8 : After W4 w8 := after_after (b7) c8_
        clear k0 k1 k2 k3 k4 k5 k6 k7 m4_ l0 ll
        obtain ⟨k0, k1, k2, k3, k4, k5, k6, k7, m4_, l0, ll⟩ := HK4.out w8 (b8)
        go_wp2_with fail
        refine (HM.out sl 5 (by decide) w8 (after_after hw d8)).mono ?_
        rintro e w9 hp
        replace hp := hp.to (F := limE sl 5) (rfl)
        by_cases hE : limE sl 5 = 0
        rotate_left
        · obtain ⟨F, hF, HP⟩ : ∃ F, e = pan nd q F ∧ Hid (PE w nd q R (pan nd q F) w9) := by
            obtain ⟨rfl, c9_⟩ := hp.of1 hE
            have HX : Hid (X1 = limE sl 5) := Lib.hid (HV1.out.trans (ore_no hE))
            have HE : Hid (R = limE sl 5) := Lib.hid ((HS1.out (by rw [HX.out]; exact hE)).trans HX.out)
            exact ⟨_, rfl, Lib.hid (by rw [HE.out]; exact PE.mk1 hE (after_after d8 c9_))⟩
          clear hE hp
          subst hF
          unfold pan
          go_wp2_with fail
          exact ⟨rfl, HP.out⟩
        replace HV1 := Lib.hid (HV1.out.trans (ore_yes hE))
        obtain ⟨rfl, c9_⟩ := hp.ofz hE
        have d9 : After w w9 := after_after d8 c9_
        have b9 : After W4 w9 := after_after (b8) c9_
        clear k0 k1 k2 k3 k4 k5 k6 k7 m4_ l0 ll
        obtain ⟨k0, k1, k2, k3, k4, k5, k6, k7, m4_, l0, ll⟩ := HK4.out w9 (b9)
        clear hE hp
        go_wp2_with fail
        go_roundw
        case rel => exact ⟨j + 1, by omega, by go_num, Lib.hid (HNj.out HV1.out), after_after (arj) (after_after a4_ (b9))⟩
        case measure => simp only [intOf]; omega
      · replace HV0 := Lib.hid (HV0.out.trans (ore_yes (firstE_all (trE el n true) hltj HJj.out)))
        go_wp2_with fail
        go_end0
        exact by have hz := HV0.out; rw [hz]; exact PE.mk0 drj
end Go.Proofs.Ytdghfhnkacfahaa
