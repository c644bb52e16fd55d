/-
  Contracts: look's auto (printed by gen_lka.py).
-/
import Derived.Test.YtdghfhnkacfahaaSLd
import Derived.Test.YtdghfhnkacfahaaSLe
set_option linter.unusedVariables false
set_option linter.unusedSimpArgs false
namespace Go.Proofs.Ytdghfhnkacfahaa
open Go.RowKit Go.BigFrame
set_option maxRecDepth 100000 in
set_option maxHeartbeats 1600000 in
theorem lauto_deep {w0 : World} {g : Nat} {nd q : Int} {eA : Option Addr} {ec : Nat} {el : List EnD} (h : Look w0 g eA el.length ec nd q) (d : Nat) (hd : ¬ d < 3) (A1 : Option Addr) (c1 : Nat) (l : List StT) (w : World) (hw : After w0 w) :
    Calls Try.prog 71 #[.pointer (some ⟨g, 0, none⟩), .agg #[.slice A1 l.length c1], .int .i64 (d : Nat)] w fun e w' => PE w nd q (auE el d (.mk A1 c1 l)) e w' := by
  have HM : Hid (∀ b e, e ≠ 0 → ∀ U, After w0 U → Calls Try.prog 33 #[.pointer (some ⟨g, 0, none⟩), .bool b, .int .i64 e] U fun e' w' => PE U nd q (limE b e) e' w') := fun b e he U hU => must_any (h.here U (k := hU)) b e he
  have h3 : decide ((d : Int) < 3) = false := decide_eq_false (by omega)
  have h3a : ¬ (d : Int) < 3 := by omega
  have h3b : ¬ d < 3 := by omega
  obtain ⟨R, hR⟩ : ∃ R, auE el d (.mk A1 c1 l) = R := ⟨_, rfl⟩
  have HV0 : Hid (R = ore (limE false 3) 0) := by
    show _ = _
    rw [← hR, auE_is, h3]; rfl
  rw [hR]
  clear hR h
  have dBw := after_refl w
  go_enter Try.func71, Try.ntmps71
  go_wp2_with fail
  obtain ⟨W1, hW1, a1⟩ : ∃ W, w.alloc (.cells #[.slice A1 l.length c1] 86) = W ∧ After w W := ⟨_, rfl, inferInstance⟩
  try rw [hW1]
  clear hW1
  refine (HM.out _ 3 (by decide) W1 (after_after hw a1)).mono ?_
  rintro e w2 hp
  replace hp := hp.to (F := limE false 3) (rfl)
  by_cases hE : limE false 3 = 0
  rotate_left
  · obtain ⟨F, hF, HP⟩ : ∃ F, e = pan nd q F ∧ Hid (PE w nd q R (pan nd q F) w2) := by
      obtain ⟨rfl, c2_⟩ := hp.of1 hE
      have HX : Hid (R = limE false 3) := Lib.hid (HV0.out.trans (ore_no hE))
      have HE : Hid (R = limE false 3) := HX
      exact ⟨_, rfl, Lib.hid (by rw [HE.out]; exact PE.mk1 hE (after_after a1 c2_))⟩
    clear hE hp
    subst hF
    unfold pan
    go_wp2_with fail
    exact ⟨rfl, HP.out⟩
  exact absurd hE (by decide)
set_option maxRecDepth 100000 in
set_option maxHeartbeats 6400000 in
theorem lauto_n {w0 : World} {g : Nat} {nd q : Int} {eA : Option Addr} {ec : Nat} {el : List EnD} (h : Look w0 g eA el.length ec nd q) (hen : RowOf 2 PEn w0 ⟨eA, ec, el⟩) (m : Nat) : ∀ (d : Nat), 3 - d ≤ m → ∀ (A1 : Option Addr) (c1 : Nat) (l : List StT), RAu False w0 (.mk A1 c1 l) → ∀ w : World, After w0 w →
    Calls Try.prog 71 #[.pointer (some ⟨g, 0, none⟩), .agg #[.slice A1 l.length c1], .int .i64 (d : Nat)] w fun e w' => PE w nd q (auE el d (.mk A1 c1 l)) e w' := by
  induction m with
  | zero =>
    intro d hd A1 c1 l hx w hw
    exact lauto_deep h d (by omega) A1 c1 l w hw
  | succ m ih =>
    intro d hd A1 c1 l hx w hw
    by_cases hd3 : d < 3
    rotate_left
    · exact lauto_deep h d hd3 A1 c1 l w hw
    have hwr : IntKind.i64.wrap ((d : Int) + 1) = (d : Int) + 1 := IntWalk.i64_in _ (by omega)
    have HI : Hid (∀ s : ByteArray, s.size ≤ 140737488355328 → ∀ U, After w0 U → Calls Try.prog 68 #[.pointer (some ⟨g, 0, none⟩), .string s] U fun e w' => PE U nd q (identE s) e w') := fun s hs U hU => lident_any h s hs U hU
    have HM : Hid (∀ b e, e ≠ 0 → ∀ U, After w0 U → Calls Try.prog 33 #[.pointer (some ⟨g, 0, none⟩), .bool b, .int .i64 e] U fun e' w' => PE U nd q (limE b e) e' w') := fun b e he U hU => must_any (h.here U (k := hU)) b e he
    have HD : Hid (∀ (A : Option Addr) (c : Nat) (l : List DeclD), RowOf 3 PDecl w0 ⟨A, c, l⟩ → ∀ b U, After w0 U → Calls Try.prog 69 #[.pointer (some ⟨g, 0, none⟩), .slice A l.length c, .bool b] U fun e w' => PE U nd q (firstE (declE el b) l) e w') := fun A c l hh b U hU => ldecls_any (en := ⟨eA, ec, el⟩) h hen ⟨A, c, l⟩ hh b U hU
    have HQ : Hid (∀ (lA : Option Addr) (lc : Nat) (l : List ByteArray) (k o t v : Int) (s : ByteArray) (A : Option Addr) (c : Nat) (xs : List Tx) (b p : Nat), PEq False w0 b p ⟨⟨lA, lc, l⟩, .mk k o t v s A c xs⟩ → ∀ U, After w0 U → Calls Try.prog 70 #[.pointer (some ⟨g, 0, none⟩), .agg #[.slice lA l.length lc, .int .i64 k, .int .i64 o, .int .i64 t, .int .i64 v, .string s, .slice A xs.length c]] U fun e w' => PE U nd q (eqE el ⟨⟨lA, lc, l⟩, .mk k o t v s A c xs⟩) e w') := fun lA lc l k o t v s A c xs b p hh U hU => leq_any (en := ⟨eA, ec, el⟩) h hen ⟨lA, lc, l⟩ hh.lf hh.ri hh.tb trivial U hU
    have HT : Hid (∀ (A : Option Addr) (c : Nat) (l : List TrD), RowOf 8 (PTr False) w0 ⟨A, c, l⟩ → ∀ (n : Nat) b U, After w0 U → Calls Try.prog 88 #[.pointer (some ⟨g, 0, none⟩), .slice A l.length c, .int .i64 (n : Nat), .bool b] U fun e w' => PE U nd q (firstE (trE el n b) l) e w') := fun A c l hh n b U hU => ltr_any (en := ⟨eA, ec, el⟩) h hen ⟨A, c, l⟩ hh n b U hU
    have HA : Hid (∀ (A1 : Option Addr) (c1 : Nat) (l : List StT), RAu False w0 (.mk A1 c1 l) → ∀ U, After w0 U → Calls Try.prog 71 #[.pointer (some ⟨g, 0, none⟩), .agg #[.slice A1 l.length c1], .int .i64 ((d : Int) + 1)] U fun e w' => PE U nd q (auE el (d + 1) (.mk A1 c1 l)) e w') := fun A1 c1 l h U hU => by
      have hi := ih (d + 1) (by omega) A1 c1 l h U hU
      rwa [show ((d + 1 : Nat) : Int) = (d : Int) + 1 by omega] at hi
    obtain ⟨R, hR⟩ : ∃ R, auE el d (.mk A1 c1 l) = R := ⟨_, rfl⟩
    have HV0 : Hid (R = ore (limE true 3) (ore (limE (decide ((0 : Int) < (l.length : Int))) 8) (ore (limE (decide ((l.length : Int) ≤ 8)) 3) (ore (firstE (stE el l.length d) l) 0)))) := by
      show _ = _
      rw [← hR, auE_is, ore_zero, show decide ((d : Int) < 3) = true from decide_eq_true (by omega)]
    rw [hR]
    have HL : Hid (∀ U, After w0 U → U.cell? ⟨g, 0, none⟩ = some (.slice eA el.length ec) ∧ Le (g + 1) U) := fun U hU => ⟨(h.here U (k := hU)).fields.1, (h.here U (k := hU)).fields.2.2.2⟩
    have XX := Lib.hid hx.rows
    have hbl := hx.rows.len
    simp only [] at hbl
    clear hR h hx hen ih
    have dBw := after_refl w
    go_enter Try.func71, Try.ntmps71
    obtain ⟨g2, hg2⟩ : ∃ g, w.heap.size = g := ⟨_, rfl⟩
    obtain ⟨W2, hW2, HK2, a2_⟩ : ∃ W, w.alloc (.cells #[.slice A1 l.length c1] 86) = W ∧ Hid (∀ U : World, After W U → U.cell? ⟨g2, 0, none⟩ = some (.slice A1 l.length c1) ∧ Le (g2 + 1) U ∧ U.cell? ⟨g, 0, none⟩ = some (.slice eA el.length ec) ∧ Le (g + 1) U) ∧ After w W := by
      refine ⟨_, rfl, fun U hU => ?_, inferInstance⟩
      have y0 := (Blk.new w 86 #[.slice A1 l.length c1]).after (w' := U)
      rw [hg2] at y0
      have q0 : After w0 U := after_after hw (after_after dBw (after_after inferInstance hU))
      have q1 : After w U := after_after (after_refl w) (after_after inferInstance hU)
      exact ⟨by rw [y0.cell]; rfl, y0.is_le, (HL.out U q0).1, (HL.out U q0).2⟩
    have d2 : After w W2 := after_after dBw a2_
    obtain ⟨u0, m2_, o0_, o1_⟩ := HK2.out W2 (after_refl _)
    go_wp2_with fail
    try rw [hW2]
    try rw [hg2]
    clear hW2 hg2
    obtain ⟨_, _, l0, ll⟩ := HK2.out W2 (after_refl _)
    clear o0_ o1_
    have dBW2 := d2
    refine (HM.out _ 3 (by decide) W2 (after_after hw d2)).mono ?_
    rintro e w3 hp
    replace hp := hp.to (F := limE true 3) (congrArg (fun b => limE b 3) (decide_eq_true (by omega)))
    by_cases hE : limE true 3 = 0
    rotate_left
    · obtain ⟨F, hF, HP⟩ : ∃ F, e = pan nd q F ∧ Hid (PE w nd q R (pan nd q F) w3) := by
        obtain ⟨rfl, c3_⟩ := hp.of1 hE
        have HX : Hid (R = limE true 3) := Lib.hid (HV0.out.trans (ore_no hE))
        have HE : Hid (R = limE true 3) := HX
        exact ⟨_, rfl, Lib.hid (by rw [HE.out]; exact PE.mk1 hE (after_after d2 c3_))⟩
      clear hE hp
      subst hF
      unfold pan
      go_wp2_with fail
      exact ⟨rfl, HP.out⟩
    replace HV0 := Lib.hid (HV0.out.trans (ore_yes hE))
    obtain ⟨rfl, c3_⟩ := hp.ofz hE
    have d3 : After w w3 := after_after d2 c3_
    have b3 : After W2 w3 := after_after (after_refl W2) c3_
    clear u0 m2_ l0 ll
    obtain ⟨u0, m2_, l0, ll⟩ := HK2.out w3 (b3)
    clear hE hp
    go_wp2_with fail
    refine (HM.out _ 8 (by decide) w3 (after_after hw d3)).mono ?_
    rintro e w4 hp
    replace hp := hp.to (F := limE (decide ((0 : Int) < (l.length : Int))) 8) (congrArg (fun b => limE b 8) (decide_eq_decide.2 (by omega)))
    by_cases hE : limE (decide ((0 : Int) < (l.length : Int))) 8 = 0
    rotate_left
    · obtain ⟨F, hF, HP⟩ : ∃ F, e = pan nd q F ∧ Hid (PE w nd q R (pan nd q F) w4) := by
        obtain ⟨rfl, c4_⟩ := hp.of1 hE
        have HX : Hid (R = limE (decide ((0 : Int) < (l.length : Int))) 8) := Lib.hid (HV0.out.trans (ore_no hE))
        have HE : Hid (R = limE (decide ((0 : Int) < (l.length : Int))) 8) := HX
        exact ⟨_, rfl, Lib.hid (by rw [HE.out]; exact PE.mk1 hE (after_after d3 c4_))⟩
      clear hE hp
      subst hF
      unfold pan
      go_wp2_with fail
      exact ⟨rfl, HP.out⟩
    replace HV0 := Lib.hid (HV0.out.trans (ore_yes hE))
    obtain ⟨rfl, c4_⟩ := hp.ofz hE
    have d4 : After w w4 := after_after d3 c4_
    have b4 : After W2 w4 := after_after (b3) c4_
    clear u0 m2_ l0 ll
    obtain ⟨u0, m2_, l0, ll⟩ := HK2.out w4 (b4)
    clear hE hp
    go_wp2_with fail
    refine (HM.out _ 3 (by decide) w4 (after_after hw d4)).mono ?_
    rintro e w5 hp
    replace hp := hp.to (F := limE (decide ((l.length : Int) ≤ 8)) 3) (congrArg (fun b => limE b 3) (decide_eq_decide.2 (by omega)))
    by_cases hE : limE (decide ((l.length : Int) ≤ 8)) 3 = 0
    rotate_left
    · obtain ⟨F, hF, HP⟩ : ∃ F, e = pan nd q F ∧ Hid (PE w nd q R (pan nd q F) w5) := by
        obtain ⟨rfl, c5_⟩ := hp.of1 hE
        have HX : Hid (R = limE (decide ((l.length : Int) ≤ 8)) 3) := Lib.hid (HV0.out.trans (ore_no hE))
        have HE : Hid (R = limE (decide ((l.length : Int) ≤ 8)) 3) := HX
        exact ⟨_, rfl, Lib.hid (by rw [HE.out]; exact PE.mk1 hE (after_after d4 c5_))⟩
      clear hE hp
      subst hF
      unfold pan
      go_wp2_with fail
      exact ⟨rfl, HP.out⟩
    replace HV0 := Lib.hid (HV0.out.trans (ore_yes hE))
    obtain ⟨rfl, c5_⟩ := hp.ofz hE
    have d5 : After w w5 := after_after d4 c5_
    have b5 : After W2 w5 := after_after (b4) c5_
    clear u0 m2_ l0 ll
    obtain ⟨u0, m2_, l0, ll⟩ := HK2.out w5 (b5)
    clear hE hp
    go_wp2_with fail
    go_loopw [31] (fun i wr => ∃ j : Nat, j ≤ l.length ∧ i = .int .i64 (j : Nat) ∧ Hid (firstE (stE el l.length d) (l.take j) = 0) ∧ After W2 wr) (fun i _ => l.length - (intOf i).toNat)
    case atStart => exact ⟨0, by omega, rfl, Lib.hid (by simp [firstE]), b5⟩
    case round =>
      obtain ⟨j, hj, rfl, HJj, arj⟩ := hrel
      have drj : After w wr := after_after dBW2 arj
      obtain ⟨rj, hrj⟩ : ∃ r, wr = r := ⟨_, rfl⟩
      rw [hrj] at arj drj ⊢
      clear hrj wr
      clear u0 m2_ l0 ll
      obtain ⟨u0, m2_, l0, ll⟩ := HK2.out rj (arj)
      by_cases hltj : j < l.length
      · have hltjI : (j : Int) < (l.length : Int) := by omega
        obtain ⟨bj, pj, yj, rfl, hlej, HYj, hPj⟩ := (XX.out.sts rj (k := after_after hw drj)).part (i := j) hltj
        obtain ⟨nm, ⟨loA, loc, lo⟩, ⟨eqA, eqc, eq⟩, aA, ac, au, ⟨ulA, ulc, ul⟩, ⟨utA, utc, ut⟩⟩ := yj
        obtain ⟨_, _, HP0_⟩ := XX.out.elem (i := j) HYj.out
        obtain ⟨hnm, HLo, HEq, HUl, HUt, HAu⟩ := RSta.parts HP0_.2
        replace HLo := Lib.hid HLo
        replace HEq := Lib.hid HEq
        replace HUl := Lib.hid HUl
        replace HUt := Lib.hid HUt
        replace HAu := Lib.hid HAu
        have hle1 := HEq.out.len
        have hle2 := HAu.out.len
        obtain ⟨y0, y1, y2, y3, y4, y5⟩ := hPj.1
        simp only [StT.name, StT.locals, StT.eqs, StT.ad, StT.cap, StT.autos, StT.unl, StT.unt] at y0 y1 y2 y3 y4 y5
        simp only [] at hle1 hle2
        clear hPj HP0_
        have HS1 : Hid ((stE el l.length d (.mk nm ⟨loA, loc, lo⟩ ⟨eqA, eqc, eq⟩ aA ac au ⟨ulA, ulc, ul⟩ ⟨utA, utc, ut⟩)) ≠ 0 → R = (stE el l.length d (.mk nm ⟨loA, loc, lo⟩ ⟨eqA, eqc, eq⟩ aA ac au ⟨ulA, ulc, ul⟩ ⟨utA, utc, ut⟩))) := Lib.hid fun h => by
          have h1 := firstE_stop (stE el l.length d) HYj.out HJj.out h
          have h2 : R = (stE el l.length d (.mk nm ⟨loA, loc, lo⟩ ⟨eqA, eqc, eq⟩ aA ac au ⟨ulA, ulc, ul⟩ ⟨utA, utc, ut⟩)) := HV0.out.trans ((ore_no (by rw [h1]; exact h)).trans h1)
          exact h2
        have HV1 : Hid ((stE el l.length d (.mk nm ⟨loA, loc, lo⟩ ⟨eqA, eqc, eq⟩ aA ac au ⟨ulA, ulc, ul⟩ ⟨utA, utc, ut⟩)) = ore (identE nm) (ore (limE (decide ((lo.length : Int) ≤ 256) && (decide ((eq.length : Int) ≤ 256) && (decide ((au.length : Int) ≤ 8) && (decide ((ul.length : Int) ≤ 4) && decide ((ut.length : Int) ≤ 4))))) 3) (ore (firstE (declE el false) lo) (ore (firstE (eqE el) eq) (ore (firstE (auE el (d + 1)) au) (ore (firstE (trE el l.length true) ul) (ore (firstE (trE el l.length false) ut) 0))))))) := by show _ = _; rw [stE_is]
        have HNj : Hid ((stE el l.length d (.mk nm ⟨loA, loc, lo⟩ ⟨eqA, eqc, eq⟩ aA ac au ⟨ulA, ulc, ul⟩ ⟨utA, utc, ut⟩)) = 0 → firstE (stE el l.length d) (l.take (j + 1)) = 0) := Lib.hid fun h => (firstE_take (stE el l.length d) HYj.out HJj.out).trans h
        obtain ⟨X1, hX_⟩ : ∃ X, X = (stE el l.length d (.mk nm ⟨loA, loc, lo⟩ ⟨eqA, eqc, eq⟩ aA ac au ⟨ulA, ulc, ul⟩ ⟨utA, utc, ut⟩)) := ⟨_, rfl⟩
        replace HV1 := Lib.hid (hX_.trans HV1.out)
        rw [← hX_] at HS1 HNj
        clear hX_
        obtain ⟨g6, hg6⟩ : ∃ g, rj.heap.size = g := ⟨_, rfl⟩
        obtain ⟨W6, hW6, HK6, a6_⟩ : ∃ W, rj.alloc (.cells #[.string nm, .slice loA lo.length loc, .slice eqA eq.length eqc, .slice aA au.length ac, .slice ulA ul.length ulc, .slice utA ut.length utc] 80) = W ∧ Hid (∀ U : World, After W U → U.cell? ⟨g6, 0, none⟩ = some (.string nm) ∧ U.cell? ⟨g6, 1, none⟩ = some (.slice loA lo.length loc) ∧ U.cell? ⟨g6, 2, none⟩ = some (.slice eqA eq.length eqc) ∧ U.cell? ⟨g6, 3, none⟩ = some (.slice aA au.length ac) ∧ U.cell? ⟨g6, 4, none⟩ = some (.slice ulA ul.length ulc) ∧ U.cell? ⟨g6, 5, none⟩ = some (.slice utA ut.length utc) ∧ Le (g6 + 1) U ∧ U.cell? ⟨g, 0, none⟩ = some (.slice eA el.length ec) ∧ Le (g + 1) U ∧ U.cell? ⟨g2, 0, none⟩ = some (.slice (some ⟨bj, pj, none⟩) l.length c1) ∧ Le (g2 + 1) U) ∧ After rj W := by
          refine ⟨_, rfl, fun U hU => ?_, inferInstance⟩
          have y0 := (Blk.new rj 80 #[.string nm, .slice loA lo.length loc, .slice eqA eq.length eqc, .slice aA au.length ac, .slice ulA ul.length ulc, .slice utA ut.length utc]).after (w' := U)
          rw [hg6] at y0
          have q0 : After w0 U := after_after hw (after_after drj (after_after inferInstance hU))
          have q1 : After W2 U := after_after (arj) (after_after inferInstance hU)
          exact ⟨by rw [y0.cell]; rfl, by rw [y0.cell]; rfl, by rw [y0.cell]; rfl, by rw [y0.cell]; rfl, by rw [y0.cell]; rfl, by rw [y0.cell]; rfl, y0.is_le, (HL.out U q0).1, (HL.out U q0).2, (HK2.out U q1).1, (HK2.out U q1).2.1⟩
        have d6 : After w W6 := after_after drj a6_
        obtain ⟨k0, k1, k2, k3, k4, k5, m6_, o0_, o1_, o2_, o3_⟩ := HK6.out W6 (after_refl _)
        go_wp2_with fail
        try rw [hW6]
        try rw [hg6]
        clear hW6 hg6
        clear u0 m2_ l0 ll
        obtain ⟨_, _, _, _, _, _, _, l0, ll, ua, ub⟩ := HK6.out W6 (after_refl _)
        clear o0_ o1_ o2_ o3_
        have dBW6 := d6
        refine (HI.out nm hnm W6 (after_after hw d6)).mono ?_
        rintro e w7 hp
        by_cases hE : identE nm = 0
        rotate_left
        · obtain ⟨F, hF, HP⟩ : ∃ F, e = pan nd q F ∧ Hid (PE w nd q R (pan nd q F) w7) := by
            obtain ⟨rfl, c7_⟩ := hp.of1 hE
            have HX : Hid (X1 = identE nm) := Lib.hid (HV1.out.trans (ore_no hE))
            have HE : Hid (R = identE nm) := Lib.hid ((HS1.out (by rw [HX.out]; exact hE)).trans HX.out)
            exact ⟨_, rfl, Lib.hid (by rw [HE.out]; exact PE.mk1 hE (after_after d6 c7_))⟩
          clear hE hp
          subst hF
          unfold pan
          go_wp2_with fail
          exact ⟨rfl, HP.out⟩
        replace HV1 := Lib.hid (HV1.out.trans (ore_yes hE))
        obtain ⟨rfl, c7_⟩ := hp.ofz hE
        have d7 : After w w7 := after_after d6 c7_
        have b7 : After W6 w7 := after_after (after_refl W6) c7_
        clear k0 k1 k2 k3 k4 k5 m6_ l0 ll ua ub
        obtain ⟨k0, k1, k2, k3, k4, k5, m6_, l0, ll, ua, ub⟩ := HK6.out w7 (b7)
        clear hE hp
        by_cases hc0 : (lo.length : Int) ≤ 256
        rotate_left
        · replace HV1 : Hid (X1 = ore (limE false 3) (ore (firstE (declE el false) lo) (ore (firstE (eqE el) eq) (ore (firstE (auE el (d + 1)) au) (ore (firstE (trE el l.length true) ul) (ore (firstE (trE el l.length false) ut) 0)))))) := by show _ = _; rw [HV1.out, decide_eq_false hc0]; simp only [Bool.false_and, Bool.and_false]
          have hn0 : ¬ lo.length ≤ 256 := by omega
          go_wp2_with fail
          refine (HM.out _ 3 (by decide) w7 (after_after hw d7)).mono ?_
          rintro e w8 hp
          replace hp := hp.to (F := limE false 3) (rfl)
          by_cases hE : limE false 3 = 0
          rotate_left
          · obtain ⟨F, hF, HP⟩ : ∃ F, e = pan nd q F ∧ Hid (PE w nd q R (pan nd q F) w8) := by
              obtain ⟨rfl, c8_⟩ := hp.of1 hE
              have HX : Hid (X1 = limE false 3) := Lib.hid (HV1.out.trans (ore_no hE))
              have HE : Hid (R = limE false 3) := Lib.hid ((HS1.out (by rw [HX.out]; exact hE)).trans HX.out)
              exact ⟨_, rfl, Lib.hid (by rw [HE.out]; exact PE.mk1 hE (after_after d7 c8_))⟩
            clear hE hp
            subst hF
            unfold pan
            go_wp2_with fail
            exact ⟨rfl, HP.out⟩
          exact absurd hE (by decide)
        have hn0 : lo.length ≤ 256 := by omega
        by_cases hc1 : (eq.length : Int) ≤ 256
        rotate_left
        · replace HV1 : Hid (X1 = ore (limE false 3) (ore (firstE (declE el false) lo) (ore (firstE (eqE el) eq) (ore (firstE (auE el (d + 1)) au) (ore (firstE (trE el l.length true) ul) (ore (firstE (trE el l.length false) ut) 0)))))) := by show _ = _; rw [HV1.out, decide_eq_true hc0, decide_eq_false hc1]; simp only [Bool.false_and, Bool.and_false]
          have hn1 : ¬ eq.length ≤ 256 := by omega
          go_wp2_with fail
          refine (HM.out _ 3 (by decide) w7 (after_after hw d7)).mono ?_
          rintro e w9 hp
          replace hp := hp.to (F := limE false 3) (rfl)
          by_cases hE : limE false 3 = 0
          rotate_left
          · obtain ⟨F, hF, HP⟩ : ∃ F, e = pan nd q F ∧ Hid (PE w nd q R (pan nd q F) w9) := by
              obtain ⟨rfl, c9_⟩ := hp.of1 hE
              have HX : Hid (X1 = limE false 3) := Lib.hid (HV1.out.trans (ore_no hE))
              have HE : Hid (R = limE false 3) := Lib.hid ((HS1.out (by rw [HX.out]; exact hE)).trans HX.out)
              exact ⟨_, rfl, Lib.hid (by rw [HE.out]; exact PE.mk1 hE (after_after d7 c9_))⟩
            clear hE hp
            subst hF
            unfold pan
            go_wp2_with fail
            exact ⟨rfl, HP.out⟩
          exact absurd hE (by decide)
        have hn1 : eq.length ≤ 256 := by omega
        by_cases hc2 : (au.length : Int) ≤ 8
        rotate_left
        · replace HV1 : Hid (X1 = ore (limE false 3) (ore (firstE (declE el false) lo) (ore (firstE (eqE el) eq) (ore (firstE (auE el (d + 1)) au) (ore (firstE (trE el l.length true) ul) (ore (firstE (trE el l.length false) ut) 0)))))) := by show _ = _; rw [HV1.out, decide_eq_true hc0, decide_eq_true hc1, decide_eq_false hc2]; simp only [Bool.false_and, Bool.and_false]
          have hn2 : ¬ au.length ≤ 8 := by omega
          go_wp2_with fail
          refine (HM.out _ 3 (by decide) w7 (after_after hw d7)).mono ?_
          rintro e w10 hp
          replace hp := hp.to (F := limE false 3) (rfl)
          by_cases hE : limE false 3 = 0
          rotate_left
          · obtain ⟨F, hF, HP⟩ : ∃ F, e = pan nd q F ∧ Hid (PE w nd q R (pan nd q F) w10) := by
              obtain ⟨rfl, c10_⟩ := hp.of1 hE
              have HX : Hid (X1 = limE false 3) := Lib.hid (HV1.out.trans (ore_no hE))
              have HE : Hid (R = limE false 3) := Lib.hid ((HS1.out (by rw [HX.out]; exact hE)).trans HX.out)
              exact ⟨_, rfl, Lib.hid (by rw [HE.out]; exact PE.mk1 hE (after_after d7 c10_))⟩
            clear hE hp
            subst hF
            unfold pan
            go_wp2_with fail
            exact ⟨rfl, HP.out⟩
          exact absurd hE (by decide)
        have hn2 : au.length ≤ 8 := by omega
        by_cases hc3 : (ul.length : Int) ≤ 4
        rotate_left
        · replace HV1 : Hid (X1 = ore (limE false 3) (ore (firstE (declE el false) lo) (ore (firstE (eqE el) eq) (ore (firstE (auE el (d + 1)) au) (ore (firstE (trE el l.length true) ul) (ore (firstE (trE el l.length false) ut) 0)))))) := by show _ = _; rw [HV1.out, decide_eq_true hc0, decide_eq_true hc1, decide_eq_true hc2, decide_eq_false hc3]; simp only [Bool.false_and, Bool.and_false]
          have hn3 : ¬ ul.length ≤ 4 := by omega
          go_wp2_with fail
          refine (HM.out _ 3 (by decide) w7 (after_after hw d7)).mono ?_
          rintro e w11 hp
          replace hp := hp.to (F := limE false 3) (congrArg (fun b => limE b 3) (decide_eq_false (by omega)))
          by_cases hE : limE false 3 = 0
          rotate_left
          · obtain ⟨F, hF, HP⟩ : ∃ F, e = pan nd q F ∧ Hid (PE w nd q R (pan nd q F) w11) := by
              obtain ⟨rfl, c11_⟩ := hp.of1 hE
              have HX : Hid (X1 = limE false 3) := Lib.hid (HV1.out.trans (ore_no hE))
              have HE : Hid (R = limE false 3) := Lib.hid ((HS1.out (by rw [HX.out]; exact hE)).trans HX.out)
              exact ⟨_, rfl, Lib.hid (by rw [HE.out]; exact PE.mk1 hE (after_after d7 c11_))⟩
            clear hE hp
            subst hF
            unfold pan
            go_wp2_with fail
            exact ⟨rfl, HP.out⟩
          exact absurd hE (by decide)
        have hn3 : ul.length ≤ 4 := by omega
        by_cases hc4 : (ut.length : Int) ≤ 4
        rotate_left
        · replace HV1 : Hid (X1 = ore (limE false 3) (ore (firstE (declE el false) lo) (ore (firstE (eqE el) eq) (ore (firstE (auE el (d + 1)) au) (ore (firstE (trE el l.length true) ul) (ore (firstE (trE el l.length false) ut) 0)))))) := by show _ = _; rw [HV1.out, decide_eq_true hc0, decide_eq_true hc1, decide_eq_true hc2, decide_eq_true hc3, decide_eq_false hc4]; simp only [Bool.false_and, Bool.and_false]
          have hn4 : ¬ ut.length ≤ 4 := by omega
          go_wp2_with fail
          refine (HM.out _ 3 (by decide) w7 (after_after hw d7)).mono ?_
          rintro e w12 hp
          replace hp := hp.to (F := limE false 3) (congrArg (fun b => limE b 3) (decide_eq_false (by omega)))
          by_cases hE : limE false 3 = 0
          rotate_left
          · obtain ⟨F, hF, HP⟩ : ∃ F, e = pan nd q F ∧ Hid (PE w nd q R (pan nd q F) w12) := by
              obtain ⟨rfl, c12_⟩ := hp.of1 hE
              have HX : Hid (X1 = limE false 3) := Lib.hid (HV1.out.trans (ore_no hE))
              have HE : Hid (R = limE false 3) := Lib.hid ((HS1.out (by rw [HX.out]; exact hE)).trans HX.out)
              exact ⟨_, rfl, Lib.hid (by rw [HE.out]; exact PE.mk1 hE (after_after d7 c12_))⟩
            clear hE hp
            subst hF
            unfold pan
            go_wp2_with fail
            exact ⟨rfl, HP.out⟩
          exact absurd hE (by decide)
        have hn4 : ut.length ≤ 4 := by omega
        replace HV1 : Hid (X1 = ore (limE true 3) (ore (firstE (declE el false) lo) (ore (firstE (eqE el) eq) (ore (firstE (auE el (d + 1)) au) (ore (firstE (trE el l.length true) ul) (ore (firstE (trE el l.length false) ut) 0)))))) := by show _ = _; rw [HV1.out, decide_eq_true hc0, decide_eq_true hc1, decide_eq_true hc2, decide_eq_true hc3, decide_eq_true hc4]; rfl
        go_wp2_with fail
        refine (HM.out _ 3 (by decide) w7 (after_after hw d7)).mono ?_
        rintro e w13 hp
        replace hp := hp.to (F := limE true 3) (congrArg (fun b => limE b 3) (decide_eq_true (by omega)))
        by_cases hE : limE true 3 = 0
        rotate_left
        · obtain ⟨F, hF, HP⟩ : ∃ F, e = pan nd q F ∧ Hid (PE w nd q R (pan nd q F) w13) := by
            obtain ⟨rfl, c13_⟩ := hp.of1 hE
            have HX : Hid (X1 = limE true 3) := Lib.hid (HV1.out.trans (ore_no hE))
            have HE : Hid (R = limE true 3) := Lib.hid ((HS1.out (by rw [HX.out]; exact hE)).trans HX.out)
            exact ⟨_, rfl, Lib.hid (by rw [HE.out]; exact PE.mk1 hE (after_after d7 c13_))⟩
          clear hE hp
          subst hF
          unfold pan
          go_wp2_with fail
          exact ⟨rfl, HP.out⟩
        replace HV1 := Lib.hid (HV1.out.trans (ore_yes hE))
        obtain ⟨rfl, c13_⟩ := hp.ofz hE
        have d13 : After w w13 := after_after d7 c13_
        have b13 : After W6 w13 := after_after (b7) c13_
        clear k0 k1 k2 k3 k4 k5 m6_ l0 ll ua ub
        obtain ⟨k0, k1, k2, k3, k4, k5, m6_, l0, ll, ua, ub⟩ := HK6.out w13 (b13)
        clear hE hp
        clear hc0 hn0 hc1 hn1 hc2 hn2 hc3 hn3 hc4 hn4
        go_wp2_with fail
        refine (HD.out loA loc lo HLo.out false w13 (after_after hw d13)).mono ?_
        rintro e w14 hp
        by_cases hE : firstE (declE el false) lo = 0
        rotate_left
        · obtain ⟨F, hF, HP⟩ : ∃ F, e = pan nd q F ∧ Hid (PE w nd q R (pan nd q F) w14) := by
            obtain ⟨rfl, c14_⟩ := hp.of1 hE
            have HX : Hid (X1 = firstE (declE el false) lo) := Lib.hid (HV1.out.trans (ore_no hE))
            have HE : Hid (R = firstE (declE el false) lo) := Lib.hid ((HS1.out (by rw [HX.out]; exact hE)).trans HX.out)
            exact ⟨_, rfl, Lib.hid (by rw [HE.out]; exact PE.mk1 hE (after_after d13 c14_))⟩
          clear hE hp
          subst hF
          unfold pan
          go_wp2_with fail
          exact ⟨rfl, HP.out⟩
        replace HV1 := Lib.hid (HV1.out.trans (ore_yes hE))
        obtain ⟨rfl, c14_⟩ := hp.ofz hE
        have d14 : After w w14 := after_after d13 c14_
        have b14 : After W6 w14 := after_after (b13) c14_
        clear k0 k1 k2 k3 k4 k5 m6_ l0 ll ua ub
        obtain ⟨k0, k1, k2, k3, k4, k5, m6_, l0, ll, ua, ub⟩ := HK6.out w14 (b14)
        clear hE hp
        go_wp2_with fail
        go_loopw [74] (fun i wr => ∃ m_ : Nat, m_ ≤ eq.length ∧ i = .int .i64 (m_ : Nat) ∧ Hid (firstE (eqE el) (eq.take m_) = 0) ∧ After W6 wr) (fun i _ => eq.length - (intOf i).toNat)
        case atStart => exact ⟨0, by omega, rfl, Lib.hid (by simp [firstE]), b14⟩
        case round =>
          obtain ⟨m_, hm_, rfl, HJm_, arm_⟩ := hrel
          have drm_ : After w wr := after_after dBW6 arm_
          obtain ⟨rm_, hrm_⟩ : ∃ r, wr = r := ⟨_, rfl⟩
          rw [hrm_] at arm_ drm_ ⊢
          clear hrm_ wr
          clear k0 k1 k2 k3 k4 k5 m6_ l0 ll ua ub
          obtain ⟨k0, k1, k2, k3, k4, k5, m6_, l0, ll, ua, ub⟩ := HK6.out rm_ (arm_)
          by_cases hltm_ : m_ < eq.length
          · have hltm_I : (m_ : Int) < (eq.length : Int) := by omega
            obtain ⟨bm_, pm_, ym_, rfl, hlem_, HYm_, hPm_⟩ := (HEq.out.eqs rm_ (k := after_after hw drm_)).part (i := m_) hltm_
            obtain ⟨⟨qA, qc, ql⟩, ⟨k, o, t, v, s, A, c, xs⟩⟩ := ym_
            obtain ⟨_, _, HPm_⟩ := HEq.out.elem (i := m_) HYm_.out
            have HPm := Lib.hid HPm_
            obtain ⟨z0, z1, z2, z3, z4, z5⟩ := hPm_.six
            have z6 := hPm_.c0
            simp only [Tx.kind, Tx.op, Tx.ty, Tx.va, Tx.name, Tx.ad, Tx.args, Tx.cap] at z0 z1 z2 z3 z4 z5 z6
            clear HPm_ hPm_
            have HS2 : Hid ((eqE el ⟨⟨qA, qc, ql⟩, .mk k o t v s A c xs⟩) ≠ 0 → R = (eqE el ⟨⟨qA, qc, ql⟩, .mk k o t v s A c xs⟩)) := Lib.hid fun h => by
              have h1 := firstE_stop (eqE el) HYm_.out HJm_.out h
              have h2 : X1 = (eqE el ⟨⟨qA, qc, ql⟩, .mk k o t v s A c xs⟩) := HV1.out.trans ((ore_no (by rw [h1]; exact h)).trans h1)
              exact (HS1.out (by rw [h2]; exact h)).trans h2
            have HV2 : Hid ((eqE el ⟨⟨qA, qc, ql⟩, .mk k o t v s A c xs⟩) = ore (eqE el ⟨⟨qA, qc, ql⟩, .mk k o t v s A c xs⟩) 0) := Lib.hid (ore_zero _).symm
            have HNm_ : Hid ((eqE el ⟨⟨qA, qc, ql⟩, .mk k o t v s A c xs⟩) = 0 → firstE (eqE el) (eq.take (m_ + 1)) = 0) := Lib.hid fun h => (firstE_take (eqE el) HYm_.out HJm_.out).trans h
            obtain ⟨X2, hX_⟩ : ∃ X, X = (eqE el ⟨⟨qA, qc, ql⟩, .mk k o t v s A c xs⟩) := ⟨_, rfl⟩
            replace HV2 := Lib.hid (hX_.trans HV2.out)
            rw [← hX_] at HS2 HNm_
            clear hX_
            obtain ⟨g15, hg15⟩ : ∃ g, rm_.heap.size = g := ⟨_, rfl⟩
            obtain ⟨W15, hW15, HK15, a15_⟩ : ∃ W, rm_.alloc (.cells #[.slice qA ql.length qc, .int .i64 k, .int .i64 o, .int .i64 t, .int .i64 v, .string s, .slice A xs.length c] 48) = W ∧ Hid (∀ U : World, After W U → U.cell? ⟨g15, 0, none⟩ = some (.slice qA ql.length qc) ∧ U.cell? ⟨g15, 1, none⟩ = some (.int .i64 k) ∧ U.cell? ⟨g15, 2, none⟩ = some (.int .i64 o) ∧ U.cell? ⟨g15, 3, none⟩ = some (.int .i64 t) ∧ U.cell? ⟨g15, 4, none⟩ = some (.int .i64 v) ∧ U.cell? ⟨g15, 5, none⟩ = some (.string s) ∧ U.cell? ⟨g15, 6, none⟩ = some (.slice A xs.length c) ∧ Le (g15 + 1) U ∧ U.cell? ⟨g, 0, none⟩ = some (.slice eA el.length ec) ∧ Le (g + 1) U) ∧ After rm_ W := by
              refine ⟨_, rfl, fun U hU => ?_, inferInstance⟩
              have y0 := (Blk.new rm_ 48 #[.slice qA ql.length qc, .int .i64 k, .int .i64 o, .int .i64 t, .int .i64 v, .string s, .slice A xs.length c]).after (w' := U)
              rw [hg15] at y0
              have q0 : After w0 U := after_after hw (after_after drm_ (after_after inferInstance hU))
              have q1 : After W6 U := after_after (arm_) (after_after inferInstance hU)
              exact ⟨by rw [y0.cell]; rfl, by rw [y0.cell]; rfl, by rw [y0.cell]; rfl, by rw [y0.cell]; rfl, by rw [y0.cell]; rfl, by rw [y0.cell]; rfl, by rw [y0.cell]; rfl, y0.is_le, (HL.out U q0).1, (HL.out U q0).2⟩
            have d15 : After w W15 := after_after drm_ a15_
            obtain ⟨f0, f1, f2, f3, f4, f5, f6, m15_, o0_, o1_⟩ := HK15.out W15 (after_refl _)
            go_wp2_with fail
            try rw [hW15]
            try rw [hg15]
            clear hW15 hg15
            clear k0 k1 k2 k3 k4 k5 m6_ l0 ll ua ub
            obtain ⟨_, _, _, _, _, _, _, _, l0, ll⟩ := HK15.out W15 (after_refl _)
            clear o0_ o1_
            refine (HQ.out qA qc ql k o t v s A c xs _ _ HPm.out W15 (after_after hw d15)).mono ?_
            rintro e w16 hp
            by_cases hE : eqE el ⟨⟨qA, qc, ql⟩, .mk k o t v s A c xs⟩ = 0
            rotate_left
            · obtain ⟨F, hF, HP⟩ : ∃ F, e = pan nd q F ∧ Hid (PE w nd q R (pan nd q F) w16) := by
                obtain ⟨rfl, c16_⟩ := hp.of1 hE
                have HX : Hid (X2 = eqE el ⟨⟨qA, qc, ql⟩, .mk k o t v s A c xs⟩) := Lib.hid (HV2.out.trans (ore_no hE))
                have HE : Hid (R = eqE el ⟨⟨qA, qc, ql⟩, .mk k o t v s A c xs⟩) := Lib.hid ((HS2.out (by rw [HX.out]; exact hE)).trans HX.out)
                exact ⟨_, rfl, Lib.hid (by rw [HE.out]; exact PE.mk1 hE (after_after d15 c16_))⟩
              clear hE hp
              subst hF
              unfold pan
              go_wp2_with fail
              exact ⟨rfl, HP.out⟩
            replace HV2 := Lib.hid (HV2.out.trans (ore_yes hE))
            obtain ⟨rfl, c16_⟩ := hp.ofz hE
            have d16 : After w w16 := after_after d15 c16_
            have b16 : After W15 w16 := after_after (after_refl W15) c16_
            clear f0 f1 f2 f3 f4 f5 f6 m15_ l0 ll
            obtain ⟨f0, f1, f2, f3, f4, f5, f6, m15_, l0, ll⟩ := HK15.out w16 (b16)
            clear hE hp
            go_wp2_with fail
            go_roundw
            case rel => exact ⟨m_ + 1, by omega, by go_num, Lib.hid (HNm_.out HV2.out), after_after (arm_) (after_after a15_ (b16))⟩
            case measure => simp only [intOf]; omega
          · replace HV1 := Lib.hid (HV1.out.trans (ore_yes (firstE_all (eqE el) hltm_ HJm_.out)))
            go_wp2_with fail
            go_loopw [85] (fun i wr => ∃ i_ : Nat, i_ ≤ au.length ∧ i = .int .i64 (i_ : Nat) ∧ Hid (firstE (auE el (d + 1)) (au.take i_) = 0) ∧ After W6 wr) (fun i _ => au.length - (intOf i).toNat)
            case atStart => exact ⟨0, by omega, rfl, Lib.hid (by simp [firstE]), arm_⟩
            case round =>
              obtain ⟨i_, hi_, rfl, HJi_, ari_⟩ := hrel
              have dri_ : After w wr := after_after dBW6 ari_
              obtain ⟨ri_, hri_⟩ : ∃ r, wr = r := ⟨_, rfl⟩
              rw [hri_] at ari_ dri_ ⊢
              clear hri_ wr
              clear k0 k1 k2 k3 k4 k5 m6_ l0 ll ua ub
              obtain ⟨k0, k1, k2, k3, k4, k5, m6_, l0, ll, ua, ub⟩ := HK6.out ri_ (ari_)
              by_cases hlti_ : i_ < au.length
              · have hlti_I : (i_ : Int) < (au.length : Int) := by omega
                obtain ⟨bi_, pi_, yi_, rfl, hlei_, HYi_, hPi_⟩ := (HAu.out.aus ri_ (k := after_after hw dri_)).part (i := i_) hlti_
                obtain ⟨xA, xc, xl⟩ := yi_
                obtain ⟨_, _, HPi_⟩ := HAu.out.elem (i := i_) HYi_.out
                have HPi := Lib.hid HPi_
                have y0 : ri_.cell? ⟨bi_, pi_ + i_, none⟩ = some (.slice xA xl.length xc) := by have := hPi_.1; rwa [Nat.mul_one] at this
                clear HPi_ hPi_
                have HS2 : Hid ((auE el (d + 1) (.mk xA xc xl)) ≠ 0 → R = (auE el (d + 1) (.mk xA xc xl))) := Lib.hid fun h => by
                  have h1 := firstE_stop (auE el (d + 1)) HYi_.out HJi_.out h
                  have h2 : X1 = (auE el (d + 1) (.mk xA xc xl)) := HV1.out.trans ((ore_no (by rw [h1]; exact h)).trans h1)
                  exact (HS1.out (by rw [h2]; exact h)).trans h2
                have HV2 : Hid ((auE el (d + 1) (.mk xA xc xl)) = ore (auE el (d + 1) (.mk xA xc xl)) 0) := Lib.hid (ore_zero _).symm
                have HNi_ : Hid ((auE el (d + 1) (.mk xA xc xl)) = 0 → firstE (auE el (d + 1)) (au.take (i_ + 1)) = 0) := Lib.hid fun h => (firstE_take (auE el (d + 1)) HYi_.out HJi_.out).trans h
                obtain ⟨X2, hX_⟩ : ∃ X, X = (auE el (d + 1) (.mk xA xc xl)) := ⟨_, rfl⟩
                replace HV2 := Lib.hid (hX_.trans HV2.out)
                rw [← hX_] at HS2 HNi_
                clear hX_
                obtain ⟨g17, hg17⟩ : ∃ g, ri_.heap.size = g := ⟨_, rfl⟩
                obtain ⟨W17, hW17, HK17, a17_⟩ : ∃ W, ri_.alloc (.cells #[.slice xA xl.length xc] 86) = W ∧ Hid (∀ U : World, After W U → U.cell? ⟨g17, 0, none⟩ = some (.slice xA xl.length xc) ∧ Le (g17 + 1) U ∧ U.cell? ⟨g, 0, none⟩ = some (.slice eA el.length ec) ∧ Le (g + 1) U) ∧ After ri_ W := by
                  refine ⟨_, rfl, fun U hU => ?_, inferInstance⟩
                  have y0 := (Blk.new ri_ 86 #[.slice xA xl.length xc]).after (w' := U)
                  rw [hg17] at y0
                  have q0 : After w0 U := after_after hw (after_after dri_ (after_after inferInstance hU))
                  have q1 : After W6 U := after_after (ari_) (after_after inferInstance hU)
                  exact ⟨by rw [y0.cell]; rfl, y0.is_le, (HL.out U q0).1, (HL.out U q0).2⟩
                have d17 : After w W17 := after_after dri_ a17_
                obtain ⟨f0, m17_, o0_, o1_⟩ := HK17.out W17 (after_refl _)
                go_wp2_with fail
                try rw [hW17]
                try rw [hg17]
                clear hW17 hg17
                clear k0 k1 k2 k3 k4 k5 m6_ l0 ll ua ub
                obtain ⟨_, _, l0, ll⟩ := HK17.out W17 (after_refl _)
                clear o0_ o1_
                refine (HA.out xA xc xl HPi.out.2 W17 (after_after hw d17)).mono ?_
                rintro e w18 hp
                by_cases hE : auE el (d + 1) (.mk xA xc xl) = 0
                rotate_left
                · obtain ⟨F, hF, HP⟩ : ∃ F, e = pan nd q F ∧ Hid (PE w nd q R (pan nd q F) w18) := by
                    obtain ⟨rfl, c18_⟩ := hp.of1 hE
                    have HX : Hid (X2 = auE el (d + 1) (.mk xA xc xl)) := Lib.hid (HV2.out.trans (ore_no hE))
                    have HE : Hid (R = auE el (d + 1) (.mk xA xc xl)) := Lib.hid ((HS2.out (by rw [HX.out]; exact hE)).trans HX.out)
                    exact ⟨_, rfl, Lib.hid (by rw [HE.out]; exact PE.mk1 hE (after_after d17 c18_))⟩
                  clear hE hp
                  subst hF
                  unfold pan
                  go_wp2_with fail
                  exact ⟨rfl, HP.out⟩
                replace HV2 := Lib.hid (HV2.out.trans (ore_yes hE))
                obtain ⟨rfl, c18_⟩ := hp.ofz hE
                have d18 : After w w18 := after_after d17 c18_
                have b18 : After W17 w18 := after_after (after_refl W17) c18_
                clear f0 m17_ l0 ll
                obtain ⟨f0, m17_, l0, ll⟩ := HK17.out w18 (b18)
                clear hE hp
                go_wp2_with fail
                go_roundw
                case rel => exact ⟨i_ + 1, by omega, by go_num, Lib.hid (HNi_.out HV2.out), after_after (ari_) (after_after a17_ (b18))⟩
                case measure => simp only [intOf]; omega
              · replace HV1 := Lib.hid (HV1.out.trans (ore_yes (firstE_all (auE el (d + 1)) hlti_ HJi_.out)))
                go_wp2_with fail
                refine (HT.out ulA ulc ul HUl.out l.length true ri_ (after_after hw dri_)).mono ?_
                rintro e w19 hp
                by_cases hE : firstE (trE el l.length true) ul = 0
                rotate_left
                · obtain ⟨F, hF, HP⟩ : ∃ F, e = pan nd q F ∧ Hid (PE w nd q R (pan nd q F) w19) := by
                    obtain ⟨rfl, c19_⟩ := hp.of1 hE
                    have HX : Hid (X1 = firstE (trE el l.length true) ul) := Lib.hid (HV1.out.trans (ore_no hE))
                    have HE : Hid (R = firstE (trE el l.length true) ul) := Lib.hid ((HS1.out (by rw [HX.out]; exact hE)).trans HX.out)
                    exact ⟨_, rfl, Lib.hid (by rw [HE.out]; exact PE.mk1 hE (after_after dri_ c19_))⟩
                  clear hE hp
                  subst hF
                  unfold pan
                  go_wp2_with fail
                  exact ⟨rfl, HP.out⟩
                replace HV1 := Lib.hid (HV1.out.trans (ore_yes hE))
                obtain ⟨rfl, c19_⟩ := hp.ofz hE
                have d19 : After w w19 := after_after dri_ c19_
                have b19 : After W6 w19 := after_after (ari_) c19_
                clear k0 k1 k2 k3 k4 k5 m6_ l0 ll ua ub
                obtain ⟨k0, k1, k2, k3, k4, k5, m6_, l0, ll, ua, ub⟩ := HK6.out w19 (b19)
                clear hE hp
                go_wp2_with fail
                refine (HT.out utA utc ut HUt.out l.length false w19 (after_after hw d19)).mono ?_
                rintro e w20 hp
                by_cases hE : firstE (trE el l.length false) ut = 0
                rotate_left
                · obtain ⟨F, hF, HP⟩ : ∃ F, e = pan nd q F ∧ Hid (PE w nd q R (pan nd q F) w20) := by
                    obtain ⟨rfl, c20_⟩ := hp.of1 hE
                    have HX : Hid (X1 = firstE (trE el l.length false) ut) := Lib.hid (HV1.out.trans (ore_no hE))
                    have HE : Hid (R = firstE (trE el l.length false) ut) := Lib.hid ((HS1.out (by rw [HX.out]; exact hE)).trans HX.out)
                    exact ⟨_, rfl, Lib.hid (by rw [HE.out]; exact PE.mk1 hE (after_after d19 c20_))⟩
                  clear hE hp
                  subst hF
                  unfold pan
                  go_wp2_with fail
                  exact ⟨rfl, HP.out⟩
                replace HV1 := Lib.hid (HV1.out.trans (ore_yes hE))
                obtain ⟨rfl, c20_⟩ := hp.ofz hE
                have d20 : After w w20 := after_after d19 c20_
                have b20 : After W6 w20 := after_after (b19) c20_
                clear k0 k1 k2 k3 k4 k5 m6_ l0 ll ua ub
                obtain ⟨k0, k1, k2, k3, k4, k5, m6_, l0, ll, ua, ub⟩ := HK6.out w20 (b20)
                clear hE hp
                go_wp2_with fail
                go_roundw
                case rel => exact ⟨j + 1, by omega, by go_num, Lib.hid (HNj.out HV1.out), after_after (arj) (after_after a6_ (b20))⟩
                case measure => simp only [intOf]; omega
      · replace HV0 := Lib.hid (HV0.out.trans (ore_yes (firstE_all (stE el l.length d) hltj HJj.out)))
        go_wp2_with fail
        go_end0
        exact by have hz := HV0.out; rw [hz]; exact PE.mk0 drj
end Go.Proofs.Ytdghfhnkacfahaa
