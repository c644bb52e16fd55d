/-
  Contract: look's node (printed by gen_lkn.py).
-/
import Derived.Test.YtdghfhnkacfahaaSNa
set_option linter.unusedVariables false
set_option linter.unusedSimpArgs false
namespace Go.Proofs.Ytdghfhnkacfahaa
open Go.RowKit Go.BigFrame
set_option maxRecDepth 100000 in
set_option maxHeartbeats 6400000 in
theorem lnode_any {w00 : World} {g : Nat} {eA : Option Addr} {ec : Nat} {el : List EnD} (hen : RowOf 2 PEn w00 ⟨eA, ec, el⟩) {nm : ByteArray} {inA : Option Addr} {inc : Nat} {in_ : List DeclD} {ouA : Option Addr} {ouc : Nat} {ou : List DeclD} {loA : Option Addr} {loc : Nat} {lo : List DeclD} {eqA : Option Addr} {eqc : Nat} {eq : List EqD} {auA : Option Addr} {auc : Nat} {au : List AuT} {asA : Option Addr} {asc : Nat} {as_ : List Tx} {enA : Option Addr} {enc : Nat} {en_ : List Tx} {b p : Nat} (hy : PNd False w00 b p ⟨nm, ⟨inA, inc, in_⟩, ⟨ouA, ouc, ou⟩, ⟨loA, loc, lo⟩, ⟨eqA, eqc, eq⟩, ⟨auA, auc, au⟩, ⟨asA, asc, as_⟩, ⟨enA, enc, en_⟩⟩) {i n0 q0 : Int} (w : World) (hw : After w00 w) (hg : w00.heap.size ≤ g) (h : Look w g eA el.length ec n0 q0) :
    Calls Try.prog 35 #[.pointer (some ⟨g, 0, none⟩), .int .i64 i, .agg #[.string nm, .slice inA in_.length inc, .slice ouA ou.length ouc, .slice loA lo.length loc, .slice eqA eq.length eqc, .slice auA au.length auc, .slice asA as_.length asc, .slice enA en_.length enc]] w fun e w' => ND w g eA el.length ec i (nodeE el ⟨nm, ⟨inA, inc, in_⟩, ⟨ouA, ouc, ou⟩, ⟨loA, loc, lo⟩, ⟨eqA, eqc, eq⟩, ⟨auA, auc, au⟩, ⟨asA, asc, as_⟩, ⟨enA, enc, en_⟩⟩) (nodeQ el ⟨nm, ⟨inA, inc, in_⟩, ⟨ouA, ouc, ou⟩, ⟨loA, loc, lo⟩, ⟨eqA, eqc, eq⟩, ⟨auA, auc, au⟩, ⟨asA, asc, as_⟩, ⟨enA, enc, en_⟩⟩) e w' := by
  obtain ⟨R, hR⟩ : ∃ R, nodeE el ⟨nm, ⟨inA, inc, in_⟩, ⟨ouA, ouc, ou⟩, ⟨loA, loc, lo⟩, ⟨eqA, eqc, eq⟩, ⟨auA, auc, au⟩, ⟨asA, asc, as_⟩, ⟨enA, enc, en_⟩⟩ = R := ⟨_, rfl⟩
  obtain ⟨Rq, hRq⟩ : ∃ R, nodeQ el ⟨nm, ⟨inA, inc, in_⟩, ⟨ouA, ouc, ou⟩, ⟨loA, loc, lo⟩, ⟨eqA, eqc, eq⟩, ⟨auA, auc, au⟩, ⟨asA, asc, as_⟩, ⟨enA, enc, en_⟩⟩ = R := ⟨_, rfl⟩
  obtain ⟨X1, hX1⟩ : ∃ X, headE el ⟨nm, ⟨inA, inc, in_⟩, ⟨ouA, ouc, ou⟩, ⟨loA, loc, lo⟩, ⟨eqA, eqc, eq⟩, ⟨auA, auc, au⟩, ⟨asA, asc, as_⟩, ⟨enA, enc, en_⟩⟩ = X := ⟨_, rfl⟩
  have HV0 : Hid (R = ore X1 (ore (firstE (eqE el) eq) (ore (firstE (auE el 0) au) (ore (firstE (exE el) as_) (ore (firstE (exE el) en_) 0))))) := by
    show _ = _
    rw [← hR, ← hX1, ore_zero]; rfl
  have HQ0 : Hid (Rq = if X1 = 0 then whereE (eqE el) eq 0 else -1) := by
    show _ = _
    rw [← hRq, ← hX1]; rfl
  have HV1 : Hid (X1 = ore (identE nm) (ore (limE (decide ((in_.length : Int) ≤ 64) && (decide ((ou.length : Int) ≤ 64) && (decide ((lo.length : Int) ≤ 256) && (decide ((eq.length : Int) ≤ 256) && (decide ((au.length : Int) ≤ 8) && (decide ((as_.length : Int) ≤ 8) && (decide ((en_.length : Int) ≤ 8)))))))) 3) (ore (limE (decide ((0 : Int) < (ou.length : Int))) 8) (ore (firstE (declE el true) in_) (ore (firstE (declE el true) ou) (ore (firstE (declE el false) lo) 0)))))) := by
    show _ = _
    rw [← hX1, ore_zero]; rfl
  have HS1 : Hid (X1 ≠ 0 → R = X1) := fun h => HV0.out.trans (ore_no h)
  have HQ1 : Hid (X1 ≠ 0 → Rq = -1) := fun h => HQ0.out.trans (if_neg h)
  rw [hR, hRq]
  have HEN := Lib.hid hen
  have HY := Lib.hid hy
  have hlen : in_.length ≤ 140737488355328 ∧ ou.length ≤ 140737488355328 ∧ lo.length ≤ 140737488355328 ∧ eq.length ≤ 140737488355328 ∧ au.length ≤ 140737488355328 ∧ as_.length ≤ 140737488355328 ∧ en_.length ≤ 140737488355328 := ⟨hy.r1.len, hy.r2.len, hy.r3.len, hy.r4.len, hy.r5.len, hy.r6.len, hy.r7.len⟩
  obtain ⟨hl1, hl2, hl3, hl4, hl5, hl6, hl7⟩ := hlen
  have hnm : nm.size ≤ 140737488355328 := hy.nm
  clear hR hRq hX1 hen hy
  obtain ⟨gn, hgn⟩ : ∃ g, w.heap.size = g := ⟨_, rfl⟩
  obtain ⟨W1, hW1, a1, bn, bl⟩ : ∃ W, w.alloc (.cells #[.string nm, .slice inA in_.length inc, .slice ouA ou.length ouc, .slice loA lo.length loc, .slice eqA eq.length eqc, .slice auA au.length auc, .slice asA as_.length asc, .slice enA en_.length enc] 45) = W ∧ After w W ∧ Blk W gn 45 #[.string nm, .slice inA in_.length inc, .slice ouA ou.length ouc, .slice loA lo.length loc, .slice eqA eq.length eqc, .slice auA au.length auc, .slice asA as_.length asc, .slice enA en_.length enc] ∧ Look W g eA el.length ec n0 q0 := ⟨_, rfl, inferInstance, by rw [← hgn]; exact Blk.new _ _ _, Look.here h _⟩
  have hne : gn ≠ g := by have := Blk.lt h; omega
  obtain ⟨W2, hW2, B2, hl_⟩ : ∃ W, (W1.setCell ⟨g, 1, none⟩ (.int .i64 i)).setCell ⟨g, 2, none⟩ (.int .i64 (-1)) = W ∧ Bex g W1 W ∧ Look W g eA el.length ec i (-1) := ⟨_, rfl, (Bex.set _ _ _).trans (Bex.set _ _ _), (Blk.set_ (Blk.set_ bl 1 _) 2 _)⟩
  have B1 : Bex g w W2 := (Bex.of a1).trans B2
  have a02 : After w00 W2 := B1.after hw hg
  have HKX : Hid (∀ U, Bex g W2 U → After w00 U ∧ Bex g w U ∧ U.cell? ⟨gn, 0, none⟩ = some (.string nm) ∧ U.cell? ⟨gn, 1, none⟩ = some (.slice inA in_.length inc) ∧ U.cell? ⟨gn, 2, none⟩ = some (.slice ouA ou.length ouc) ∧ U.cell? ⟨gn, 3, none⟩ = some (.slice loA lo.length loc) ∧ U.cell? ⟨gn, 4, none⟩ = some (.slice eqA eq.length eqc) ∧ U.cell? ⟨gn, 5, none⟩ = some (.slice auA au.length auc) ∧ U.cell? ⟨gn, 6, none⟩ = some (.slice asA as_.length asc) ∧ U.cell? ⟨gn, 7, none⟩ = some (.slice enA en_.length enc) ∧ Le (gn + 1) U) := fun U hU => by
    have y0 := (B2.trans hU).blk bn hne
    exact ⟨hU.after a02 hg, B1.trans hU, by rw [y0.cell]; rfl, by rw [y0.cell]; rfl, by rw [y0.cell]; rfl, by rw [y0.cell]; rfl, by rw [y0.cell]; rfl, by rw [y0.cell]; rfl, by rw [y0.cell]; rfl, by rw [y0.cell]; rfl, y0.is_le⟩
  have HK : Hid (∀ U, After W2 U → U.cell? ⟨gn, 0, none⟩ = some (.string nm) ∧ U.cell? ⟨gn, 1, none⟩ = some (.slice inA in_.length inc) ∧ U.cell? ⟨gn, 2, none⟩ = some (.slice ouA ou.length ouc) ∧ U.cell? ⟨gn, 3, none⟩ = some (.slice loA lo.length loc) ∧ U.cell? ⟨gn, 4, none⟩ = some (.slice eqA eq.length eqc) ∧ U.cell? ⟨gn, 5, none⟩ = some (.slice auA au.length auc) ∧ U.cell? ⟨gn, 6, none⟩ = some (.slice asA as_.length asc) ∧ U.cell? ⟨gn, 7, none⟩ = some (.slice enA en_.length enc) ∧ Le (gn + 1) U ∧ U.cell? ⟨g, 0, none⟩ = some (.slice eA el.length ec) ∧ Le (g + 1) U) := fun U hU => by
    obtain ⟨_, _, x0, x1, x2, x3, x4, x5, x6, x7, x8⟩ := HKX.out U (Bex.of hU)
    exact ⟨x0, x1, x2, x3, x4, x5, x6, x7, x8, (hl_.here U (k := hU)).fields.1, (hl_.here U (k := hU)).fields.2.2.2⟩
  have l1 : Le (g + 1) W1 := bl.is_le
  have f1 := Blk.frozen bl 1
  have f2 := Blk.frozen bl 2
  obtain ⟨_, p1, p2, _⟩ := Look.fields bl
  have he_ := HEN.out.enums W2 (k := a02)
  have HI : Hid (∀ s : ByteArray, s.size ≤ 140737488355328 → ∀ U, After W2 U → Calls Try.prog 68 #[.pointer (some ⟨g, 0, none⟩), .string s] U fun e w' => PE U i (-1) (identE s) e w') := fun s hs U hU => lident_any hl_ s hs U hU
  have HM : Hid (∀ b e, e ≠ 0 → ∀ U, After W2 U → Calls Try.prog 33 #[.pointer (some ⟨g, 0, none⟩), .bool b, .int .i64 e] U fun e' w' => PE U i (-1) (limE b e) e' w') := fun b e he U hU => must_any (hl_.here U (k := hU)) b e he
  have HD : Hid (∀ (A : Option Addr) (c : Nat) (l : List DeclD), RowOf 3 PDecl W2 ⟨A, c, l⟩ → ∀ b U, After W2 U → Calls Try.prog 69 #[.pointer (some ⟨g, 0, none⟩), .slice A l.length c, .bool b] U fun e w' => PE U i (-1) (firstE (declE el b) l) e w') := fun A c l hh b U hU => ldecls_any (en := ⟨eA, ec, el⟩) hl_ he_ ⟨A, c, l⟩ hh b U hU
  clear he_
  obtain ⟨k0, k1, k2, k3, k4, k5, k6, k7, kn, l0, ll⟩ := HK.out W2 (after_refl _)
  go_enter Try.func35, Try.ntmps35
  go_wp2_with fail
  try rw [hW1]
  try rw [hW2]
  try rw [hgn]
  clear hW1 hW2 hgn l1 f1 f2 p1 p2
  refine (HI.out nm hnm W2 (after_after (after_refl W2) (after_refl W2))).mono ?_
  rintro e w2 hp
  by_cases hE : identE nm = 0
  rotate_left
  · obtain ⟨F, hF, HP⟩ : ∃ F, e = pan i (-1) F ∧ Hid (ND w g eA el.length ec i R Rq (pan i (-1) F) w2) := by
      obtain ⟨rfl, c2_⟩ := hp.of1 hE
      have HX : Hid (X1 = identE nm) := Lib.hid (HV1.out.trans (ore_no hE))
      have HE : Hid (R = identE nm) := Lib.hid ((HS1.out (by rw [HX.out]; exact hE)).trans HX.out)
      exact ⟨_, rfl, Lib.hid (by rw [HE.out, HQ1.out (by rw [HX.out]; exact hE)]; exact ND.mk1 hE (B1.trans (Bex.of (after_after (after_refl W2) c2_))))⟩
    clear hE hp
    subst hF
    unfold pan
    go_wp2_with fail
    exact ⟨rfl, HP.out⟩
  replace HV1 := Lib.hid (HV1.out.trans (ore_yes hE))
  obtain ⟨rfl, c2_⟩ := hp.ofz hE
  have d2 : After W2 w2 := after_after (after_refl W2) c2_
  have b2 : After W2 w2 := after_after (after_refl W2) c2_
  clear k0 k1 k2 k3 k4 k5 k6 k7 kn l0 ll
  obtain ⟨k0, k1, k2, k3, k4, k5, k6, k7, kn, l0, ll⟩ := HK.out w2 (b2)
  clear hE hp
  by_cases hc0 : (in_.length : Int) ≤ 64
  rotate_left
  · replace HV1 : Hid (X1 = ore (limE false 3) (ore (limE (decide ((0 : Int) < (ou.length : Int))) 8) (ore (firstE (declE el true) in_) (ore (firstE (declE el true) ou) (ore (firstE (declE el false) lo) 0))))) := by show _ = _; rw [HV1.out, decide_eq_false hc0]; simp only [Bool.false_and, Bool.and_false]
    have hn0 : ¬ in_.length ≤ 64 := by omega
    have hmx : ¬ max (in_.length : Int) (ou.length : Int) ≤ 64 := by omega
    go_wp2_with fail
    refine (HM.out _ 3 (by decide) w2 (after_after (after_refl W2) d2)).mono ?_
    rintro e w3 hp
    replace hp := hp.to (F := limE false 3) (by first | rfl | exact congrArg (fun b => limE b 3) (decide_eq_false (by omega)))
    by_cases hE : limE false 3 = 0
    rotate_left
    · obtain ⟨F, hF, HP⟩ : ∃ F, e = pan i (-1) F ∧ Hid (ND w g eA el.length ec i R Rq (pan i (-1) F) w3) := by
        obtain ⟨rfl, c3_⟩ := hp.of1 hE
        have HX : Hid (X1 = limE false 3) := Lib.hid (HV1.out.trans (ore_no hE))
        have HE : Hid (R = limE false 3) := Lib.hid ((HS1.out (by rw [HX.out]; exact hE)).trans HX.out)
        exact ⟨_, rfl, Lib.hid (by rw [HE.out, HQ1.out (by rw [HX.out]; exact hE)]; exact ND.mk1 hE (B1.trans (Bex.of (after_after d2 c3_))))⟩
      clear hE hp
      subst hF
      unfold pan
      go_wp2_with fail
      exact ⟨rfl, HP.out⟩
    exact absurd hE (by decide)
  have hn0 : in_.length ≤ 64 := by omega
  by_cases hc1 : (ou.length : Int) ≤ 64
  rotate_left
  · replace HV1 : Hid (X1 = ore (limE false 3) (ore (limE (decide ((0 : Int) < (ou.length : Int))) 8) (ore (firstE (declE el true) in_) (ore (firstE (declE el true) ou) (ore (firstE (declE el false) lo) 0))))) := by show _ = _; rw [HV1.out, decide_eq_true hc0, decide_eq_false hc1]; simp only [Bool.false_and, Bool.and_false]
    have hn1 : ¬ ou.length ≤ 64 := by omega
    have hmx : ¬ max (in_.length : Int) (ou.length : Int) ≤ 64 := by omega
    go_wp2_with fail
    refine (HM.out _ 3 (by decide) w2 (after_after (after_refl W2) d2)).mono ?_
    rintro e w4 hp
    replace hp := hp.to (F := limE false 3) (by first | rfl | exact congrArg (fun b => limE b 3) (decide_eq_false (by omega)))
    by_cases hE : limE false 3 = 0
    rotate_left
    · obtain ⟨F, hF, HP⟩ : ∃ F, e = pan i (-1) F ∧ Hid (ND w g eA el.length ec i R Rq (pan i (-1) F) w4) := by
        obtain ⟨rfl, c4_⟩ := hp.of1 hE
        have HX : Hid (X1 = limE false 3) := Lib.hid (HV1.out.trans (ore_no hE))
        have HE : Hid (R = limE false 3) := Lib.hid ((HS1.out (by rw [HX.out]; exact hE)).trans HX.out)
        exact ⟨_, rfl, Lib.hid (by rw [HE.out, HQ1.out (by rw [HX.out]; exact hE)]; exact ND.mk1 hE (B1.trans (Bex.of (after_after d2 c4_))))⟩
      clear hE hp
      subst hF
      unfold pan
      go_wp2_with fail
      exact ⟨rfl, HP.out⟩
    exact absurd hE (by decide)
  have hn1 : ou.length ≤ 64 := by omega
  by_cases hc2 : (lo.length : Int) ≤ 256
  rotate_left
  · replace HV1 : Hid (X1 = ore (limE false 3) (ore (limE (decide ((0 : Int) < (ou.length : Int))) 8) (ore (firstE (declE el true) in_) (ore (firstE (declE el true) ou) (ore (firstE (declE el false) lo) 0))))) := by show _ = _; rw [HV1.out, decide_eq_true hc0, decide_eq_true hc1, decide_eq_false hc2]; simp only [Bool.false_and, Bool.and_false]
    have hn2 : ¬ lo.length ≤ 256 := by omega
    have hmx : max (in_.length : Int) (ou.length : Int) ≤ 64 := by omega
    go_wp2_with fail
    refine (HM.out _ 3 (by decide) w2 (after_after (after_refl W2) d2)).mono ?_
    rintro e w5 hp
    replace hp := hp.to (F := limE false 3) (by first | rfl | exact congrArg (fun b => limE b 3) (decide_eq_false (by omega)))
    by_cases hE : limE false 3 = 0
    rotate_left
    · obtain ⟨F, hF, HP⟩ : ∃ F, e = pan i (-1) F ∧ Hid (ND w g eA el.length ec i R Rq (pan i (-1) F) w5) := by
        obtain ⟨rfl, c5_⟩ := hp.of1 hE
        have HX : Hid (X1 = limE false 3) := Lib.hid (HV1.out.trans (ore_no hE))
        have HE : Hid (R = limE false 3) := Lib.hid ((HS1.out (by rw [HX.out]; exact hE)).trans HX.out)
        exact ⟨_, rfl, Lib.hid (by rw [HE.out, HQ1.out (by rw [HX.out]; exact hE)]; exact ND.mk1 hE (B1.trans (Bex.of (after_after d2 c5_))))⟩
      clear hE hp
      subst hF
      unfold pan
      go_wp2_with fail
      exact ⟨rfl, HP.out⟩
    exact absurd hE (by decide)
  have hn2 : lo.length ≤ 256 := by omega
  by_cases hc3 : (eq.length : Int) ≤ 256
  rotate_left
  · replace HV1 : Hid (X1 = ore (limE false 3) (ore (limE (decide ((0 : Int) < (ou.length : Int))) 8) (ore (firstE (declE el true) in_) (ore (firstE (declE el true) ou) (ore (firstE (declE el false) lo) 0))))) := by show _ = _; rw [HV1.out, decide_eq_true hc0, decide_eq_true hc1, decide_eq_true hc2, decide_eq_false hc3]; simp only [Bool.false_and, Bool.and_false]
    have hn3 : ¬ eq.length ≤ 256 := by omega
    have hmx : max (in_.length : Int) (ou.length : Int) ≤ 64 := by omega
    go_wp2_with fail
    refine (HM.out _ 3 (by decide) w2 (after_after (after_refl W2) d2)).mono ?_
    rintro e w6 hp
    replace hp := hp.to (F := limE false 3) (by first | rfl | exact congrArg (fun b => limE b 3) (decide_eq_false (by omega)))
    by_cases hE : limE false 3 = 0
    rotate_left
    · obtain ⟨F, hF, HP⟩ : ∃ F, e = pan i (-1) F ∧ Hid (ND w g eA el.length ec i R Rq (pan i (-1) F) w6) := by
        obtain ⟨rfl, c6_⟩ := hp.of1 hE
        have HX : Hid (X1 = limE false 3) := Lib.hid (HV1.out.trans (ore_no hE))
        have HE : Hid (R = limE false 3) := Lib.hid ((HS1.out (by rw [HX.out]; exact hE)).trans HX.out)
        exact ⟨_, rfl, Lib.hid (by rw [HE.out, HQ1.out (by rw [HX.out]; exact hE)]; exact ND.mk1 hE (B1.trans (Bex.of (after_after d2 c6_))))⟩
      clear hE hp
      subst hF
      unfold pan
      go_wp2_with fail
      exact ⟨rfl, HP.out⟩
    exact absurd hE (by decide)
  have hn3 : eq.length ≤ 256 := by omega
  by_cases hc4 : (au.length : Int) ≤ 8
  rotate_left
  · replace HV1 : Hid (X1 = ore (limE false 3) (ore (limE (decide ((0 : Int) < (ou.length : Int))) 8) (ore (firstE (declE el true) in_) (ore (firstE (declE el true) ou) (ore (firstE (declE el false) lo) 0))))) := by show _ = _; rw [HV1.out, decide_eq_true hc0, decide_eq_true hc1, decide_eq_true hc2, decide_eq_true hc3, decide_eq_false hc4]; simp only [Bool.false_and, Bool.and_false]
    have hn4 : ¬ au.length ≤ 8 := by omega
    have hmx : max (in_.length : Int) (ou.length : Int) ≤ 64 := by omega
    go_wp2_with fail
    refine (HM.out _ 3 (by decide) w2 (after_after (after_refl W2) d2)).mono ?_
    rintro e w7 hp
    replace hp := hp.to (F := limE false 3) (by first | rfl | exact congrArg (fun b => limE b 3) (decide_eq_false (by omega)))
    by_cases hE : limE false 3 = 0
    rotate_left
    · obtain ⟨F, hF, HP⟩ : ∃ F, e = pan i (-1) F ∧ Hid (ND w g eA el.length ec i R Rq (pan i (-1) F) w7) := by
        obtain ⟨rfl, c7_⟩ := hp.of1 hE
        have HX : Hid (X1 = limE false 3) := Lib.hid (HV1.out.trans (ore_no hE))
        have HE : Hid (R = limE false 3) := Lib.hid ((HS1.out (by rw [HX.out]; exact hE)).trans HX.out)
        exact ⟨_, rfl, Lib.hid (by rw [HE.out, HQ1.out (by rw [HX.out]; exact hE)]; exact ND.mk1 hE (B1.trans (Bex.of (after_after d2 c7_))))⟩
      clear hE hp
      subst hF
      unfold pan
      go_wp2_with fail
      exact ⟨rfl, HP.out⟩
    exact absurd hE (by decide)
  have hn4 : au.length ≤ 8 := by omega
  by_cases hc5 : (as_.length : Int) ≤ 8
  rotate_left
  · replace HV1 : Hid (X1 = ore (limE false 3) (ore (limE (decide ((0 : Int) < (ou.length : Int))) 8) (ore (firstE (declE el true) in_) (ore (firstE (declE el true) ou) (ore (firstE (declE el false) lo) 0))))) := by show _ = _; rw [HV1.out, decide_eq_true hc0, decide_eq_true hc1, decide_eq_true hc2, decide_eq_true hc3, decide_eq_true hc4, decide_eq_false hc5]; simp only [Bool.false_and, Bool.and_false]
    have hn5 : ¬ as_.length ≤ 8 := by omega
    have hmx : max (in_.length : Int) (ou.length : Int) ≤ 64 := by omega
    go_wp2_with fail
    refine (HM.out _ 3 (by decide) w2 (after_after (after_refl W2) d2)).mono ?_
    rintro e w8 hp
    replace hp := hp.to (F := limE false 3) (by first | rfl | exact congrArg (fun b => limE b 3) (decide_eq_false (by omega)))
    by_cases hE : limE false 3 = 0
    rotate_left
    · obtain ⟨F, hF, HP⟩ : ∃ F, e = pan i (-1) F ∧ Hid (ND w g eA el.length ec i R Rq (pan i (-1) F) w8) := by
        obtain ⟨rfl, c8_⟩ := hp.of1 hE
        have HX : Hid (X1 = limE false 3) := Lib.hid (HV1.out.trans (ore_no hE))
        have HE : Hid (R = limE false 3) := Lib.hid ((HS1.out (by rw [HX.out]; exact hE)).trans HX.out)
        exact ⟨_, rfl, Lib.hid (by rw [HE.out, HQ1.out (by rw [HX.out]; exact hE)]; exact ND.mk1 hE (B1.trans (Bex.of (after_after d2 c8_))))⟩
      clear hE hp
      subst hF
      unfold pan
      go_wp2_with fail
      exact ⟨rfl, HP.out⟩
    exact absurd hE (by decide)
  have hn5 : as_.length ≤ 8 := by omega
  by_cases hc6 : (en_.length : Int) ≤ 8
  rotate_left
  · replace HV1 : Hid (X1 = ore (limE false 3) (ore (limE (decide ((0 : Int) < (ou.length : Int))) 8) (ore (firstE (declE el true) in_) (ore (firstE (declE el true) ou) (ore (firstE (declE el false) lo) 0))))) := by show _ = _; rw [HV1.out, decide_eq_true hc0, decide_eq_true hc1, decide_eq_true hc2, decide_eq_true hc3, decide_eq_true hc4, decide_eq_true hc5, decide_eq_false hc6]; simp only [Bool.false_and, Bool.and_false]
    have hn6 : ¬ en_.length ≤ 8 := by omega
    have hmx : max (in_.length : Int) (ou.length : Int) ≤ 64 := by omega
    go_wp2_with fail
    refine (HM.out _ 3 (by decide) w2 (after_after (after_refl W2) d2)).mono ?_
    rintro e w9 hp
    replace hp := hp.to (F := limE false 3) (by first | rfl | exact congrArg (fun b => limE b 3) (decide_eq_false (by omega)))
    by_cases hE : limE false 3 = 0
    rotate_left
    · obtain ⟨F, hF, HP⟩ : ∃ F, e = pan i (-1) F ∧ Hid (ND w g eA el.length ec i R Rq (pan i (-1) F) w9) := by
        obtain ⟨rfl, c9_⟩ := hp.of1 hE
        have HX : Hid (X1 = limE false 3) := Lib.hid (HV1.out.trans (ore_no hE))
        have HE : Hid (R = limE false 3) := Lib.hid ((HS1.out (by rw [HX.out]; exact hE)).trans HX.out)
        exact ⟨_, rfl, Lib.hid (by rw [HE.out, HQ1.out (by rw [HX.out]; exact hE)]; exact ND.mk1 hE (B1.trans (Bex.of (after_after d2 c9_))))⟩
      clear hE hp
      subst hF
      unfold pan
      go_wp2_with fail
      exact ⟨rfl, HP.out⟩
    exact absurd hE (by decide)
  have hn6 : en_.length ≤ 8 := by omega
  have hmx : max (in_.length : Int) (ou.length : Int) ≤ 64 := by omega
  replace HV1 : Hid (X1 = ore (limE true 3) (ore (limE (decide ((0 : Int) < (ou.length : Int))) 8) (ore (firstE (declE el true) in_) (ore (firstE (declE el true) ou) (ore (firstE (declE el false) lo) 0))))) := by show _ = _; rw [HV1.out, decide_eq_true hc0, decide_eq_true hc1, decide_eq_true hc2, decide_eq_true hc3, decide_eq_true hc4, decide_eq_true hc5, decide_eq_true hc6]; rfl
  go_wp2_with fail
  refine (HM.out _ 3 (by decide) w2 (after_after (after_refl W2) d2)).mono ?_
  rintro e w10 hp
  replace hp := hp.to (F := limE true 3) (by first | rfl | exact congrArg (fun b => limE b 3) (decide_eq_true (by omega)))
  by_cases hE : limE true 3 = 0
  rotate_left
  · obtain ⟨F, hF, HP⟩ : ∃ F, e = pan i (-1) F ∧ Hid (ND w g eA el.length ec i R Rq (pan i (-1) F) w10) := by
      obtain ⟨rfl, c10_⟩ := hp.of1 hE
      have HX : Hid (X1 = limE true 3) := Lib.hid (HV1.out.trans (ore_no hE))
      have HE : Hid (R = limE true 3) := Lib.hid ((HS1.out (by rw [HX.out]; exact hE)).trans HX.out)
      exact ⟨_, rfl, Lib.hid (by rw [HE.out, HQ1.out (by rw [HX.out]; exact hE)]; exact ND.mk1 hE (B1.trans (Bex.of (after_after d2 c10_))))⟩
    clear hE hp
    subst hF
    unfold pan
    go_wp2_with fail
    exact ⟨rfl, HP.out⟩
  replace HV1 := Lib.hid (HV1.out.trans (ore_yes hE))
  obtain ⟨rfl, c10_⟩ := hp.ofz hE
  have d10 : After W2 w10 := after_after d2 c10_
  have b10 : After W2 w10 := after_after (b2) c10_
  clear k0 k1 k2 k3 k4 k5 k6 k7 kn l0 ll
  obtain ⟨k0, k1, k2, k3, k4, k5, k6, k7, kn, l0, ll⟩ := HK.out w10 (b10)
  clear hE hp
  clear hmx hc0 hn0 hc1 hn1 hc2 hn2 hc3 hn3 hc4 hn4 hc5 hn5 hc6 hn6
  go_wp2_with fail
  refine (HM.out _ 8 (by decide) w10 (after_after (after_refl W2) d10)).mono ?_
  rintro e w11 hp
  replace hp := hp.to (F := limE (decide ((0 : Int) < (ou.length : Int))) 8) (congrArg (fun b => limE b 8) (decide_eq_decide.2 (by omega)))
  by_cases hE : limE (decide ((0 : Int) < (ou.length : Int))) 8 = 0
  rotate_left
  · obtain ⟨F, hF, HP⟩ : ∃ F, e = pan i (-1) F ∧ Hid (ND w g eA el.length ec i R Rq (pan i (-1) F) w11) := by
      obtain ⟨rfl, c11_⟩ := hp.of1 hE
      have HX : Hid (X1 = limE (decide ((0 : Int) < (ou.length : Int))) 8) := Lib.hid (HV1.out.trans (ore_no hE))
      have HE : Hid (R = limE (decide ((0 : Int) < (ou.length : Int))) 8) := Lib.hid ((HS1.out (by rw [HX.out]; exact hE)).trans HX.out)
      exact ⟨_, rfl, Lib.hid (by rw [HE.out, HQ1.out (by rw [HX.out]; exact hE)]; exact ND.mk1 hE (B1.trans (Bex.of (after_after d10 c11_))))⟩
    clear hE hp
    subst hF
    unfold pan
    go_wp2_with fail
    exact ⟨rfl, HP.out⟩
  replace HV1 := Lib.hid (HV1.out.trans (ore_yes hE))
  obtain ⟨rfl, c11_⟩ := hp.ofz hE
  have d11 : After W2 w11 := after_after d10 c11_
  have b11 : After W2 w11 := after_after (b10) c11_
  clear k0 k1 k2 k3 k4 k5 k6 k7 kn l0 ll
  obtain ⟨k0, k1, k2, k3, k4, k5, k6, k7, kn, l0, ll⟩ := HK.out w11 (b11)
  clear hE hp
  go_wp2_with fail
  refine (HD.out inA inc in_ (HY.out.r1.decls W2 (k := a02)) true w11 (after_after (after_refl W2) d11)).mono ?_
  rintro e w12 hp
  by_cases hE : firstE (declE el true) in_ = 0
  rotate_left
  · obtain ⟨F, hF, HP⟩ : ∃ F, e = pan i (-1) F ∧ Hid (ND w g eA el.length ec i R Rq (pan i (-1) F) w12) := by
      obtain ⟨rfl, c12_⟩ := hp.of1 hE
      have HX : Hid (X1 = firstE (declE el true) in_) := Lib.hid (HV1.out.trans (ore_no hE))
      have HE : Hid (R = firstE (declE el true) in_) := Lib.hid ((HS1.out (by rw [HX.out]; exact hE)).trans HX.out)
      exact ⟨_, rfl, Lib.hid (by rw [HE.out, HQ1.out (by rw [HX.out]; exact hE)]; exact ND.mk1 hE (B1.trans (Bex.of (after_after d11 c12_))))⟩
    clear hE hp
    subst hF
    unfold pan
    go_wp2_with fail
    exact ⟨rfl, HP.out⟩
  replace HV1 := Lib.hid (HV1.out.trans (ore_yes hE))
  obtain ⟨rfl, c12_⟩ := hp.ofz hE
  have d12 : After W2 w12 := after_after d11 c12_
  have b12 : After W2 w12 := after_after (b11) c12_
  clear k0 k1 k2 k3 k4 k5 k6 k7 kn l0 ll
  obtain ⟨k0, k1, k2, k3, k4, k5, k6, k7, kn, l0, ll⟩ := HK.out w12 (b12)
  clear hE hp
  go_wp2_with fail
  refine (HD.out ouA ouc ou (HY.out.r2.decls W2 (k := a02)) true w12 (after_after (after_refl W2) d12)).mono ?_
  rintro e w13 hp
  by_cases hE : firstE (declE el true) ou = 0
  rotate_left
  · obtain ⟨F, hF, HP⟩ : ∃ F, e = pan i (-1) F ∧ Hid (ND w g eA el.length ec i R Rq (pan i (-1) F) w13) := by
      obtain ⟨rfl, c13_⟩ := hp.of1 hE
      have HX : Hid (X1 = firstE (declE el true) ou) := Lib.hid (HV1.out.trans (ore_no hE))
      have HE : Hid (R = firstE (declE el true) ou) := Lib.hid ((HS1.out (by rw [HX.out]; exact hE)).trans HX.out)
      exact ⟨_, rfl, Lib.hid (by rw [HE.out, HQ1.out (by rw [HX.out]; exact hE)]; exact ND.mk1 hE (B1.trans (Bex.of (after_after d12 c13_))))⟩
    clear hE hp
    subst hF
    unfold pan
    go_wp2_with fail
    exact ⟨rfl, HP.out⟩
  replace HV1 := Lib.hid (HV1.out.trans (ore_yes hE))
  obtain ⟨rfl, c13_⟩ := hp.ofz hE
  have d13 : After W2 w13 := after_after d12 c13_
  have b13 : After W2 w13 := after_after (b12) c13_
  clear k0 k1 k2 k3 k4 k5 k6 k7 kn l0 ll
  obtain ⟨k0, k1, k2, k3, k4, k5, k6, k7, kn, l0, ll⟩ := HK.out w13 (b13)
  clear hE hp
  go_wp2_with fail
  refine (HD.out loA loc lo (HY.out.r3.decls W2 (k := a02)) false w13 (after_after (after_refl W2) d13)).mono ?_
  rintro e w14 hp
  by_cases hE : firstE (declE el false) lo = 0
  rotate_left
  · obtain ⟨F, hF, HP⟩ : ∃ F, e = pan i (-1) F ∧ Hid (ND w g eA el.length ec i R Rq (pan i (-1) F) w14) := by
      obtain ⟨rfl, c14_⟩ := hp.of1 hE
      have HX : Hid (X1 = firstE (declE el false) lo) := Lib.hid (HV1.out.trans (ore_no hE))
      have HE : Hid (R = firstE (declE el false) lo) := Lib.hid ((HS1.out (by rw [HX.out]; exact hE)).trans HX.out)
      exact ⟨_, rfl, Lib.hid (by rw [HE.out, HQ1.out (by rw [HX.out]; exact hE)]; exact ND.mk1 hE (B1.trans (Bex.of (after_after d13 c14_))))⟩
    clear hE hp
    subst hF
    unfold pan
    go_wp2_with fail
    exact ⟨rfl, HP.out⟩
  replace HV1 := Lib.hid (HV1.out.trans (ore_yes hE))
  obtain ⟨rfl, c14_⟩ := hp.ofz hE
  have d14 : After W2 w14 := after_after d13 c14_
  have b14 : After W2 w14 := after_after (b13) c14_
  clear k0 k1 k2 k3 k4 k5 k6 k7 kn l0 ll
  obtain ⟨k0, k1, k2, k3, k4, k5, k6, k7, kn, l0, ll⟩ := HK.out w14 (b14)
  clear hE hp
  go_wp2_with fail
  replace HV0 := Lib.hid (HV0.out.trans (ore_yes HV1.out))
  replace HQ0 := Lib.hid (HQ0.out.trans (if_pos HV1.out))
  clear HV1 HS1 HQ1 HI HM HD
  go_loopw [82] (fun x wr => ∃ j : Nat, j ≤ eq.length ∧ x = .int .i64 (j : Nat) ∧ Hid (firstE (eqE el) (eq.take j) = 0) ∧ Hid (Bex g W2 wr ∧ ∃ q', Look wr g eA el.length ec i q')) (fun x _ => eq.length - (intOf x).toNat)
  case atStart => exact ⟨0, by omega, rfl, Lib.hid (by simp [firstE]), Lib.hid ⟨Bex.of d14, _, hl_.here w14 (k := d14)⟩⟩
  case round =>
    clear k0 k1 k2 k3 k4 k5 k6 k7 kn l0 ll
    obtain ⟨j, hj, rfl, HJj, HB⟩ := hrel
    obtain ⟨rj, hrj⟩ : ∃ r, wr = r := ⟨_, rfl⟩
    rw [hrj] at HB ⊢
    clear hrj wr
    obtain ⟨arj, Brj, k0, k1, k2, k3, k4, k5, k6, k7, kn⟩ := HKX.out rj HB.out.1
    obtain ⟨q', hlj⟩ := HB.out.2
    by_cases hltj : j < eq.length
    · have hltjI : (j : Int) < (eq.length : Int) := by omega
      obtain ⟨bj, pj, yj, rfl, hlej, HYj, hPj⟩ := (HY.out.r4.eqs rj (k := arj)).part (i := j) hltj
      obtain ⟨⟨qA, qc, ql⟩, ⟨k, o, t, v, s, A, c, xs⟩⟩ := yj
      obtain ⟨_, _, HPj_⟩ := HY.out.r4.elem (i := j) HYj.out
      have HPj := Lib.hid HPj_
      obtain ⟨z0, z1, z2, z3, z4, z5⟩ := hPj.six
      have z6 := hPj.c0
      simp only [Tx.kind, Tx.op, Tx.ty, Tx.va, Tx.name, Tx.ad, Tx.args, Tx.cap] at z0 z1 z2 z3 z4 z5 z6
      clear HPj_ hPj
      have HS1 : Hid (eqE el ⟨⟨qA, qc, ql⟩, .mk k o t v s A c xs⟩ ≠ 0 → R = eqE el ⟨⟨qA, qc, ql⟩, .mk k o t v s A c xs⟩) := Lib.hid fun h => by
        have h1 := firstE_stop (eqE el) HYj.out HJj.out h
        exact HV0.out.trans ((ore_no (by rw [h1]; exact h)).trans h1)
      have HQ1 : Hid (eqE el ⟨⟨qA, qc, ql⟩, .mk k o t v s A c xs⟩ ≠ 0 → Rq = (j : Int)) := Lib.hid fun h => by
        have h1 := whereE_at (eqE el) 0 HYj.out HJj.out h
        rw [Nat.zero_add] at h1
        exact HQ0.out.trans h1
      have HNj : Hid (eqE el ⟨⟨qA, qc, ql⟩, .mk k o t v s A c xs⟩ = 0 → firstE (eqE el) (eq.take (j + 1)) = 0) := Lib.hid fun h => (firstE_take (eqE el) HYj.out HJj.out).trans h
      obtain ⟨X1, hX_⟩ : ∃ X, X = eqE el ⟨⟨qA, qc, ql⟩, .mk k o t v s A c xs⟩ := ⟨_, rfl⟩
      have HV1 : Hid (X1 = ore (eqE el ⟨⟨qA, qc, ql⟩, .mk k o t v s A c xs⟩) 0) := Lib.hid (hX_.trans (ore_zero _).symm)
      rw [← hX_] at HS1 HNj HQ1
      clear hX_
      obtain ⟨gq, hgq⟩ : ∃ g, rj.heap.size = g := ⟨_, rfl⟩
      obtain ⟨W3, hW3, a3, bq, bl3⟩ : ∃ W, rj.alloc (.cells #[.slice qA ql.length qc, .int .i64 k, .int .i64 o, .int .i64 t, .int .i64 v, .string s, .slice A xs.length c] 48) = W ∧ After rj W ∧ Blk W gq 48 #[.slice qA ql.length qc, .int .i64 k, .int .i64 o, .int .i64 t, .int .i64 v, .string s, .slice A xs.length c] ∧ Look W g eA el.length ec i q' := ⟨_, rfl, inferInstance, by rw [← hgq]; exact Blk.new _ _ _, Look.here hlj _⟩
      have hneq : gq ≠ g := by have := Blk.lt hlj; omega
      obtain ⟨W4, hW4, B4, hl4⟩ : ∃ W, W3.setCell ⟨g, 2, none⟩ (.int .i64 (j : Nat)) = W ∧ Bex g W3 W ∧ Look W g eA el.length ec i (j : Nat) := ⟨_, rfl, Bex.set _ _ _, Blk.set_ bl3 2 _⟩
      have B5 : Bex g W2 W4 := HB.out.1.trans ((Bex.of a3).trans B4)
      have a04 : After w00 W4 := B5.after a02 hg
      have e3 := Blk.is_le bl3
      have e4 := bq.is_le
      have e5 := Blk.frozen bl3 2
      have e7 := (Look.fields bl3).2.2.1
      have bq4 := B4.blk bq hneq
      have e6 := bq4.is_le
      have v0 : W4.cell? ⟨gq, 0, none⟩ = some (.slice qA ql.length qc) := by rw [bq4.cell]; rfl
      have v1 : W4.cell? ⟨gq, 1, none⟩ = some (.int .i64 k) := by rw [bq4.cell]; rfl
      have v2 : W4.cell? ⟨gq, 2, none⟩ = some (.int .i64 o) := by rw [bq4.cell]; rfl
      have v3 : W4.cell? ⟨gq, 3, none⟩ = some (.int .i64 t) := by rw [bq4.cell]; rfl
      have v4 : W4.cell? ⟨gq, 4, none⟩ = some (.int .i64 v) := by rw [bq4.cell]; rfl
      have v5 : W4.cell? ⟨gq, 5, none⟩ = some (.string s) := by rw [bq4.cell]; rfl
      have v6 : W4.cell? ⟨gq, 6, none⟩ = some (.slice A xs.length c) := by rw [bq4.cell]; rfl
      have HQ : Hid (Calls Try.prog 70 #[.pointer (some ⟨g, 0, none⟩), .agg #[.slice qA ql.length qc, .int .i64 k, .int .i64 o, .int .i64 t, .int .i64 v, .string s, .slice A xs.length c]] W4 fun e w' => PE W4 i (j : Nat) (eqE el ⟨⟨qA, qc, ql⟩, .mk k o t v s A c xs⟩) e w') := leq_any (en := ⟨eA, ec, el⟩) hl4 (HEN.out.enums W4 (k := a04)) ⟨qA, qc, ql⟩ (HPj.out.lf.strs W4 (k := a04)) (HPj.out.ri.here W4 (k := a04)) HPj.out.tb trivial W4 (after_refl _)
      go_wp2_with fail
      try rw [hW3]
      try rw [hW4]
      try rw [hgq]
      clear hW3 hW4 hgq e3 e5 e7
      refine (HQ.out).mono ?_
      rintro e w15 hp
      by_cases hE : eqE el ⟨⟨qA, qc, ql⟩, .mk k o t v s A c xs⟩ = 0
      rotate_left
      · obtain ⟨F, hF, HP⟩ : ∃ F, e = pan i (j : Nat) F ∧ Hid (ND w g eA el.length ec i R Rq (pan i (j : Nat) F) w15) := by
          obtain ⟨rfl, c15_⟩ := hp.of1 hE
          have HX : Hid (X1 = eqE el ⟨⟨qA, qc, ql⟩, .mk k o t v s A c xs⟩) := Lib.hid (HV1.out.trans (ore_no hE))
          have HE : Hid (R = eqE el ⟨⟨qA, qc, ql⟩, .mk k o t v s A c xs⟩) := Lib.hid ((HS1.out (by rw [HX.out]; exact hE)).trans HX.out)
          exact ⟨_, rfl, Lib.hid (by rw [HE.out, HQ1.out (by rw [HX.out]; exact hE)]; exact ND.mk1 hE (B1.trans (B5.trans (Bex.of (after_after (after_refl W4) c15_)))))⟩
        clear hE hp
        subst hF
        unfold pan
        go_wp2_with fail
        exact ⟨rfl, HP.out⟩
      replace HV1 := Lib.hid (HV1.out.trans (ore_yes hE))
      obtain ⟨rfl, c15_⟩ := hp.ofz hE
      have d15 : After W4 w15 := after_after (after_refl W4) c15_
      have b15 : After W4 w15 := after_after (after_refl W4) c15_
      clear hE hp
      go_wp2_with fail
      go_roundw
      case rel => exact ⟨j + 1, by omega, by go_num, Lib.hid (HNj.out HV1.out), Lib.hid ⟨B5.trans (Bex.of d15), _, hl4.here w15 (k := d15)⟩⟩
      case measure => simp only [intOf]; omega
    · have hz := firstE_all (eqE el) hltj HJj.out
      replace HV0 := Lib.hid (HV0.out.trans (ore_yes hz))
      replace HQ0 := Lib.hid (HQ0.out.trans (whereE_none (eqE el) eq 0 hz))
      clear hz
      obtain ⟨W6, hW6, B6, hl_⟩ : ∃ W, rj.setCell ⟨g, 2, none⟩ (.int .i64 (-1)) = W ∧ Bex g rj W ∧ Look W g eA el.length ec i (-1) := ⟨_, rfl, Bex.set _ _ _, Blk.set_ hlj 2 _⟩
      have B7 : Bex g W2 W6 := HB.out.1.trans B6
      have a06 : After w00 W6 := B7.after a02 hg
      have e3 := Blk.is_le hlj
      have e5 := Blk.frozen hlj 2
      have e7 := (Look.fields hlj).2.2.1
      have he_ := HEN.out.enums W6 (k := a06)
      have HA : Hid (∀ (A1 : Option Addr) (c1 : Nat) (l : List StT), RAu False W6 (.mk A1 c1 l) → ∀ U, After W6 U → Calls Try.prog 71 #[.pointer (some ⟨g, 0, none⟩), .agg #[.slice A1 l.length c1], .int .i64 0] U fun e w' => PE U i (-1) (auE el 0 (.mk A1 c1 l)) e w') := fun A1 c1 l hh U hU => lauto_any hl_ he_ A1 c1 l hh U hU
      have HG : Hid (∀ e, ∀ U, After W6 U → Calls Try.prog 72 #[.pointer (some ⟨g, 0, none⟩), .int .i64 e] U fun e' w' => PE U i (-1) e e' w') := fun e U hU => right_any (hl_.here U (k := hU)) e
      have HX : Hid (∀ (k o t v : Int) (s : ByteArray) (A : Option Addr) (c : Nat) (xs : List Tx), True → TxB (.mk k o t v s A c xs) → RX W6 (.mk k o t v s A c xs) → ∀ U, After W6 U → Calls Try.prog 8 #[.slice eA el.length ec, .agg #[.int .i64 k, .int .i64 o, .int .i64 t, .int .i64 v, .string s, .slice A xs.length c]] U fun e w' => e = .returned (.int .i64 (exE el (.mk k o t v s A c xs))) ∧ ∃ z, w' = U.more z) := fun k o t v s A c xs hs hB hX U hU => (sexpr_any he_ hs hX hB U hU).mono fun e w_ h_ => ⟨h_.1, have := h_.2; After.is_more _ _⟩
      clear he_
      have HK : Hid (∀ U, After W6 U → U.cell? ⟨gn, 0, none⟩ = some (.string nm) ∧ U.cell? ⟨gn, 1, none⟩ = some (.slice inA in_.length inc) ∧ U.cell? ⟨gn, 2, none⟩ = some (.slice ouA ou.length ouc) ∧ U.cell? ⟨gn, 3, none⟩ = some (.slice loA lo.length loc) ∧ U.cell? ⟨gn, 4, none⟩ = some (.slice eqA eq.length eqc) ∧ U.cell? ⟨gn, 5, none⟩ = some (.slice auA au.length auc) ∧ U.cell? ⟨gn, 6, none⟩ = some (.slice asA as_.length asc) ∧ U.cell? ⟨gn, 7, none⟩ = some (.slice enA en_.length enc) ∧ Le (gn + 1) U ∧ U.cell? ⟨g, 0, none⟩ = some (.slice eA el.length ec) ∧ Le (g + 1) U) := fun U hU => by
        obtain ⟨_, _, x0, x1, x2, x3, x4, x5, x6, x7, x8⟩ := HKX.out U (B7.trans (Bex.of hU))
        exact ⟨x0, x1, x2, x3, x4, x5, x6, x7, x8, (hl_.here U (k := hU)).fields.1, (hl_.here U (k := hU)).fields.2.2.2⟩
      have HKrj := Lib.hid kn
      clear k0 k1 k2 k3 k4 k5 k6 k7 kn
      obtain ⟨k0, k1, k2, k3, k4, k5, k6, k7, kn, l0, ll⟩ := HK.out W6 (after_refl _)
      have e9 := HKrj.out
      go_wp2_with fail
      try rw [hW6]
      clear hW6 e3 e5 e7 e9 HKrj
      have dBW6 := after_refl W6
      go_loopw [103] (fun i wr => ∃ x : Nat, x ≤ au.length ∧ i = .int .i64 (x : Nat) ∧ Hid (firstE (auE el 0) (au.take x) = 0) ∧ After W6 wr) (fun i _ => au.length - (intOf i).toNat)
      case atStart => exact ⟨0, by omega, rfl, Lib.hid (by simp [firstE]), after_refl W6⟩
      case round =>
        obtain ⟨x, hx, rfl, HJx, arx⟩ := hrel
        have drx : After W6 wr := after_after dBW6 arx
        obtain ⟨rx, hrx⟩ : ∃ r, wr = r := ⟨_, rfl⟩
        rw [hrx] at arx drx ⊢
        clear hrx wr
        clear k0 k1 k2 k3 k4 k5 k6 k7 kn l0 ll
        obtain ⟨k0, k1, k2, k3, k4, k5, k6, k7, kn, l0, ll⟩ := HK.out rx (arx)
        by_cases hltx : x < au.length
        · have hltxI : (x : Int) < (au.length : Int) := by omega
          obtain ⟨bx, px, yx, rfl, hlex, HYx, hPx⟩ := ((HY.out.r5.aus W6 (k := a06)).aus rx (k := after_after (after_refl W6) drx)).part (i := x) hltx
          obtain ⟨xA, xc, xl⟩ := yx
          obtain ⟨_, _, HPx_⟩ := (HY.out.r5.aus W6 (k := a06)).elem (i := x) HYx.out
          have HPx := Lib.hid HPx_
          have y0 : rx.cell? ⟨bx, px + x, none⟩ = some (.slice xA xl.length xc) := by have := hPx.1; rwa [Nat.mul_one] at this
          clear HPx_ hPx
          have HS1 : Hid ((auE el 0 (.mk xA xc xl)) ≠ 0 → R = (auE el 0 (.mk xA xc xl))) := Lib.hid fun h => by
            have h1 := firstE_stop (auE el 0) HYx.out HJx.out h
            have h2 : R = (auE el 0 (.mk xA xc xl)) := HV0.out.trans ((ore_no (by rw [h1]; exact h)).trans h1)
            exact h2
          have HV1 : Hid ((auE el 0 (.mk xA xc xl)) = ore (auE el 0 (.mk xA xc xl)) 0) := Lib.hid (ore_zero _).symm
          have HNx : Hid ((auE el 0 (.mk xA xc xl)) = 0 → firstE (auE el 0) (au.take (x + 1)) = 0) := Lib.hid fun h => (firstE_take (auE el 0) HYx.out HJx.out).trans h
          obtain ⟨X1, hX_⟩ : ∃ X, X = (auE el 0 (.mk xA xc xl)) := ⟨_, rfl⟩
          replace HV1 := Lib.hid (hX_.trans HV1.out)
          rw [← hX_] at HS1 HNx
          clear hX_
          obtain ⟨g16, hg16⟩ : ∃ g, rx.heap.size = g := ⟨_, rfl⟩
          obtain ⟨W16, hW16, HK16, a16_⟩ : ∃ W, rx.alloc (.cells #[.slice xA xl.length xc] 86) = W ∧ Hid (∀ U : World, After W U → U.cell? ⟨g16, 0, none⟩ = some (.slice xA xl.length xc) ∧ Le (g16 + 1) U ∧ U.cell? ⟨g, 0, none⟩ = some (.slice eA el.length ec) ∧ Le (g + 1) U) ∧ After rx W := by
            refine ⟨_, rfl, fun U hU => ?_, inferInstance⟩
            have y0 := (Blk.new rx 86 #[.slice xA xl.length xc]).after (w' := U)
            rw [hg16] at y0
            have q0 : After W6 U := after_after (after_refl W6) (after_after drx (after_after inferInstance hU))
            have q1 : After W6 U := after_after (arx) (after_after inferInstance hU)
            exact ⟨by rw [y0.cell]; rfl, y0.is_le, (HK.out U q0).2.2.2.2.2.2.2.2.2.1, (HK.out U q0).2.2.2.2.2.2.2.2.2.2⟩
          have d16 : After W6 W16 := after_after drx a16_
          obtain ⟨f0, m16_, o0_, o1_⟩ := HK16.out W16 (after_refl _)
          go_wp2_with fail
          try rw [hW16]
          try rw [hg16]
          clear hW16 hg16
          clear k0 k1 k2 k3 k4 k5 k6 k7 kn l0 ll
          obtain ⟨_, _, l0, ll⟩ := HK16.out W16 (after_refl _)
          clear o0_ o1_
          refine (HA.out xA xc xl HPx.out.2 W16 (after_after (after_refl W6) d16)).mono ?_
          rintro e w17 hp
          by_cases hE : auE el 0 (.mk xA xc xl) = 0
          rotate_left
          · obtain ⟨F, hF, HP⟩ : ∃ F, e = pan i (-1) F ∧ Hid (ND w g eA el.length ec i R Rq (pan i (-1) F) w17) := by
              obtain ⟨rfl, c17_⟩ := hp.of1 hE
              have HX : Hid (X1 = auE el 0 (.mk xA xc xl)) := Lib.hid (HV1.out.trans (ore_no hE))
              have HE : Hid (R = auE el 0 (.mk xA xc xl)) := Lib.hid ((HS1.out (by rw [HX.out]; exact hE)).trans HX.out)
              exact ⟨_, rfl, Lib.hid (by rw [HE.out, HQ0.out]; exact ND.mk1 hE (B1.trans (B7.trans (Bex.of (after_after d16 c17_)))))⟩
            clear hE hp
            subst hF
            unfold pan
            go_wp2_with fail
            exact ⟨rfl, HP.out⟩
          replace HV1 := Lib.hid (HV1.out.trans (ore_yes hE))
          obtain ⟨rfl, c17_⟩ := hp.ofz hE
          have d17 : After W6 w17 := after_after d16 c17_
          have b17 : After W16 w17 := after_after (after_refl W16) c17_
          clear f0 m16_ l0 ll
          obtain ⟨f0, m16_, l0, ll⟩ := HK16.out w17 (b17)
          clear hE hp
          go_wp2_with fail
          go_roundw
          case rel => exact ⟨x + 1, by omega, by go_num, Lib.hid (HNx.out HV1.out), after_after (arx) (after_after a16_ (b17))⟩
          case measure => simp only [intOf]; omega
        · replace HV0 := Lib.hid (HV0.out.trans (ore_yes (firstE_all (auE el 0) hltx HJx.out)))
          go_wp2_with fail
          go_loopw [114] (fun i wr => ∃ m : Nat, m ≤ as_.length ∧ i = .int .i64 (m : Nat) ∧ Hid (firstE (exE el) (as_.take m) = 0) ∧ After W6 wr) (fun i _ => as_.length - (intOf i).toNat)
          case atStart => exact ⟨0, by omega, rfl, Lib.hid (by simp [firstE]), arx⟩
          case round =>
            obtain ⟨m, hm, rfl, HJm, arm⟩ := hrel
            have drm : After W6 wr := after_after dBW6 arm
            obtain ⟨rm, hrm⟩ : ∃ r, wr = r := ⟨_, rfl⟩
            rw [hrm] at arm drm ⊢
            clear hrm wr
            clear k0 k1 k2 k3 k4 k5 k6 k7 kn l0 ll
            obtain ⟨k0, k1, k2, k3, k4, k5, k6, k7, kn, l0, ll⟩ := HK.out rm (arm)
            by_cases hltm : m < as_.length
            · have hltmI : (m : Int) < (as_.length : Int) := by omega
              obtain ⟨bm, pm, ym, rfl, hlem, HYm, hPm⟩ := ((HY.out.r6.txs W6 (k := a06)).txs rm (k := after_after (after_refl W6) drm)).part (i := m) hltm
              obtain ⟨k, o, t, v, s, A, c, xs⟩ := ym
              obtain ⟨_, _, HPm_⟩ := (HY.out.r6.txs W6 (k := a06)).elem (i := m) HYm.out
              have HX1 := Lib.hid (HX.out k o t v s A c xs trivial HPm_.tb HPm_.rx)
              obtain ⟨z0, z1, z2, z3, z4, z5⟩ := hPm.six
              simp only [Tx.kind, Tx.op, Tx.ty, Tx.va, Tx.name, Tx.ad, Tx.args, Tx.cap] at z0 z1 z2 z3 z4 z5
              obtain ⟨ee, hee⟩ : ∃ z, exE el (.mk k o t v s A c xs) = z := ⟨_, rfl⟩
              rw [hee] at HX1
              clear HPm_ hPm
              have HS1 : Hid ((exE el (.mk k o t v s A c xs)) ≠ 0 → R = (exE el (.mk k o t v s A c xs))) := Lib.hid fun h => by
                have h1 := firstE_stop (exE el) HYm.out HJm.out h
                have h2 : R = (exE el (.mk k o t v s A c xs)) := HV0.out.trans ((ore_no (by rw [h1]; exact h)).trans h1)
                exact h2
              have HV1 : Hid ((exE el (.mk k o t v s A c xs)) = ore ee 0) := by show _ = _; rw [ore_zero, hee]
              have HNm : Hid ((exE el (.mk k o t v s A c xs)) = 0 → firstE (exE el) (as_.take (m + 1)) = 0) := Lib.hid fun h => (firstE_take (exE el) HYm.out HJm.out).trans h
              obtain ⟨X1, hX_⟩ : ∃ X, X = (exE el (.mk k o t v s A c xs)) := ⟨_, rfl⟩
              replace HV1 := Lib.hid (hX_.trans HV1.out)
              rw [← hX_] at HS1 HNm
              clear hX_
              obtain ⟨g18, hg18⟩ : ∃ g, rm.heap.size = g := ⟨_, rfl⟩
              obtain ⟨W18, hW18, HK18, a18_⟩ : ∃ W, rm.alloc (.cells #[.int .i64 k, .int .i64 o, .int .i64 t, .int .i64 v, .string s, .slice A xs.length c] 25) = W ∧ Hid (∀ U : World, After W U → U.cell? ⟨g18, 0, none⟩ = some (.int .i64 k) ∧ U.cell? ⟨g18, 1, none⟩ = some (.int .i64 o) ∧ U.cell? ⟨g18, 2, none⟩ = some (.int .i64 t) ∧ U.cell? ⟨g18, 3, none⟩ = some (.int .i64 v) ∧ U.cell? ⟨g18, 4, none⟩ = some (.string s) ∧ U.cell? ⟨g18, 5, none⟩ = some (.slice A xs.length c) ∧ Le (g18 + 1) U ∧ U.cell? ⟨g, 0, none⟩ = some (.slice eA el.length ec) ∧ Le (g + 1) U) ∧ After rm W := by
                refine ⟨_, rfl, fun U hU => ?_, inferInstance⟩
                have y0 := (Blk.new rm 25 #[.int .i64 k, .int .i64 o, .int .i64 t, .int .i64 v, .string s, .slice A xs.length c]).after (w' := U)
                rw [hg18] at y0
                have q0 : After W6 U := after_after (after_refl W6) (after_after drm (after_after inferInstance hU))
                have q1 : After W6 U := after_after (arm) (after_after inferInstance hU)
                exact ⟨by rw [y0.cell]; rfl, by rw [y0.cell]; rfl, by rw [y0.cell]; rfl, by rw [y0.cell]; rfl, by rw [y0.cell]; rfl, by rw [y0.cell]; rfl, y0.is_le, (HK.out U q0).2.2.2.2.2.2.2.2.2.1, (HK.out U q0).2.2.2.2.2.2.2.2.2.2⟩
              have d18 : After W6 W18 := after_after drm a18_
              obtain ⟨f0, f1, f2, f3, f4, f5, m18_, o0_, o1_⟩ := HK18.out W18 (after_refl _)
              go_wp2_with fail
              try rw [hW18]
              try rw [hg18]
              clear hW18 hg18
              clear k0 k1 k2 k3 k4 k5 k6 k7 kn l0 ll
              obtain ⟨_, _, _, _, _, _, _, l0, ll⟩ := HK18.out W18 (after_refl _)
              clear o0_ o1_
              have e0_ : After W6 W18 := after_after (after_refl W6) d18
              refine wp_region_more_tail 7 (by kernel_rfl) (by kernel_rfl) ?_
              simp only [List.take_succ_cons, List.take_zero, List.drop_succ_cons, List.drop_zero]
              repeat (go_big_quiet_step ((go_at_call 8; exact Calls.more_of (HX1.out _ inferInstance))))
              refine wpQuiet_nil ?_
              rintro _ ⟨y_, rfl⟩
              obtain ⟨w19, hv_, c19_⟩ : ∃ v, W18.more y_ = v ∧ After W18 v := ⟨_, rfl, inferInstance⟩
              rw [hv_]
              clear hv_ e0_
              have d19 : After W6 w19 := after_after d18 c19_
              have b19 : After W18 w19 := after_after (after_refl W18) c19_
              clear f0 f1 f2 f3 f4 f5 m18_ l0 ll
              obtain ⟨f0, f1, f2, f3, f4, f5, m18_, l0, ll⟩ := HK18.out w19 (b19)
              go_wp2_with fail
              refine (HG.out ee w19 (after_after (after_refl W6) d19)).mono ?_
              rintro e w20 hp
              by_cases hE : ee = 0
              rotate_left
              · obtain ⟨F, hF, HP⟩ : ∃ F, e = pan i (-1) F ∧ Hid (ND w g eA el.length ec i R Rq (pan i (-1) F) w20) := by
                  obtain ⟨rfl, c20_⟩ := hp.of1 hE
                  have HX : Hid (X1 = ee) := Lib.hid (HV1.out.trans (ore_no hE))
                  have HE : Hid (R = ee) := Lib.hid ((HS1.out (by rw [HX.out]; exact hE)).trans HX.out)
                  exact ⟨_, rfl, Lib.hid (by rw [HE.out, HQ0.out]; exact ND.mk1 hE (B1.trans (B7.trans (Bex.of (after_after d19 c20_)))))⟩
                clear hE hp
                subst hF
                unfold pan
                go_wp2_with fail
                exact ⟨rfl, HP.out⟩
              replace HV1 := Lib.hid (HV1.out.trans (ore_yes hE))
              obtain ⟨rfl, c20_⟩ := hp.ofz hE
              have d20 : After W6 w20 := after_after d19 c20_
              have b20 : After W18 w20 := after_after (b19) c20_
              clear f0 f1 f2 f3 f4 f5 m18_ l0 ll
              obtain ⟨f0, f1, f2, f3, f4, f5, m18_, l0, ll⟩ := HK18.out w20 (b20)
              clear hE hp
              go_wp2_with fail
              go_roundw
              case rel => exact ⟨m + 1, by omega, by go_num, Lib.hid (HNm.out HV1.out), after_after (arm) (after_after a18_ (b20))⟩
              case measure => simp only [intOf]; omega
            · replace HV0 := Lib.hid (HV0.out.trans (ore_yes (firstE_all (exE el) hltm HJm.out)))
              go_wp2_with fail
              go_loopw [130] (fun i wr => ∃ n : Nat, n ≤ en_.length ∧ i = .int .i64 (n : Nat) ∧ Hid (firstE (exE el) (en_.take n) = 0) ∧ After W6 wr) (fun i _ => en_.length - (intOf i).toNat)
              case atStart => exact ⟨0, by omega, rfl, Lib.hid (by simp [firstE]), arm⟩
              case round =>
                obtain ⟨n, hn, rfl, HJn, arn⟩ := hrel
                have drn : After W6 wr := after_after dBW6 arn
                obtain ⟨rn, hrn⟩ : ∃ r, wr = r := ⟨_, rfl⟩
                rw [hrn] at arn drn ⊢
                clear hrn wr
                clear k0 k1 k2 k3 k4 k5 k6 k7 kn l0 ll
                obtain ⟨k0, k1, k2, k3, k4, k5, k6, k7, kn, l0, ll⟩ := HK.out rn (arn)
                by_cases hltn : n < en_.length
                · have hltnI : (n : Int) < (en_.length : Int) := by omega
                  obtain ⟨bn, pn, yn, rfl, hlen, HYn, hPn⟩ := ((HY.out.r7.txs W6 (k := a06)).txs rn (k := after_after (after_refl W6) drn)).part (i := n) hltn
                  obtain ⟨k, o, t, v, s, A, c, xs⟩ := yn
                  obtain ⟨_, _, HPn_⟩ := (HY.out.r7.txs W6 (k := a06)).elem (i := n) HYn.out
                  have HX1 := Lib.hid (HX.out k o t v s A c xs trivial HPn_.tb HPn_.rx)
                  obtain ⟨z0, z1, z2, z3, z4, z5⟩ := hPn.six
                  simp only [Tx.kind, Tx.op, Tx.ty, Tx.va, Tx.name, Tx.ad, Tx.args, Tx.cap] at z0 z1 z2 z3 z4 z5
                  obtain ⟨ee, hee⟩ : ∃ z, exE el (.mk k o t v s A c xs) = z := ⟨_, rfl⟩
                  rw [hee] at HX1
                  clear HPn_ hPn
                  have HS1 : Hid ((exE el (.mk k o t v s A c xs)) ≠ 0 → R = (exE el (.mk k o t v s A c xs))) := Lib.hid fun h => by
                    have h1 := firstE_stop (exE el) HYn.out HJn.out h
                    have h2 : R = (exE el (.mk k o t v s A c xs)) := HV0.out.trans ((ore_no (by rw [h1]; exact h)).trans h1)
                    exact h2
                  have HV1 : Hid ((exE el (.mk k o t v s A c xs)) = ore ee 0) := by show _ = _; rw [ore_zero, hee]
                  have HNn : Hid ((exE el (.mk k o t v s A c xs)) = 0 → firstE (exE el) (en_.take (n + 1)) = 0) := Lib.hid fun h => (firstE_take (exE el) HYn.out HJn.out).trans h
                  obtain ⟨X1, hX_⟩ : ∃ X, X = (exE el (.mk k o t v s A c xs)) := ⟨_, rfl⟩
                  replace HV1 := Lib.hid (hX_.trans HV1.out)
                  rw [← hX_] at HS1 HNn
                  clear hX_
                  obtain ⟨g21, hg21⟩ : ∃ g, rn.heap.size = g := ⟨_, rfl⟩
                  obtain ⟨W21, hW21, HK21, a21_⟩ : ∃ W, rn.alloc (.cells #[.int .i64 k, .int .i64 o, .int .i64 t, .int .i64 v, .string s, .slice A xs.length c] 25) = W ∧ Hid (∀ U : World, After W U → U.cell? ⟨g21, 0, none⟩ = some (.int .i64 k) ∧ U.cell? ⟨g21, 1, none⟩ = some (.int .i64 o) ∧ U.cell? ⟨g21, 2, none⟩ = some (.int .i64 t) ∧ U.cell? ⟨g21, 3, none⟩ = some (.int .i64 v) ∧ U.cell? ⟨g21, 4, none⟩ = some (.string s) ∧ U.cell? ⟨g21, 5, none⟩ = some (.slice A xs.length c) ∧ Le (g21 + 1) U ∧ U.cell? ⟨g, 0, none⟩ = some (.slice eA el.length ec) ∧ Le (g + 1) U) ∧ After rn W := by
                    refine ⟨_, rfl, fun U hU => ?_, inferInstance⟩
                    have y0 := (Blk.new rn 25 #[.int .i64 k, .int .i64 o, .int .i64 t, .int .i64 v, .string s, .slice A xs.length c]).after (w' := U)
                    rw [hg21] at y0
                    have q0 : After W6 U := after_after (after_refl W6) (after_after drn (after_after inferInstance hU))
                    have q1 : After W6 U := after_after (arn) (after_after inferInstance hU)
                    exact ⟨by rw [y0.cell]; rfl, by rw [y0.cell]; rfl, by rw [y0.cell]; rfl, by rw [y0.cell]; rfl, by rw [y0.cell]; rfl, by rw [y0.cell]; rfl, y0.is_le, (HK.out U q0).2.2.2.2.2.2.2.2.2.1, (HK.out U q0).2.2.2.2.2.2.2.2.2.2⟩
                  have d21 : After W6 W21 := after_after drn a21_
                  obtain ⟨f0, f1, f2, f3, f4, f5, m21_, o0_, o1_⟩ := HK21.out W21 (after_refl _)
                  go_wp2_with fail
                  try rw [hW21]
                  try rw [hg21]
                  clear hW21 hg21
                  clear k0 k1 k2 k3 k4 k5 k6 k7 kn l0 ll
                  obtain ⟨_, _, _, _, _, _, _, l0, ll⟩ := HK21.out W21 (after_refl _)
                  clear o0_ o1_
                  have e0_ : After W6 W21 := after_after (after_refl W6) d21
                  refine wp_region_more_tail 7 (by kernel_rfl) (by kernel_rfl) ?_
                  simp only [List.take_succ_cons, List.take_zero, List.drop_succ_cons, List.drop_zero]
                  repeat (go_big_quiet_step ((go_at_call 8; exact Calls.more_of (HX1.out _ inferInstance))))
                  refine wpQuiet_nil ?_
                  rintro _ ⟨y_, rfl⟩
                  obtain ⟨w22, hv_, c22_⟩ : ∃ v, W21.more y_ = v ∧ After W21 v := ⟨_, rfl, inferInstance⟩
                  rw [hv_]
                  clear hv_ e0_
                  have d22 : After W6 w22 := after_after d21 c22_
                  have b22 : After W21 w22 := after_after (after_refl W21) c22_
                  clear f0 f1 f2 f3 f4 f5 m21_ l0 ll
                  obtain ⟨f0, f1, f2, f3, f4, f5, m21_, l0, ll⟩ := HK21.out w22 (b22)
                  go_wp2_with fail
                  refine (HG.out ee w22 (after_after (after_refl W6) d22)).mono ?_
                  rintro e w23 hp
                  by_cases hE : ee = 0
                  rotate_left
                  · obtain ⟨F, hF, HP⟩ : ∃ F, e = pan i (-1) F ∧ Hid (ND w g eA el.length ec i R Rq (pan i (-1) F) w23) := by
                      obtain ⟨rfl, c23_⟩ := hp.of1 hE
                      have HX : Hid (X1 = ee) := Lib.hid (HV1.out.trans (ore_no hE))
                      have HE : Hid (R = ee) := Lib.hid ((HS1.out (by rw [HX.out]; exact hE)).trans HX.out)
                      exact ⟨_, rfl, Lib.hid (by rw [HE.out, HQ0.out]; exact ND.mk1 hE (B1.trans (B7.trans (Bex.of (after_after d22 c23_)))))⟩
                    clear hE hp
                    subst hF
                    unfold pan
                    go_wp2_with fail
                    exact ⟨rfl, HP.out⟩
                  replace HV1 := Lib.hid (HV1.out.trans (ore_yes hE))
                  obtain ⟨rfl, c23_⟩ := hp.ofz hE
                  have d23 : After W6 w23 := after_after d22 c23_
                  have b23 : After W21 w23 := after_after (b22) c23_
                  clear f0 f1 f2 f3 f4 f5 m21_ l0 ll
                  obtain ⟨f0, f1, f2, f3, f4, f5, m21_, l0, ll⟩ := HK21.out w23 (b23)
                  clear hE hp
                  go_wp2_with fail
                  go_roundw
                  case rel => exact ⟨n + 1, by omega, by go_num, Lib.hid (HNn.out HV1.out), after_after (arn) (after_after a21_ (b23))⟩
                  case measure => simp only [intOf]; omega
                · replace HV0 := Lib.hid (HV0.out.trans (ore_yes (firstE_all (exE el) hltn HJn.out)))
                  go_wp2_with fail
                  go_end0
                  exact by have hz := HV0.out; rw [hz]; exact ND.mk0 (B1.trans (B7.trans (Bex.of drn))) (hl_.here rn (k := drn))
end Go.Proofs.Ytdghfhnkacfahaa
