/-
  Contracts: slices.EqualFunc at eight types (printed by gen_seqf.py).
-/
import Derived.Test.YtdghfhnkacfahaaSQa
set_option linter.unusedVariables false
set_option linter.unusedSimpArgs false
namespace Go.Proofs.Ytdghfhnkacfahaa
open Go.RowKit Go.BigFrame

variable {S : Prop}
def enImg : EnD → Value
  | ⟨nm, ⟨tA, tc, tl⟩⟩ => .agg #[.string nm, .slice tA tl.length tc]
def declImg : DeclD → Value
  | ⟨nm, ty, ⟨cA, cc, cl⟩⟩ => .agg #[.string nm, .int .i64 ty, .slice cA cl.length cc]
def eqImg : EqD → Value
  | ⟨⟨lA, lc, ll⟩, ⟨k, o, t, v, s, A, c, xs⟩⟩ => .agg #[.slice lA ll.length lc, .int .i64 k, .int .i64 o, .int .i64 t, .int .i64 v, .string s, .slice A xs.length c]
def trImg : TrD → Value
  | ⟨⟨k, o, t, v, s, A, c, xs⟩, ds, re⟩ => .agg #[.int .i64 k, .int .i64 o, .int .i64 t, .int .i64 v, .string s, .slice A xs.length c, .int .i64 ds, .bool re]
def stImg : StT → Value
  | ⟨nm, ⟨loA, loc, lo⟩, ⟨eqA, eqc, eq⟩, aA, ac, au, ⟨ulA, ulc, ul⟩, ⟨utA, utc, ut⟩⟩ => .agg #[.string nm, .slice loA lo.length loc, .slice eqA eq.length eqc, .slice aA au.length ac, .slice ulA ul.length ulc, .slice utA ut.length utc]
def auImg : AuT → Value
  | ⟨zA, zc, zl⟩ => .agg #[.slice zA zl.length zc]
def ndImg : NdD → Value
  | ⟨nm, ⟨inA, inc, in_⟩, ⟨ouA, ouc, ou⟩, ⟨loA, loc, lo⟩, ⟨eqA, eqc, eq⟩, ⟨auA, auc, au⟩, ⟨asA, asc, as_⟩, ⟨enA, enc, en_⟩⟩ => .agg #[.string nm, .slice inA in_.length inc, .slice ouA ou.length ouc, .slice loA lo.length loc, .slice eqA eq.length eqc, .slice auA au.length auc, .slice asA as_.length asc, .slice enA en_.length enc]
def txImg : Tx → Value
  | ⟨k, o, t, v, s, A, c, xs⟩ => .agg #[.int .i64 k, .int .i64 o, .int .i64 t, .int .i64 v, .string s, .slice A xs.length c]
set_option maxRecDepth 100000 in
set_option maxHeartbeats 1600000 in
theorem eqf_en {w0 : World} {A1 B1 : Option Addr} {c1 d1 : Nat} {xl yl : List EnD} (x : RowOf 2 PEn w0 ⟨A1, c1, xl⟩) (y : RowOf 2 PEn w0 ⟨B1, d1, yl⟩) (w : World) (aft : After w0 w)
    (hS : ∀ (i : Nat) (a b : EnD), xl[i]? = some a → yl[i]? = some b → ∀ U : World, After w0 U → Calls Try.prog 24 #[enImg a, enImg b] U fun e w' => e = .returned (.bool (enSame a b)) ∧ After U w') :
    Calls Try.prog 23 #[.slice A1 xl.length c1, .slice B1 yl.length d1, .func (.func 24) #[] #[]] w fun e w' => e = .returned (.bool (lsame enSame xl yl)) ∧ After w w' := by
  have XX := Lib.hid x
  have YY := Lib.hid y
  replace hS := Lib.hid hS
  have hx1 := x.len
  have hy1 := y.len
  simp only [] at hx1 hy1
  clear x y
  obtain ⟨n, hn⟩ : ∃ n, xl.length = n := ⟨_, rfl⟩
  obtain ⟨m, hm⟩ : ∃ m, yl.length = m := ⟨_, rfl⟩
  have HV : Hid (lsame enSame xl yl = (decide (n = m) && all2 enSame xl yl)) := Lib.hid (by unfold lsame; rw [hn, hm])
  rw [hn] at hx1 ⊢
  rw [hm] at hy1 ⊢
  by_cases hnm : n = m
  · subst hnm
    go_enter Try.func23, Try.ntmps23
    go_wp2_with fail
    go_loopw [17] (fun i wr => ∃ j : Nat, j ≤ n ∧ i = .int .i64 (j : Nat) ∧ Hid (all2 enSame (xl.take j) (yl.take j) = true) ∧ After w wr) (fun i _ => n - (intOf i).toNat)
    case atStart => exact ⟨0, by omega, rfl, Lib.hid (by simp [all2]), inferInstance⟩
    case round =>
      obtain ⟨j, hj, rfl, HJ, ar⟩ := hrel
      have a0r : After w0 wr := after_after aft ar
      by_cases hlt_ : j < n
      · have hltI : (j : Int) < (n : Int) := by omega
        obtain ⟨b, p, u1, rfl, hb1, HX1, hP⟩ := (XX.out.enums wr (k := a0r)).part (i := j) (by show j < xl.length; omega)
        obtain ⟨b2, p2, u2, rfl, hb2, HX2, hQ⟩ := (YY.out.enums wr (k := a0r)).part (i := j) (by show j < yl.length; omega)
        simp only [] at HX1 HX2
        have HT : Hid (all2 enSame (xl.take (j + 1)) (yl.take (j + 1)) = enSame u1 u2) := Lib.hid (by rw [all2_take enSame HX1.out HX2.out, HJ.out, Bool.true_and])
        have HF : Hid (enSame u1 u2 = false → all2 enSame xl yl = false) := Lib.hid fun h => all2_false enSame HX1.out HX2.out h
        have HC : Hid (∀ U : World, After wr U → Calls Try.prog 24 #[enImg u1, enImg u2] U fun e w' => e = .returned (.bool (enSame u1 u2)) ∧ After U w') := Lib.hid fun U hU => hS.out j _ _ HX1.out HX2.out U (after_after a0r hU)
        obtain ⟨nm, ⟨tA, tc, tl⟩⟩ := u1
        obtain ⟨nm', ⟨tA', tc', tl'⟩⟩ := u2
        obtain ⟨e0, e1⟩ : wr.cell? ⟨b, p + j * 2, none⟩ = some (.string nm) ∧ wr.cell? ⟨b, p + j * 2 + 1, none⟩ = some (.slice tA tl.length tc) := ⟨hP.c0, hP.c1⟩
        obtain ⟨g0, g1⟩ : wr.cell? ⟨b2, p2 + j * 2, none⟩ = some (.string nm') ∧ wr.cell? ⟨b2, p2 + j * 2 + 1, none⟩ = some (.slice tA' tl'.length tc') := ⟨hQ.c0, hQ.c1⟩
        obtain ⟨q, hq⟩ : ∃ q, enSame ⟨nm, ⟨tA, tc, tl⟩⟩ ⟨nm', ⟨tA', tc', tl'⟩⟩ = q := ⟨_, rfl⟩
        rw [hq] at HC HT HF
        replace HC : Hid (∀ U : World, After wr U → Calls Try.prog 24 #[.agg #[.string nm, .slice tA tl.length tc], .agg #[.string nm', .slice tA' tl'.length tc']] U fun e w' => e = .returned (.bool q) ∧ After U w') := HC
        clear hP hQ HX1 HX2 hq
        go_wp2_with fail
        refine (HC.out _ inferInstance).mono ?_
        rintro e w2 ⟨rfl, a2⟩
        have a2w : After w w2 := after_after ar (after_after inferInstance a2)
        clear a2
        cases q with
        | true =>
          go_wp2_with fail
          go_roundw
          case rel => exact ⟨j + 1, by omega, by go_num, HT, a2w⟩
          case measure => simp only [intOf]; omega
        | false =>
          have HV2 : Hid (lsame enSame xl yl = false) := Lib.hid (by rw [HV.out, HF.out rfl, Bool.and_false])
          go_wp2_with fail
          go_ret
          exact ⟨ret_bool (by rw [HV2.out]), a2w⟩
      · obtain rfl : j = n := by omega
        have HV2 : Hid (lsame enSame xl yl = true) := Lib.hid (by
          have h_ := HJ.out
          rw [HV.out]
          rw [← hn, List.take_length, hn, ← hm, List.take_length] at h_
          rw [h_]; simp)
        go_wp2_with fail
        go_ret
        exact ⟨ret_bool (by rw [HV2.out]), ar⟩
  · have hnmI : ¬ ((n : Int) = (m : Int)) := by omega
    have HV2 : Hid (lsame enSame xl yl = false) := Lib.hid (by rw [HV.out, decide_eq_false hnm, Bool.false_and])
    go_enter Try.func23, Try.ntmps23
    go_wp2_with fail
    go_ret
    exact ⟨ret_bool (by rw [HV2.out]), inferInstance⟩
set_option maxRecDepth 100000 in
set_option maxHeartbeats 1600000 in
theorem eqf_decl {w0 : World} {A1 B1 : Option Addr} {c1 d1 : Nat} {xl yl : List DeclD} (x : RowOf 3 PDecl w0 ⟨A1, c1, xl⟩) (y : RowOf 3 PDecl w0 ⟨B1, d1, yl⟩) (w : World) (aft : After w0 w)
    (hS : ∀ (i : Nat) (a b : DeclD), xl[i]? = some a → yl[i]? = some b → ∀ U : World, After w0 U → Calls Try.prog 58 #[declImg a, declImg b] U fun e w' => e = .returned (.bool (declSame a b)) ∧ After U w') :
    Calls Try.prog 57 #[.slice A1 xl.length c1, .slice B1 yl.length d1, .func (.func 58) #[] #[]] w fun e w' => e = .returned (.bool (lsame declSame xl yl)) ∧ After w w' := by
  have XX := Lib.hid x
  have YY := Lib.hid y
  replace hS := Lib.hid hS
  have hx1 := x.len
  have hy1 := y.len
  simp only [] at hx1 hy1
  clear x y
  obtain ⟨n, hn⟩ : ∃ n, xl.length = n := ⟨_, rfl⟩
  obtain ⟨m, hm⟩ : ∃ m, yl.length = m := ⟨_, rfl⟩
  have HV : Hid (lsame declSame xl yl = (decide (n = m) && all2 declSame xl yl)) := Lib.hid (by unfold lsame; rw [hn, hm])
  rw [hn] at hx1 ⊢
  rw [hm] at hy1 ⊢
  by_cases hnm : n = m
  · subst hnm
    go_enter Try.func57, Try.ntmps57
    go_wp2_with fail
    go_loopw [17] (fun i wr => ∃ j : Nat, j ≤ n ∧ i = .int .i64 (j : Nat) ∧ Hid (all2 declSame (xl.take j) (yl.take j) = true) ∧ After w wr) (fun i _ => n - (intOf i).toNat)
    case atStart => exact ⟨0, by omega, rfl, Lib.hid (by simp [all2]), inferInstance⟩
    case round =>
      obtain ⟨j, hj, rfl, HJ, ar⟩ := hrel
      have a0r : After w0 wr := after_after aft ar
      by_cases hlt_ : j < n
      · have hltI : (j : Int) < (n : Int) := by omega
        obtain ⟨b, p, u1, rfl, hb1, HX1, hP⟩ := (XX.out.decls wr (k := a0r)).part (i := j) (by show j < xl.length; omega)
        obtain ⟨b2, p2, u2, rfl, hb2, HX2, hQ⟩ := (YY.out.decls wr (k := a0r)).part (i := j) (by show j < yl.length; omega)
        simp only [] at HX1 HX2
        have HT : Hid (all2 declSame (xl.take (j + 1)) (yl.take (j + 1)) = declSame u1 u2) := Lib.hid (by rw [all2_take declSame HX1.out HX2.out, HJ.out, Bool.true_and])
        have HF : Hid (declSame u1 u2 = false → all2 declSame xl yl = false) := Lib.hid fun h => all2_false declSame HX1.out HX2.out h
        have HC : Hid (∀ U : World, After wr U → Calls Try.prog 58 #[declImg u1, declImg u2] U fun e w' => e = .returned (.bool (declSame u1 u2)) ∧ After U w') := Lib.hid fun U hU => hS.out j _ _ HX1.out HX2.out U (after_after a0r hU)
        obtain ⟨nm, ty, ⟨cA, cc, cl⟩⟩ := u1
        obtain ⟨nm', ty', ⟨cA', cc', cl'⟩⟩ := u2
        obtain ⟨e0, e1, e2⟩ : wr.cell? ⟨b, p + j * 3, none⟩ = some (.string nm) ∧ wr.cell? ⟨b, p + j * 3 + 1, none⟩ = some (.int .i64 ty) ∧ wr.cell? ⟨b, p + j * 3 + 2, none⟩ = some (.slice cA cl.length cc) := ⟨hP.c0, hP.c1, hP.c2⟩
        obtain ⟨g0, g1, g2⟩ : wr.cell? ⟨b2, p2 + j * 3, none⟩ = some (.string nm') ∧ wr.cell? ⟨b2, p2 + j * 3 + 1, none⟩ = some (.int .i64 ty') ∧ wr.cell? ⟨b2, p2 + j * 3 + 2, none⟩ = some (.slice cA' cl'.length cc') := ⟨hQ.c0, hQ.c1, hQ.c2⟩
        obtain ⟨q, hq⟩ : ∃ q, declSame ⟨nm, ty, ⟨cA, cc, cl⟩⟩ ⟨nm', ty', ⟨cA', cc', cl'⟩⟩ = q := ⟨_, rfl⟩
        rw [hq] at HC HT HF
        replace HC : Hid (∀ U : World, After wr U → Calls Try.prog 58 #[.agg #[.string nm, .int .i64 ty, .slice cA cl.length cc], .agg #[.string nm', .int .i64 ty', .slice cA' cl'.length cc']] U fun e w' => e = .returned (.bool q) ∧ After U w') := HC
        clear hP hQ HX1 HX2 hq
        go_wp2_with fail
        refine (HC.out _ inferInstance).mono ?_
        rintro e w2 ⟨rfl, a2⟩
        have a2w : After w w2 := after_after ar (after_after inferInstance a2)
        clear a2
        cases q with
        | true =>
          go_wp2_with fail
          go_roundw
          case rel => exact ⟨j + 1, by omega, by go_num, HT, a2w⟩
          case measure => simp only [intOf]; omega
        | false =>
          have HV2 : Hid (lsame declSame xl yl = false) := Lib.hid (by rw [HV.out, HF.out rfl, Bool.and_false])
          go_wp2_with fail
          go_ret
          exact ⟨ret_bool (by rw [HV2.out]), a2w⟩
      · obtain rfl : j = n := by omega
        have HV2 : Hid (lsame declSame xl yl = true) := Lib.hid (by
          have h_ := HJ.out
          rw [HV.out]
          rw [← hn, List.take_length, hn, ← hm, List.take_length] at h_
          rw [h_]; simp)
        go_wp2_with fail
        go_ret
        exact ⟨ret_bool (by rw [HV2.out]), ar⟩
  · have hnmI : ¬ ((n : Int) = (m : Int)) := by omega
    have HV2 : Hid (lsame declSame xl yl = false) := Lib.hid (by rw [HV.out, decide_eq_false hnm, Bool.false_and])
    go_enter Try.func57, Try.ntmps57
    go_wp2_with fail
    go_ret
    exact ⟨ret_bool (by rw [HV2.out]), inferInstance⟩
set_option maxRecDepth 100000 in
set_option maxHeartbeats 1600000 in
theorem eqf_eq {w0 : World} {A1 B1 : Option Addr} {c1 d1 : Nat} {xl yl : List EqD} (x : RowOf 7 (PEq S) w0 ⟨A1, c1, xl⟩) (y : RowOf 7 (PEq S) w0 ⟨B1, d1, yl⟩) (w : World) (aft : After w0 w)
    (hS : ∀ (i : Nat) (a b : EqD), xl[i]? = some a → yl[i]? = some b → ∀ U : World, After w0 U → Calls Try.prog 60 #[eqImg a, eqImg b] U fun e w' => e = .returned (.bool (eqSame a b)) ∧ After U w') :
    Calls Try.prog 59 #[.slice A1 xl.length c1, .slice B1 yl.length d1, .func (.func 60) #[] #[]] w fun e w' => e = .returned (.bool (lsame eqSame xl yl)) ∧ After w w' := by
  have XX := Lib.hid x
  have YY := Lib.hid y
  replace hS := Lib.hid hS
  have hx1 := x.len
  have hy1 := y.len
  simp only [] at hx1 hy1
  clear x y
  obtain ⟨n, hn⟩ : ∃ n, xl.length = n := ⟨_, rfl⟩
  obtain ⟨m, hm⟩ : ∃ m, yl.length = m := ⟨_, rfl⟩
  have HV : Hid (lsame eqSame xl yl = (decide (n = m) && all2 eqSame xl yl)) := Lib.hid (by unfold lsame; rw [hn, hm])
  rw [hn] at hx1 ⊢
  rw [hm] at hy1 ⊢
  by_cases hnm : n = m
  · subst hnm
    go_enter Try.func59, Try.ntmps59
    go_wp2_with fail
    go_loopw [17] (fun i wr => ∃ j : Nat, j ≤ n ∧ i = .int .i64 (j : Nat) ∧ Hid (all2 eqSame (xl.take j) (yl.take j) = true) ∧ After w wr) (fun i _ => n - (intOf i).toNat)
    case atStart => exact ⟨0, by omega, rfl, Lib.hid (by simp [all2]), inferInstance⟩
    case round =>
      obtain ⟨j, hj, rfl, HJ, ar⟩ := hrel
      have a0r : After w0 wr := after_after aft ar
      by_cases hlt_ : j < n
      · have hltI : (j : Int) < (n : Int) := by omega
        obtain ⟨b, p, u1, rfl, hb1, HX1, hP⟩ := (XX.out.eqs wr (k := a0r)).part (i := j) (by show j < xl.length; omega)
        obtain ⟨b2, p2, u2, rfl, hb2, HX2, hQ⟩ := (YY.out.eqs wr (k := a0r)).part (i := j) (by show j < yl.length; omega)
        simp only [] at HX1 HX2
        have HT : Hid (all2 eqSame (xl.take (j + 1)) (yl.take (j + 1)) = eqSame u1 u2) := Lib.hid (by rw [all2_take eqSame HX1.out HX2.out, HJ.out, Bool.true_and])
        have HF : Hid (eqSame u1 u2 = false → all2 eqSame xl yl = false) := Lib.hid fun h => all2_false eqSame HX1.out HX2.out h
        have HC : Hid (∀ U : World, After wr U → Calls Try.prog 60 #[eqImg u1, eqImg u2] U fun e w' => e = .returned (.bool (eqSame u1 u2)) ∧ After U w') := Lib.hid fun U hU => hS.out j _ _ HX1.out HX2.out U (after_after a0r hU)
        obtain ⟨⟨lA, lc, ll⟩, ⟨k, o, t, v, s, A, c, xs⟩⟩ := u1
        obtain ⟨⟨lA', lc', ll'⟩, ⟨k', o', t', v', s', A', c', xs'⟩⟩ := u2
        obtain ⟨e0, e1, e2, e3, e4, e5, e6⟩ : wr.cell? ⟨b, p + j * 7, none⟩ = some (.slice lA ll.length lc) ∧ wr.cell? ⟨b, p + j * 7 + 1, none⟩ = some (.int .i64 k) ∧ wr.cell? ⟨b, p + j * 7 + 2, none⟩ = some (.int .i64 o) ∧ wr.cell? ⟨b, p + j * 7 + 3, none⟩ = some (.int .i64 t) ∧ wr.cell? ⟨b, p + j * 7 + 4, none⟩ = some (.int .i64 v) ∧ wr.cell? ⟨b, p + j * 7 + 5, none⟩ = some (.string s) ∧ wr.cell? ⟨b, p + j * 7 + 6, none⟩ = some (.slice A xs.length c) := ⟨hP.c0, hP.six.c0, hP.six.c1, hP.six.c2, hP.six.c3, hP.six.c4, hP.six.c5⟩
        obtain ⟨g0, g1, g2, g3, g4, g5, g6⟩ : wr.cell? ⟨b2, p2 + j * 7, none⟩ = some (.slice lA' ll'.length lc') ∧ wr.cell? ⟨b2, p2 + j * 7 + 1, none⟩ = some (.int .i64 k') ∧ wr.cell? ⟨b2, p2 + j * 7 + 2, none⟩ = some (.int .i64 o') ∧ wr.cell? ⟨b2, p2 + j * 7 + 3, none⟩ = some (.int .i64 t') ∧ wr.cell? ⟨b2, p2 + j * 7 + 4, none⟩ = some (.int .i64 v') ∧ wr.cell? ⟨b2, p2 + j * 7 + 5, none⟩ = some (.string s') ∧ wr.cell? ⟨b2, p2 + j * 7 + 6, none⟩ = some (.slice A' xs'.length c') := ⟨hQ.c0, hQ.six.c0, hQ.six.c1, hQ.six.c2, hQ.six.c3, hQ.six.c4, hQ.six.c5⟩
        obtain ⟨q, hq⟩ : ∃ q, eqSame ⟨⟨lA, lc, ll⟩, ⟨k, o, t, v, s, A, c, xs⟩⟩ ⟨⟨lA', lc', ll'⟩, ⟨k', o', t', v', s', A', c', xs'⟩⟩ = q := ⟨_, rfl⟩
        rw [hq] at HC HT HF
        replace HC : Hid (∀ U : World, After wr U → Calls Try.prog 60 #[.agg #[.slice lA ll.length lc, .int .i64 k, .int .i64 o, .int .i64 t, .int .i64 v, .string s, .slice A xs.length c], .agg #[.slice lA' ll'.length lc', .int .i64 k', .int .i64 o', .int .i64 t', .int .i64 v', .string s', .slice A' xs'.length c']] U fun e w' => e = .returned (.bool q) ∧ After U w') := HC
        clear hP hQ HX1 HX2 hq
        go_wp2_with fail
        refine (HC.out _ inferInstance).mono ?_
        rintro e w2 ⟨rfl, a2⟩
        have a2w : After w w2 := after_after ar (after_after inferInstance a2)
        clear a2
        cases q with
        | true =>
          go_wp2_with fail
          go_roundw
          case rel => exact ⟨j + 1, by omega, by go_num, HT, a2w⟩
          case measure => simp only [intOf]; omega
        | false =>
          have HV2 : Hid (lsame eqSame xl yl = false) := Lib.hid (by rw [HV.out, HF.out rfl, Bool.and_false])
          go_wp2_with fail
          go_ret
          exact ⟨ret_bool (by rw [HV2.out]), a2w⟩
      · obtain rfl : j = n := by omega
        have HV2 : Hid (lsame eqSame xl yl = true) := Lib.hid (by
          have h_ := HJ.out
          rw [HV.out]
          rw [← hn, List.take_length, hn, ← hm, List.take_length] at h_
          rw [h_]; simp)
        go_wp2_with fail
        go_ret
        exact ⟨ret_bool (by rw [HV2.out]), ar⟩
  · have hnmI : ¬ ((n : Int) = (m : Int)) := by omega
    have HV2 : Hid (lsame eqSame xl yl = false) := Lib.hid (by rw [HV.out, decide_eq_false hnm, Bool.false_and])
    go_enter Try.func59, Try.ntmps59
    go_wp2_with fail
    go_ret
    exact ⟨ret_bool (by rw [HV2.out]), inferInstance⟩
set_option maxRecDepth 100000 in
set_option maxHeartbeats 1600000 in
theorem eqf_tr {w0 : World} {A1 B1 : Option Addr} {c1 d1 : Nat} {xl yl : List TrD} (x : RowOf 8 (PTr S) w0 ⟨A1, c1, xl⟩) (y : RowOf 8 (PTr S) w0 ⟨B1, d1, yl⟩) (w : World) (aft : After w0 w)
    (hS : ∀ (i : Nat) (a b : TrD), xl[i]? = some a → yl[i]? = some b → ∀ U : World, After w0 U → Calls Try.prog 104 #[trImg a, trImg b] U fun e w' => e = .returned (.bool (trSame a b)) ∧ After U w') :
    Calls Try.prog 103 #[.slice A1 xl.length c1, .slice B1 yl.length d1, .func (.func 104) #[] #[]] w fun e w' => e = .returned (.bool (lsame trSame xl yl)) ∧ After w w' := by
  have XX := Lib.hid x
  have YY := Lib.hid y
  replace hS := Lib.hid hS
  have hx1 := x.len
  have hy1 := y.len
  simp only [] at hx1 hy1
  clear x y
  obtain ⟨n, hn⟩ : ∃ n, xl.length = n := ⟨_, rfl⟩
  obtain ⟨m, hm⟩ : ∃ m, yl.length = m := ⟨_, rfl⟩
  have HV : Hid (lsame trSame xl yl = (decide (n = m) && all2 trSame xl yl)) := Lib.hid (by unfold lsame; rw [hn, hm])
  rw [hn] at hx1 ⊢
  rw [hm] at hy1 ⊢
  by_cases hnm : n = m
  · subst hnm
    go_enter Try.func103, Try.ntmps103
    go_wp2_with fail
    go_loopw [17] (fun i wr => ∃ j : Nat, j ≤ n ∧ i = .int .i64 (j : Nat) ∧ Hid (all2 trSame (xl.take j) (yl.take j) = true) ∧ After w wr) (fun i _ => n - (intOf i).toNat)
    case atStart => exact ⟨0, by omega, rfl, Lib.hid (by simp [all2]), inferInstance⟩
    case round =>
      obtain ⟨j, hj, rfl, HJ, ar⟩ := hrel
      have a0r : After w0 wr := after_after aft ar
      by_cases hlt_ : j < n
      · have hltI : (j : Int) < (n : Int) := by omega
        obtain ⟨b, p, u1, rfl, hb1, HX1, hP⟩ := (XX.out.trs wr (k := a0r)).part (i := j) (by show j < xl.length; omega)
        obtain ⟨b2, p2, u2, rfl, hb2, HX2, hQ⟩ := (YY.out.trs wr (k := a0r)).part (i := j) (by show j < yl.length; omega)
        simp only [] at HX1 HX2
        have HT : Hid (all2 trSame (xl.take (j + 1)) (yl.take (j + 1)) = trSame u1 u2) := Lib.hid (by rw [all2_take trSame HX1.out HX2.out, HJ.out, Bool.true_and])
        have HF : Hid (trSame u1 u2 = false → all2 trSame xl yl = false) := Lib.hid fun h => all2_false trSame HX1.out HX2.out h
        have HC : Hid (∀ U : World, After wr U → Calls Try.prog 104 #[trImg u1, trImg u2] U fun e w' => e = .returned (.bool (trSame u1 u2)) ∧ After U w') := Lib.hid fun U hU => hS.out j _ _ HX1.out HX2.out U (after_after a0r hU)
        obtain ⟨⟨k, o, t, v, s, A, c, xs⟩, ds, re⟩ := u1
        obtain ⟨⟨k', o', t', v', s', A', c', xs'⟩, ds', re'⟩ := u2
        obtain ⟨e0, e1, e2, e3, e4, e5, e6, e7⟩ : wr.cell? ⟨b, p + j * 8, none⟩ = some (.int .i64 k) ∧ wr.cell? ⟨b, p + j * 8 + 1, none⟩ = some (.int .i64 o) ∧ wr.cell? ⟨b, p + j * 8 + 2, none⟩ = some (.int .i64 t) ∧ wr.cell? ⟨b, p + j * 8 + 3, none⟩ = some (.int .i64 v) ∧ wr.cell? ⟨b, p + j * 8 + 4, none⟩ = some (.string s) ∧ wr.cell? ⟨b, p + j * 8 + 5, none⟩ = some (.slice A xs.length c) ∧ wr.cell? ⟨b, p + j * 8 + 6, none⟩ = some (.int .i64 ds) ∧ wr.cell? ⟨b, p + j * 8 + 7, none⟩ = some (.bool re) := ⟨hP.six.c0, hP.six.c1, hP.six.c2, hP.six.c3, hP.six.c4, hP.six.c5, hP.c6, hP.c7⟩
        obtain ⟨g0, g1, g2, g3, g4, g5, g6, g7⟩ : wr.cell? ⟨b2, p2 + j * 8, none⟩ = some (.int .i64 k') ∧ wr.cell? ⟨b2, p2 + j * 8 + 1, none⟩ = some (.int .i64 o') ∧ wr.cell? ⟨b2, p2 + j * 8 + 2, none⟩ = some (.int .i64 t') ∧ wr.cell? ⟨b2, p2 + j * 8 + 3, none⟩ = some (.int .i64 v') ∧ wr.cell? ⟨b2, p2 + j * 8 + 4, none⟩ = some (.string s') ∧ wr.cell? ⟨b2, p2 + j * 8 + 5, none⟩ = some (.slice A' xs'.length c') ∧ wr.cell? ⟨b2, p2 + j * 8 + 6, none⟩ = some (.int .i64 ds') ∧ wr.cell? ⟨b2, p2 + j * 8 + 7, none⟩ = some (.bool re') := ⟨hQ.six.c0, hQ.six.c1, hQ.six.c2, hQ.six.c3, hQ.six.c4, hQ.six.c5, hQ.c6, hQ.c7⟩
        obtain ⟨q, hq⟩ : ∃ q, trSame ⟨⟨k, o, t, v, s, A, c, xs⟩, ds, re⟩ ⟨⟨k', o', t', v', s', A', c', xs'⟩, ds', re'⟩ = q := ⟨_, rfl⟩
        rw [hq] at HC HT HF
        replace HC : Hid (∀ U : World, After wr U → Calls Try.prog 104 #[.agg #[.int .i64 k, .int .i64 o, .int .i64 t, .int .i64 v, .string s, .slice A xs.length c, .int .i64 ds, .bool re], .agg #[.int .i64 k', .int .i64 o', .int .i64 t', .int .i64 v', .string s', .slice A' xs'.length c', .int .i64 ds', .bool re']] U fun e w' => e = .returned (.bool q) ∧ After U w') := HC
        clear hP hQ HX1 HX2 hq
        go_wp2_with fail
        refine (HC.out _ inferInstance).mono ?_
        rintro e w2 ⟨rfl, a2⟩
        have a2w : After w w2 := after_after ar (after_after inferInstance a2)
        clear a2
        cases q with
        | true =>
          go_wp2_with fail
          go_roundw
          case rel => exact ⟨j + 1, by omega, by go_num, HT, a2w⟩
          case measure => simp only [intOf]; omega
        | false =>
          have HV2 : Hid (lsame trSame xl yl = false) := Lib.hid (by rw [HV.out, HF.out rfl, Bool.and_false])
          go_wp2_with fail
          go_ret
          exact ⟨ret_bool (by rw [HV2.out]), a2w⟩
      · obtain rfl : j = n := by omega
        have HV2 : Hid (lsame trSame xl yl = true) := Lib.hid (by
          have h_ := HJ.out
          rw [HV.out]
          rw [← hn, List.take_length, hn, ← hm, List.take_length] at h_
          rw [h_]; simp)
        go_wp2_with fail
        go_ret
        exact ⟨ret_bool (by rw [HV2.out]), ar⟩
  · have hnmI : ¬ ((n : Int) = (m : Int)) := by omega
    have HV2 : Hid (lsame trSame xl yl = false) := Lib.hid (by rw [HV.out, decide_eq_false hnm, Bool.false_and])
    go_enter Try.func103, Try.ntmps103
    go_wp2_with fail
    go_ret
    exact ⟨ret_bool (by rw [HV2.out]), inferInstance⟩
set_option maxRecDepth 100000 in
set_option maxHeartbeats 1600000 in
theorem eqf_st {w0 : World} {A1 B1 : Option Addr} {c1 d1 : Nat} {xl yl : List StT} (x : RowOf 6 (PSt S) w0 ⟨A1, c1, xl⟩) (y : RowOf 6 (PSt S) w0 ⟨B1, d1, yl⟩) (w : World) (aft : After w0 w)
    (hS : ∀ (i : Nat) (a b : StT), xl[i]? = some a → yl[i]? = some b → ∀ U : World, After w0 U → Calls Try.prog 87 #[stImg a, stImg b] U fun e w' => e = .returned (.bool (stSame a b)) ∧ After U w') :
    Calls Try.prog 86 #[.slice A1 xl.length c1, .slice B1 yl.length d1, .func (.func 87) #[] #[]] w fun e w' => e = .returned (.bool (lsame stSame xl yl)) ∧ After w w' := by
  have XX := Lib.hid x
  have YY := Lib.hid y
  replace hS := Lib.hid hS
  have hx1 := x.len
  have hy1 := y.len
  simp only [] at hx1 hy1
  clear x y
  obtain ⟨n, hn⟩ : ∃ n, xl.length = n := ⟨_, rfl⟩
  obtain ⟨m, hm⟩ : ∃ m, yl.length = m := ⟨_, rfl⟩
  have HV : Hid (lsame stSame xl yl = (decide (n = m) && all2 stSame xl yl)) := Lib.hid (by unfold lsame; rw [hn, hm])
  rw [hn] at hx1 ⊢
  rw [hm] at hy1 ⊢
  by_cases hnm : n = m
  · subst hnm
    go_enter Try.func86, Try.ntmps86
    go_wp2_with fail
    go_loopw [17] (fun i wr => ∃ j : Nat, j ≤ n ∧ i = .int .i64 (j : Nat) ∧ Hid (all2 stSame (xl.take j) (yl.take j) = true) ∧ After w wr) (fun i _ => n - (intOf i).toNat)
    case atStart => exact ⟨0, by omega, rfl, Lib.hid (by simp [all2]), inferInstance⟩
    case round =>
      obtain ⟨j, hj, rfl, HJ, ar⟩ := hrel
      have a0r : After w0 wr := after_after aft ar
      by_cases hlt_ : j < n
      · have hltI : (j : Int) < (n : Int) := by omega
        obtain ⟨b, p, u1, rfl, hb1, HX1, hP⟩ := (XX.out.sts wr (k := a0r)).part (i := j) (by show j < xl.length; omega)
        obtain ⟨b2, p2, u2, rfl, hb2, HX2, hQ⟩ := (YY.out.sts wr (k := a0r)).part (i := j) (by show j < yl.length; omega)
        simp only [] at HX1 HX2
        have HT : Hid (all2 stSame (xl.take (j + 1)) (yl.take (j + 1)) = stSame u1 u2) := Lib.hid (by rw [all2_take stSame HX1.out HX2.out, HJ.out, Bool.true_and])
        have HF : Hid (stSame u1 u2 = false → all2 stSame xl yl = false) := Lib.hid fun h => all2_false stSame HX1.out HX2.out h
        have HC : Hid (∀ U : World, After wr U → Calls Try.prog 87 #[stImg u1, stImg u2] U fun e w' => e = .returned (.bool (stSame u1 u2)) ∧ After U w') := Lib.hid fun U hU => hS.out j _ _ HX1.out HX2.out U (after_after a0r hU)
        obtain ⟨nm, ⟨loA, loc, lo⟩, ⟨eqA, eqc, eq⟩, aA, ac, au, ⟨ulA, ulc, ul⟩, ⟨utA, utc, ut⟩⟩ := u1
        obtain ⟨nm', ⟨loA', loc', lo'⟩, ⟨eqA', eqc', eq'⟩, aA', ac', au', ⟨ulA', ulc', ul'⟩, ⟨utA', utc', ut'⟩⟩ := u2
        obtain ⟨e0, e1, e2, e3, e4, e5⟩ : wr.cell? ⟨b, p + j * 6, none⟩ = some (.string nm) ∧ wr.cell? ⟨b, p + j * 6 + 1, none⟩ = some (.slice loA lo.length loc) ∧ wr.cell? ⟨b, p + j * 6 + 2, none⟩ = some (.slice eqA eq.length eqc) ∧ wr.cell? ⟨b, p + j * 6 + 3, none⟩ = some (.slice aA au.length ac) ∧ wr.cell? ⟨b, p + j * 6 + 4, none⟩ = some (.slice ulA ul.length ulc) ∧ wr.cell? ⟨b, p + j * 6 + 5, none⟩ = some (.slice utA ut.length utc) := ⟨hP.1.c0, hP.1.c1, hP.1.c2, hP.1.c3, hP.1.c4, hP.1.c5⟩
        obtain ⟨g0, g1, g2, g3, g4, g5⟩ : wr.cell? ⟨b2, p2 + j * 6, none⟩ = some (.string nm') ∧ wr.cell? ⟨b2, p2 + j * 6 + 1, none⟩ = some (.slice loA' lo'.length loc') ∧ wr.cell? ⟨b2, p2 + j * 6 + 2, none⟩ = some (.slice eqA' eq'.length eqc') ∧ wr.cell? ⟨b2, p2 + j * 6 + 3, none⟩ = some (.slice aA' au'.length ac') ∧ wr.cell? ⟨b2, p2 + j * 6 + 4, none⟩ = some (.slice ulA' ul'.length ulc') ∧ wr.cell? ⟨b2, p2 + j * 6 + 5, none⟩ = some (.slice utA' ut'.length utc') := ⟨hQ.1.c0, hQ.1.c1, hQ.1.c2, hQ.1.c3, hQ.1.c4, hQ.1.c5⟩
        obtain ⟨q, hq⟩ : ∃ q, stSame ⟨nm, ⟨loA, loc, lo⟩, ⟨eqA, eqc, eq⟩, aA, ac, au, ⟨ulA, ulc, ul⟩, ⟨utA, utc, ut⟩⟩ ⟨nm', ⟨loA', loc', lo'⟩, ⟨eqA', eqc', eq'⟩, aA', ac', au', ⟨ulA', ulc', ul'⟩, ⟨utA', utc', ut'⟩⟩ = q := ⟨_, rfl⟩
        rw [hq] at HC HT HF
        replace HC : Hid (∀ U : World, After wr U → Calls Try.prog 87 #[.agg #[.string nm, .slice loA lo.length loc, .slice eqA eq.length eqc, .slice aA au.length ac, .slice ulA ul.length ulc, .slice utA ut.length utc], .agg #[.string nm', .slice loA' lo'.length loc', .slice eqA' eq'.length eqc', .slice aA' au'.length ac', .slice ulA' ul'.length ulc', .slice utA' ut'.length utc']] U fun e w' => e = .returned (.bool q) ∧ After U w') := HC
        clear hP hQ HX1 HX2 hq
        go_wp2_with fail
        refine (HC.out _ inferInstance).mono ?_
        rintro e w2 ⟨rfl, a2⟩
        have a2w : After w w2 := after_after ar (after_after inferInstance a2)
        clear a2
        cases q with
        | true =>
          go_wp2_with fail
          go_roundw
          case rel => exact ⟨j + 1, by omega, by go_num, HT, a2w⟩
          case measure => simp only [intOf]; omega
        | false =>
          have HV2 : Hid (lsame stSame xl yl = false) := Lib.hid (by rw [HV.out, HF.out rfl, Bool.and_false])
          go_wp2_with fail
          go_ret
          exact ⟨ret_bool (by rw [HV2.out]), a2w⟩
      · obtain rfl : j = n := by omega
        have HV2 : Hid (lsame stSame xl yl = true) := Lib.hid (by
          have h_ := HJ.out
          rw [HV.out]
          rw [← hn, List.take_length, hn, ← hm, List.take_length] at h_
          rw [h_]; simp)
        go_wp2_with fail
        go_ret
        exact ⟨ret_bool (by rw [HV2.out]), ar⟩
  · have hnmI : ¬ ((n : Int) = (m : Int)) := by omega
    have HV2 : Hid (lsame stSame xl yl = false) := Lib.hid (by rw [HV.out, decide_eq_false hnm, Bool.false_and])
    go_enter Try.func86, Try.ntmps86
    go_wp2_with fail
    go_ret
    exact ⟨ret_bool (by rw [HV2.out]), inferInstance⟩
set_option maxRecDepth 100000 in
set_option maxHeartbeats 1600000 in
theorem eqf_au {w0 : World} {A1 B1 : Option Addr} {c1 d1 : Nat} {xl yl : List AuT} (x : RowOf 1 (PAu S) w0 ⟨A1, c1, xl⟩) (y : RowOf 1 (PAu S) w0 ⟨B1, d1, yl⟩) (w : World) (aft : After w0 w)
    (hS : ∀ (i : Nat) (a b : AuT), xl[i]? = some a → yl[i]? = some b → ∀ U : World, After w0 U → Calls Try.prog 62 #[auImg a, auImg b] U fun e w' => e = .returned (.bool (auSame a b)) ∧ After U w') :
    Calls Try.prog 61 #[.slice A1 xl.length c1, .slice B1 yl.length d1, .func (.func 62) #[] #[]] w fun e w' => e = .returned (.bool (lsame auSame xl yl)) ∧ After w w' := by
  have XX := Lib.hid x
  have YY := Lib.hid y
  replace hS := Lib.hid hS
  have hx1 := x.len
  have hy1 := y.len
  simp only [] at hx1 hy1
  clear x y
  obtain ⟨n, hn⟩ : ∃ n, xl.length = n := ⟨_, rfl⟩
  obtain ⟨m, hm⟩ : ∃ m, yl.length = m := ⟨_, rfl⟩
  have HV : Hid (lsame auSame xl yl = (decide (n = m) && all2 auSame xl yl)) := Lib.hid (by unfold lsame; rw [hn, hm])
  rw [hn] at hx1 ⊢
  rw [hm] at hy1 ⊢
  by_cases hnm : n = m
  · subst hnm
    go_enter Try.func61, Try.ntmps61
    go_wp2_with fail
    go_loopw [17] (fun i wr => ∃ j : Nat, j ≤ n ∧ i = .int .i64 (j : Nat) ∧ Hid (all2 auSame (xl.take j) (yl.take j) = true) ∧ After w wr) (fun i _ => n - (intOf i).toNat)
    case atStart => exact ⟨0, by omega, rfl, Lib.hid (by simp [all2]), inferInstance⟩
    case round =>
      obtain ⟨j, hj, rfl, HJ, ar⟩ := hrel
      have a0r : After w0 wr := after_after aft ar
      by_cases hlt_ : j < n
      · have hltI : (j : Int) < (n : Int) := by omega
        obtain ⟨b, p, u1, rfl, hb1, HX1, hP⟩ := (XX.out.aus wr (k := a0r)).part (i := j) (by show j < xl.length; omega)
        obtain ⟨b2, p2, u2, rfl, hb2, HX2, hQ⟩ := (YY.out.aus wr (k := a0r)).part (i := j) (by show j < yl.length; omega)
        simp only [] at HX1 HX2
        have HT : Hid (all2 auSame (xl.take (j + 1)) (yl.take (j + 1)) = auSame u1 u2) := Lib.hid (by rw [all2_take auSame HX1.out HX2.out, HJ.out, Bool.true_and])
        have HF : Hid (auSame u1 u2 = false → all2 auSame xl yl = false) := Lib.hid fun h => all2_false auSame HX1.out HX2.out h
        have HC : Hid (∀ U : World, After wr U → Calls Try.prog 62 #[auImg u1, auImg u2] U fun e w' => e = .returned (.bool (auSame u1 u2)) ∧ After U w') := Lib.hid fun U hU => hS.out j _ _ HX1.out HX2.out U (after_after a0r hU)
        obtain ⟨zA, zc, zl⟩ := u1
        obtain ⟨zA', zc', zl'⟩ := u2
        have e0 : wr.cell? ⟨b, p + j, none⟩ = some (.slice zA zl.length zc) := by have := hP.1; rwa [Nat.mul_one] at this
        have g0 : wr.cell? ⟨b2, p2 + j, none⟩ = some (.slice zA' zl'.length zc') := by have := hQ.1; rwa [Nat.mul_one] at this
        obtain ⟨q, hq⟩ : ∃ q, auSame ⟨zA, zc, zl⟩ ⟨zA', zc', zl'⟩ = q := ⟨_, rfl⟩
        rw [hq] at HC HT HF
        replace HC : Hid (∀ U : World, After wr U → Calls Try.prog 62 #[.agg #[.slice zA zl.length zc], .agg #[.slice zA' zl'.length zc']] U fun e w' => e = .returned (.bool q) ∧ After U w') := HC
        clear hP hQ HX1 HX2 hq
        go_wp2_with fail
        refine (HC.out _ inferInstance).mono ?_
        rintro e w2 ⟨rfl, a2⟩
        have a2w : After w w2 := after_after ar (after_after inferInstance a2)
        clear a2
        cases q with
        | true =>
          go_wp2_with fail
          go_roundw
          case rel => exact ⟨j + 1, by omega, by go_num, HT, a2w⟩
          case measure => simp only [intOf]; omega
        | false =>
          have HV2 : Hid (lsame auSame xl yl = false) := Lib.hid (by rw [HV.out, HF.out rfl, Bool.and_false])
          go_wp2_with fail
          go_ret
          exact ⟨ret_bool (by rw [HV2.out]), a2w⟩
      · obtain rfl : j = n := by omega
        have HV2 : Hid (lsame auSame xl yl = true) := Lib.hid (by
          have h_ := HJ.out
          rw [HV.out]
          rw [← hn, List.take_length, hn, ← hm, List.take_length] at h_
          rw [h_]; simp)
        go_wp2_with fail
        go_ret
        exact ⟨ret_bool (by rw [HV2.out]), ar⟩
  · have hnmI : ¬ ((n : Int) = (m : Int)) := by omega
    have HV2 : Hid (lsame auSame xl yl = false) := Lib.hid (by rw [HV.out, decide_eq_false hnm, Bool.false_and])
    go_enter Try.func61, Try.ntmps61
    go_wp2_with fail
    go_ret
    exact ⟨ret_bool (by rw [HV2.out]), inferInstance⟩
set_option maxRecDepth 100000 in
set_option maxHeartbeats 1600000 in
theorem eqf_nd {w0 : World} {A1 B1 : Option Addr} {c1 d1 : Nat} {xl yl : List NdD} (x : RowOf 8 (PNd S) w0 ⟨A1, c1, xl⟩) (y : RowOf 8 (PNd S) w0 ⟨B1, d1, yl⟩) (w : World) (aft : After w0 w)
    (hS : ∀ (i : Nat) (a b : NdD), xl[i]? = some a → yl[i]? = some b → ∀ U : World, After w0 U → Calls Try.prog 26 #[ndImg a, ndImg b] U fun e w' => e = .returned (.bool (ndSame a b)) ∧ After U w') :
    Calls Try.prog 25 #[.slice A1 xl.length c1, .slice B1 yl.length d1, .func (.func 26) #[] #[]] w fun e w' => e = .returned (.bool (lsame ndSame xl yl)) ∧ After w w' := by
  have XX := Lib.hid x
  have YY := Lib.hid y
  replace hS := Lib.hid hS
  have hx1 := x.len
  have hy1 := y.len
  simp only [] at hx1 hy1
  clear x y
  obtain ⟨n, hn⟩ : ∃ n, xl.length = n := ⟨_, rfl⟩
  obtain ⟨m, hm⟩ : ∃ m, yl.length = m := ⟨_, rfl⟩
  have HV : Hid (lsame ndSame xl yl = (decide (n = m) && all2 ndSame xl yl)) := Lib.hid (by unfold lsame; rw [hn, hm])
  rw [hn] at hx1 ⊢
  rw [hm] at hy1 ⊢
  by_cases hnm : n = m
  · subst hnm
    go_enter Try.func25, Try.ntmps25
    go_wp2_with fail
    go_loopw [17] (fun i wr => ∃ j : Nat, j ≤ n ∧ i = .int .i64 (j : Nat) ∧ Hid (all2 ndSame (xl.take j) (yl.take j) = true) ∧ After w wr) (fun i _ => n - (intOf i).toNat)
    case atStart => exact ⟨0, by omega, rfl, Lib.hid (by simp [all2]), inferInstance⟩
    case round =>
      obtain ⟨j, hj, rfl, HJ, ar⟩ := hrel
      have a0r : After w0 wr := after_after aft ar
      by_cases hlt_ : j < n
      · have hltI : (j : Int) < (n : Int) := by omega
        obtain ⟨b, p, u1, rfl, hb1, HX1, hP⟩ := (XX.out.nds wr (k := a0r)).part (i := j) (by show j < xl.length; omega)
        obtain ⟨b2, p2, u2, rfl, hb2, HX2, hQ⟩ := (YY.out.nds wr (k := a0r)).part (i := j) (by show j < yl.length; omega)
        simp only [] at HX1 HX2
        have HT : Hid (all2 ndSame (xl.take (j + 1)) (yl.take (j + 1)) = ndSame u1 u2) := Lib.hid (by rw [all2_take ndSame HX1.out HX2.out, HJ.out, Bool.true_and])
        have HF : Hid (ndSame u1 u2 = false → all2 ndSame xl yl = false) := Lib.hid fun h => all2_false ndSame HX1.out HX2.out h
        have HC : Hid (∀ U : World, After wr U → Calls Try.prog 26 #[ndImg u1, ndImg u2] U fun e w' => e = .returned (.bool (ndSame u1 u2)) ∧ After U w') := Lib.hid fun U hU => hS.out j _ _ HX1.out HX2.out U (after_after a0r hU)
        obtain ⟨nm, ⟨inA, inc, in_⟩, ⟨ouA, ouc, ou⟩, ⟨loA, loc, lo⟩, ⟨eqA, eqc, eq⟩, ⟨auA, auc, au⟩, ⟨asA, asc, as_⟩, ⟨enA, enc, en_⟩⟩ := u1
        obtain ⟨nm', ⟨inA', inc', in_'⟩, ⟨ouA', ouc', ou'⟩, ⟨loA', loc', lo'⟩, ⟨eqA', eqc', eq'⟩, ⟨auA', auc', au'⟩, ⟨asA', asc', as_'⟩, ⟨enA', enc', en_'⟩⟩ := u2
        obtain ⟨e0, e1, e2, e3, e4, e5, e6, e7⟩ : wr.cell? ⟨b, p + j * 8, none⟩ = some (.string nm) ∧ wr.cell? ⟨b, p + j * 8 + 1, none⟩ = some (.slice inA in_.length inc) ∧ wr.cell? ⟨b, p + j * 8 + 2, none⟩ = some (.slice ouA ou.length ouc) ∧ wr.cell? ⟨b, p + j * 8 + 3, none⟩ = some (.slice loA lo.length loc) ∧ wr.cell? ⟨b, p + j * 8 + 4, none⟩ = some (.slice eqA eq.length eqc) ∧ wr.cell? ⟨b, p + j * 8 + 5, none⟩ = some (.slice auA au.length auc) ∧ wr.cell? ⟨b, p + j * 8 + 6, none⟩ = some (.slice asA as_.length asc) ∧ wr.cell? ⟨b, p + j * 8 + 7, none⟩ = some (.slice enA en_.length enc) := ⟨hP.c0, hP.c1, hP.c2, hP.c3, hP.c4, hP.c5, hP.c6, hP.c7⟩
        obtain ⟨g0, g1, g2, g3, g4, g5, g6, g7⟩ : wr.cell? ⟨b2, p2 + j * 8, none⟩ = some (.string nm') ∧ wr.cell? ⟨b2, p2 + j * 8 + 1, none⟩ = some (.slice inA' in_'.length inc') ∧ wr.cell? ⟨b2, p2 + j * 8 + 2, none⟩ = some (.slice ouA' ou'.length ouc') ∧ wr.cell? ⟨b2, p2 + j * 8 + 3, none⟩ = some (.slice loA' lo'.length loc') ∧ wr.cell? ⟨b2, p2 + j * 8 + 4, none⟩ = some (.slice eqA' eq'.length eqc') ∧ wr.cell? ⟨b2, p2 + j * 8 + 5, none⟩ = some (.slice auA' au'.length auc') ∧ wr.cell? ⟨b2, p2 + j * 8 + 6, none⟩ = some (.slice asA' as_'.length asc') ∧ wr.cell? ⟨b2, p2 + j * 8 + 7, none⟩ = some (.slice enA' en_'.length enc') := ⟨hQ.c0, hQ.c1, hQ.c2, hQ.c3, hQ.c4, hQ.c5, hQ.c6, hQ.c7⟩
        obtain ⟨q, hq⟩ : ∃ q, ndSame ⟨nm, ⟨inA, inc, in_⟩, ⟨ouA, ouc, ou⟩, ⟨loA, loc, lo⟩, ⟨eqA, eqc, eq⟩, ⟨auA, auc, au⟩, ⟨asA, asc, as_⟩, ⟨enA, enc, en_⟩⟩ ⟨nm', ⟨inA', inc', in_'⟩, ⟨ouA', ouc', ou'⟩, ⟨loA', loc', lo'⟩, ⟨eqA', eqc', eq'⟩, ⟨auA', auc', au'⟩, ⟨asA', asc', as_'⟩, ⟨enA', enc', en_'⟩⟩ = q := ⟨_, rfl⟩
        rw [hq] at HC HT HF
        replace HC : Hid (∀ U : World, After wr U → Calls Try.prog 26 #[.agg #[.string nm, .slice inA in_.length inc, .slice ouA ou.length ouc, .slice loA lo.length loc, .slice eqA eq.length eqc, .slice auA au.length auc, .slice asA as_.length asc, .slice enA en_.length enc], .agg #[.string nm', .slice inA' in_'.length inc', .slice ouA' ou'.length ouc', .slice loA' lo'.length loc', .slice eqA' eq'.length eqc', .slice auA' au'.length auc', .slice asA' as_'.length asc', .slice enA' en_'.length enc']] U fun e w' => e = .returned (.bool q) ∧ After U w') := HC
        clear hP hQ HX1 HX2 hq
        go_wp2_with fail
        refine (HC.out _ inferInstance).mono ?_
        rintro e w2 ⟨rfl, a2⟩
        have a2w : After w w2 := after_after ar (after_after inferInstance a2)
        clear a2
        cases q with
        | true =>
          go_wp2_with fail
          go_roundw
          case rel => exact ⟨j + 1, by omega, by go_num, HT, a2w⟩
          case measure => simp only [intOf]; omega
        | false =>
          have HV2 : Hid (lsame ndSame xl yl = false) := Lib.hid (by rw [HV.out, HF.out rfl, Bool.and_false])
          go_wp2_with fail
          go_ret
          exact ⟨ret_bool (by rw [HV2.out]), a2w⟩
      · obtain rfl : j = n := by omega
        have HV2 : Hid (lsame ndSame xl yl = true) := Lib.hid (by
          have h_ := HJ.out
          rw [HV.out]
          rw [← hn, List.take_length, hn, ← hm, List.take_length] at h_
          rw [h_]; simp)
        go_wp2_with fail
        go_ret
        exact ⟨ret_bool (by rw [HV2.out]), ar⟩
  · have hnmI : ¬ ((n : Int) = (m : Int)) := by omega
    have HV2 : Hid (lsame ndSame xl yl = false) := Lib.hid (by rw [HV.out, decide_eq_false hnm, Bool.false_and])
    go_enter Try.func25, Try.ntmps25
    go_wp2_with fail
    go_ret
    exact ⟨ret_bool (by rw [HV2.out]), inferInstance⟩
set_option maxRecDepth 100000 in
set_option maxHeartbeats 1600000 in
theorem eqf_tx {w0 : World} {A1 B1 : Option Addr} {c1 d1 : Nat} {xl yl : List Tx} (x : RowOf 6 (PTx S) w0 ⟨A1, c1, xl⟩) (y : RowOf 6 (PTx S) w0 ⟨B1, d1, yl⟩) (w : World) (aft : After w0 w)
    (hS : ∀ (i : Nat) (a b : Tx), xl[i]? = some a → yl[i]? = some b → ∀ U : World, After w0 U → Calls Try.prog 64 #[txImg a, txImg b] U fun e w' => e = .returned (.bool (Tx.same a b)) ∧ After U w') :
    Calls Try.prog 63 #[.slice A1 xl.length c1, .slice B1 yl.length d1, .func (.func 64) #[] #[]] w fun e w' => e = .returned (.bool (lsame Tx.same xl yl)) ∧ After w w' := by
  have XX := Lib.hid x
  have YY := Lib.hid y
  replace hS := Lib.hid hS
  have hx1 := x.len
  have hy1 := y.len
  simp only [] at hx1 hy1
  clear x y
  obtain ⟨n, hn⟩ : ∃ n, xl.length = n := ⟨_, rfl⟩
  obtain ⟨m, hm⟩ : ∃ m, yl.length = m := ⟨_, rfl⟩
  have HV : Hid (lsame Tx.same xl yl = (decide (n = m) && all2 Tx.same xl yl)) := Lib.hid (by unfold lsame; rw [hn, hm])
  rw [hn] at hx1 ⊢
  rw [hm] at hy1 ⊢
  by_cases hnm : n = m
  · subst hnm
    go_enter Try.func63, Try.ntmps63
    go_wp2_with fail
    go_loopw [17] (fun i wr => ∃ j : Nat, j ≤ n ∧ i = .int .i64 (j : Nat) ∧ Hid (all2 Tx.same (xl.take j) (yl.take j) = true) ∧ After w wr) (fun i _ => n - (intOf i).toNat)
    case atStart => exact ⟨0, by omega, rfl, Lib.hid (by simp [all2]), inferInstance⟩
    case round =>
      obtain ⟨j, hj, rfl, HJ, ar⟩ := hrel
      have a0r : After w0 wr := after_after aft ar
      by_cases hlt_ : j < n
      · have hltI : (j : Int) < (n : Int) := by omega
        obtain ⟨b, p, u1, rfl, hb1, HX1, hP⟩ := (XX.out.txs wr (k := a0r)).part (i := j) (by show j < xl.length; omega)
        obtain ⟨b2, p2, u2, rfl, hb2, HX2, hQ⟩ := (YY.out.txs wr (k := a0r)).part (i := j) (by show j < yl.length; omega)
        simp only [] at HX1 HX2
        have HT : Hid (all2 Tx.same (xl.take (j + 1)) (yl.take (j + 1)) = Tx.same u1 u2) := Lib.hid (by rw [all2_take Tx.same HX1.out HX2.out, HJ.out, Bool.true_and])
        have HF : Hid (Tx.same u1 u2 = false → all2 Tx.same xl yl = false) := Lib.hid fun h => all2_false Tx.same HX1.out HX2.out h
        have HC : Hid (∀ U : World, After wr U → Calls Try.prog 64 #[txImg u1, txImg u2] U fun e w' => e = .returned (.bool (Tx.same u1 u2)) ∧ After U w') := Lib.hid fun U hU => hS.out j _ _ HX1.out HX2.out U (after_after a0r hU)
        obtain ⟨k, o, t, v, s, A, c, xs⟩ := u1
        obtain ⟨k', o', t', v', s', A', c', xs'⟩ := u2
        obtain ⟨e0, e1, e2, e3, e4, e5⟩ : wr.cell? ⟨b, p + j * 6, none⟩ = some (.int .i64 k) ∧ wr.cell? ⟨b, p + j * 6 + 1, none⟩ = some (.int .i64 o) ∧ wr.cell? ⟨b, p + j * 6 + 2, none⟩ = some (.int .i64 t) ∧ wr.cell? ⟨b, p + j * 6 + 3, none⟩ = some (.int .i64 v) ∧ wr.cell? ⟨b, p + j * 6 + 4, none⟩ = some (.string s) ∧ wr.cell? ⟨b, p + j * 6 + 5, none⟩ = some (.slice A xs.length c) := ⟨hP.six.c0, hP.six.c1, hP.six.c2, hP.six.c3, hP.six.c4, hP.six.c5⟩
        obtain ⟨g0, g1, g2, g3, g4, g5⟩ : wr.cell? ⟨b2, p2 + j * 6, none⟩ = some (.int .i64 k') ∧ wr.cell? ⟨b2, p2 + j * 6 + 1, none⟩ = some (.int .i64 o') ∧ wr.cell? ⟨b2, p2 + j * 6 + 2, none⟩ = some (.int .i64 t') ∧ wr.cell? ⟨b2, p2 + j * 6 + 3, none⟩ = some (.int .i64 v') ∧ wr.cell? ⟨b2, p2 + j * 6 + 4, none⟩ = some (.string s') ∧ wr.cell? ⟨b2, p2 + j * 6 + 5, none⟩ = some (.slice A' xs'.length c') := ⟨hQ.six.c0, hQ.six.c1, hQ.six.c2, hQ.six.c3, hQ.six.c4, hQ.six.c5⟩
        obtain ⟨q, hq⟩ : ∃ q, Tx.same ⟨k, o, t, v, s, A, c, xs⟩ ⟨k', o', t', v', s', A', c', xs'⟩ = q := ⟨_, rfl⟩
        rw [hq] at HC HT HF
        replace HC : Hid (∀ U : World, After wr U → Calls Try.prog 64 #[.agg #[.int .i64 k, .int .i64 o, .int .i64 t, .int .i64 v, .string s, .slice A xs.length c], .agg #[.int .i64 k', .int .i64 o', .int .i64 t', .int .i64 v', .string s', .slice A' xs'.length c']] U fun e w' => e = .returned (.bool q) ∧ After U w') := HC
        clear hP hQ HX1 HX2 hq
        go_wp2_with fail
        refine (HC.out _ inferInstance).mono ?_
        rintro e w2 ⟨rfl, a2⟩
        have a2w : After w w2 := after_after ar (after_after inferInstance a2)
        clear a2
        cases q with
        | true =>
          go_wp2_with fail
          go_roundw
          case rel => exact ⟨j + 1, by omega, by go_num, HT, a2w⟩
          case measure => simp only [intOf]; omega
        | false =>
          have HV2 : Hid (lsame Tx.same xl yl = false) := Lib.hid (by rw [HV.out, HF.out rfl, Bool.and_false])
          go_wp2_with fail
          go_ret
          exact ⟨ret_bool (by rw [HV2.out]), a2w⟩
      · obtain rfl : j = n := by omega
        have HV2 : Hid (lsame Tx.same xl yl = true) := Lib.hid (by
          have h_ := HJ.out
          rw [HV.out]
          rw [← hn, List.take_length, hn, ← hm, List.take_length] at h_
          rw [h_]; simp)
        go_wp2_with fail
        go_ret
        exact ⟨ret_bool (by rw [HV2.out]), ar⟩
  · have hnmI : ¬ ((n : Int) = (m : Int)) := by omega
    have HV2 : Hid (lsame Tx.same xl yl = false) := Lib.hid (by rw [HV.out, decide_eq_false hnm, Bool.false_and])
    go_enter Try.func63, Try.ntmps63
    go_wp2_with fail
    go_ret
    exact ⟨ret_bool (by rw [HV2.out]), inferInstance⟩
end Go.Proofs.Ytdghfhnkacfahaa
