/-
  The first error of a program's parts in plain words; contracts: look's ident, enum.
-/
import Derived.Test.YtdghfhnkacfahaaSMust
import Derived.Test.YtdghfhnkacfahaaSExC
import Derived.Test.YtdghfhnkacfahaaEId
import Derived.Test.YtdghfhnkacfahaaEStl
set_option linter.unusedVariables false
set_option linter.unusedSimpArgs false
namespace Go.Proofs.Ytdghfhnkacfahaa
open Go.RowKit Go.BigFrame

/-- the first of two errors -/
def ore (a b : Int) : Int := if a = 0 then b else a
theorem ore_no {a b : Int} (h : a ≠ 0) : ore a b = a := if_neg h
theorem ore_yes {a b : Int} (h : a = 0) : ore a b = b := if_pos h
theorem ore_assoc (a b c : Int) : ore (ore a b) c = ore a (ore b c) := by unfold ore; by_cases h : a = 0 <;> simp [h]
theorem ore_zero (a : Int) : ore a 0 = a := by unfold ore; split <;> omega
/-- an error unless something holds -/
def limE (b : Bool) (e : Int) : Int := if b then 0 else e
/-- the first error in a list -/
def firstE {α : Type} (f : α → Int) : List α → Int
  | [] => 0
  | x :: l => ore (f x) (firstE f l)
theorem firstE_append {α : Type} (f : α → Int) (l m : List α) : firstE f (l ++ m) = ore (firstE f l) (firstE f m) := by
  induction l with
  | nil => simp [firstE, ore]
  | cons a l ih => rw [List.cons_append, firstE, firstE, ih, ore_assoc]
theorem firstE_take {α : Type} (f : α → Int) {l : List α} {j : Nat} {x : α} (h : l[j]? = some x) (h0 : firstE f (l.take j) = 0) : firstE f (l.take (j + 1)) = f x := by
  rw [List.take_add_one, h, firstE_append, ore_yes h0]
  simp [firstE, ore_zero]
theorem firstE_stop {α : Type} (f : α → Int) {l : List α} {j : Nat} {x : α} (h : l[j]? = some x) (h0 : firstE f (l.take j) = 0) (hx : f x ≠ 0) : firstE f l = f x := by
  have h1 := firstE_append f (l.take (j + 1)) (l.drop (j + 1))
  rw [List.take_append_drop, firstE_take f h h0, ore_no hx] at h1
  exact h1
theorem firstE_all {α : Type} (f : α → Int) {l : List α} {j : Nat} (hj : ¬ j < l.length) (h0 : firstE f (l.take j) = 0) : firstE f l = 0 := by
  rwa [List.take_of_length_le (by omega)] at h0
def identE (s : ByteArray) : Int := limE (identB s) 6
def enumE (u : EnD) : Int := ore (identE u.name) (ore (limE (decide ((0 : Int) < (u.tags.l.length : Int))) 8) (ore (limE (decide ((u.tags.l.length : Int) ≤ 16)) 3) (firstE identE u.tags.l)))
def onE (en : List EnD) (o : OnD) : Int := ore (identE o.name) (limE (!(o.t == 2) && hasV en o.t o.tag) 5)
def declE (en : List EnD) (port : Bool) (d : DeclD) : Int :=
  ore (identE d.name) (ore (limE (decide ((0 : Int) < (sizeV en d.ty : Int))) 10) (ore (limE (!port || (d.clock.l.length : Int) == 0) 11) (ore (limE (decide ((d.clock.l.length : Int) ≤ 4)) 3) (firstE (onE en) d.clock.l))))
def declsE (en : List EnD) (port : Bool) (l : List DeclD) : Int := firstE (declE en port) l
noncomputable def eqE (en : List EnD) (q : EqD) : Int :=
  ore (limE (decide ((0 : Int) < (q.left.l.length : Int))) 8) (ore (limE (decide ((q.left.l.length : Int) ≤ 64)) 3) (ore (firstE identE q.left.l) (ore (exE en q.right) (limE ((q.left.l.length : Int) == 1 || q.right.kind == 10) 5))))
noncomputable def trE (en : List EnD) (n : Nat) (strong : Bool) (t : TrD) : Int :=
  ore (limE (decide (0 ≤ t.dst) && decide (t.dst < (n : Int))) 14) (ore (exE en t.cond) (limE (!strong || stateless t.cond.list) 5))
mutual
noncomputable def stE (en : List EnD) (n d : Nat) : StT → Int
  | .mk nm lo eq _ _ au ul ut => ore (identE nm) (ore (limE (decide ((lo.l.length : Int) ≤ 256) && (decide ((eq.l.length : Int) ≤ 256) && (decide ((au.length : Int) ≤ 8) && (decide ((ul.l.length : Int) ≤ 4) && decide ((ut.l.length : Int) ≤ 4))))) 3)
    (ore (declsE en false lo.l) (ore (firstE (eqE en) eq.l) (ore (ausE en (d + 1) au) (ore (firstE (trE en n true) ul.l) (firstE (trE en n false) ut.l))))))
noncomputable def stsE (en : List EnD) (n d : Nat) : List StT → Int
  | [] => 0
  | x :: l => ore (stE en n d x) (stsE en n d l)
noncomputable def auE (en : List EnD) (d : Nat) : AuT → Int
  | .mk _ _ l => ore (limE (decide ((d : Int) < 3)) 3) (ore (limE (decide ((0 : Int) < (l.length : Int))) 8) (ore (limE (decide ((l.length : Int) ≤ 8)) 3) (stsE en l.length d l)))
noncomputable def ausE (en : List EnD) (d : Nat) : List AuT → Int
  | [] => 0
  | x :: l => ore (auE en d x) (ausE en d l)
end
theorem ausE_is (en : List EnD) (d : Nat) (l : List AuT) : ausE en d l = firstE (auE en d) l := by
  induction l with
  | nil => rw [ausE, firstE]
  | cons a l ih => rw [ausE, firstE, ih]
theorem stsE_is (en : List EnD) (n d : Nat) (l : List StT) : stsE en n d l = firstE (stE en n d) l := by
  induction l with
  | nil => rw [stsE, firstE]
  | cons a l ih => rw [stsE, firstE, ih]
theorem auE_is (en : List EnD) (d : Nat) (A : Option Addr) (c : Nat) (l : List StT) : auE en d (.mk A c l) = ore (limE (decide ((d : Int) < 3)) 3) (ore (limE (decide ((0 : Int) < (l.length : Int))) 8) (ore (limE (decide ((l.length : Int) ≤ 8)) 3) (firstE (stE en l.length d) l))) := by
  rw [auE, stsE_is]
theorem stE_is (en : List EnD) (n d : Nat) (nm : ByteArray) (lo : Lst DeclD) (eq : Lst EqD) (A : Option Addr) (c : Nat) (au : List AuT) (ul ut : Lst TrD) : stE en n d (.mk nm lo eq A c au ul ut) = ore (identE nm) (ore (limE (decide ((lo.l.length : Int) ≤ 256) && (decide ((eq.l.length : Int) ≤ 256) && (decide ((au.length : Int) ≤ 8) && (decide ((ul.l.length : Int) ≤ 4) && decide ((ut.l.length : Int) ≤ 4))))) 3)
    (ore (firstE (declE en false) lo.l) (ore (firstE (eqE en) eq.l) (ore (firstE (auE en (d + 1)) au) (ore (firstE (trE en n true) ul.l) (ore (firstE (trE en n false) ut.l) 0)))))) := by
  rw [stE, ausE_is, ore_zero]; rfl
/-- the first error of a node ahead of its equations -/
def headE (en : List EnD) (n : NdD) : Int :=
  ore (identE n.name) (ore (limE (decide ((n.ins.l.length : Int) ≤ 64) && (decide ((n.outs.l.length : Int) ≤ 64) && (decide ((n.locals.l.length : Int) ≤ 256) && (decide ((n.eqs.l.length : Int) ≤ 256) && (decide ((n.autos.l.length : Int) ≤ 8) && (decide ((n.assume.l.length : Int) ≤ 8) && decide ((n.ensure.l.length : Int) ≤ 8))))))) 3)
    (ore (limE (decide ((0 : Int) < (n.outs.l.length : Int))) 8) (ore (declsE en true n.ins.l) (ore (declsE en true n.outs.l) (declsE en false n.locals.l)))))
/-- the first error of a node behind its equations -/
noncomputable def tailE (en : List EnD) (n : NdD) : Int := ore (firstE (auE en 0) n.autos.l) (ore (firstE (exE en) n.assume.l) (firstE (exE en) n.ensure.l))

set_option maxRecDepth 100000 in
theorem lident_any {w0 : World} {g A n c nd q} (h : Look w0 g A n c nd q) (s : ByteArray) (hs : s.size ≤ 140737488355328) (w : World) (hw : After w0 w) :
    Calls Try.prog 68 #[.pointer (some ⟨g, 0, none⟩), .string s] w fun e w' => PE w nd q (identE s) e w' := by
  have HC := Lib.hid (fun (U : World) => ident_any s hs U)
  have HM : Hid (∀ U, After w0 U → Calls Try.prog 33 #[.pointer (some ⟨g, 0, none⟩), .bool (identB s), .int .i64 6] U fun e w' => PE U nd q (identE s) e w') := Lib.hid fun U hU => must_any (h.here U (k := hU)) (identB s) 6 (by decide)
  obtain ⟨b, hb⟩ : ∃ b, identB s = b := ⟨_, rfl⟩
  obtain ⟨R, hR⟩ : ∃ R, identE s = R := ⟨_, rfl⟩
  rw [hb] at HC HM
  rw [hR] at HM ⊢
  clear hb hR h
  go_enter Try.func68, Try.ntmps68
  go_wp2_with fail
  refine (HC.out w).mono ?_
  rintro e w1 ⟨rfl, a1⟩
  go_wp2_with fail
  refine (HM.out w1 (after_after hw a1)).mono ?_
  rintro e w2 hp
  by_cases hE : R = 0
  · subst hE
    obtain ⟨rfl, a2⟩ := hp.of0
    go_wp2_with fail
    go_end0
    exact PE.mk0 (after_after a1 a2)
  · obtain ⟨rfl, a2⟩ := hp.of1 hE
    unfold pan
    go_wp2_with fail
    exact ⟨rfl, PE.mk1 hE (after_after a1 a2)⟩
set_option maxRecDepth 100000 in
set_option maxHeartbeats 1600000 in
theorem lenum_any {w0 : World} {g A n c nd q} (h : Look w0 g A n c nd q) (s : ByteArray) (hs : s.size ≤ 140737488355328) (x : Lst ByteArray) (hx : RowOf 1 PStr w0 x) (w : World) (hw : After w0 w) :
    Calls Try.prog 34 #[.pointer (some ⟨g, 0, none⟩), .agg #[.string s, .slice x.A x.l.length x.c]] w fun e w' => PE w nd q (enumE ⟨s, x⟩) e w' := by
  have HI : Hid (∀ s : ByteArray, s.size ≤ 140737488355328 → ∀ U, After w0 U → Calls Try.prog 68 #[.pointer (some ⟨g, 0, none⟩), .string s] U fun e w' => PE U nd q (identE s) e w') := fun s hs U hU => lident_any h s hs U hU
  have HM : Hid (∀ b e, e ≠ 0 → ∀ U, After w0 U → Calls Try.prog 33 #[.pointer (some ⟨g, 0, none⟩), .bool b, .int .i64 e] U fun e' w' => PE U nd q (limE b e) e' w') := fun b e he U hU => must_any (h.here U (k := hU)) b e he
  obtain ⟨R, hR⟩ : ∃ R, enumE ⟨s, x⟩ = R := ⟨_, rfl⟩
  have HV0 : Hid (R = ore (identE s) (ore (limE (decide ((0 : Int) < (x.l.length : Int))) 8) (ore (limE (decide ((x.l.length : Int) ≤ 16)) 3) (ore (firstE identE x.l) 0)))) := by
    show _ = _
    rw [← hR, ore_zero]; rfl
  rw [hR]
  obtain ⟨A1, c1, l⟩ := x
  simp only [] at HV0 ⊢
  have XX := Lib.hid hx
  have hbl := hx.len
  simp only [] at hbl
  clear hR h hx
  obtain ⟨W1, hW1, HK, a1⟩ : ∃ W1, w.alloc (.cells #[.string s, .slice A1 l.length c1] 59) = W1 ∧ Hid (∀ U : World, After W1 U → U.cell? ⟨w.heap.size, 0, none⟩ = some (.string s) ∧ U.cell? ⟨w.heap.size, 1, none⟩ = some (.slice A1 l.length c1) ∧ Le (w.heap.size + 1) U) ∧ After w W1 := by
    refine ⟨_, rfl, fun U hU => ?_, inferInstance⟩
    have y0 := (Blk.new w 59 #[.string s, .slice A1 l.length c1]).after (w' := U)
    exact ⟨by rw [y0.cell]; rfl, by rw [y0.cell]; rfl, y0.is_le⟩
  obtain ⟨k0, k1, kl⟩ := HK.out W1 inferInstance
  have dBW1 := a1
  go_enter Try.func34, Try.ntmps34
  go_wp2_with fail
  try rw [hW1]
  clear hW1
  refine (HI.out s hs W1 (after_after hw a1)).mono ?_
  rintro e w2 hp
  by_cases hE : identE s = 0
  rotate_left
  · obtain ⟨F, hF, HP⟩ : ∃ F, e = pan nd q F ∧ Hid (PE w nd q R (pan nd q F) w2) := by
      obtain ⟨rfl, c2_⟩ := hp.of1 hE
      have HX : Hid (R = identE s) := Lib.hid (HV0.out.trans (ore_no hE))
      have HE : Hid (R = identE s) := HX
      exact ⟨_, rfl, Lib.hid (by rw [HE.out]; exact PE.mk1 hE (after_after a1 c2_))⟩
    clear hE hp
    subst hF
    unfold pan
    go_wp2_with fail
    exact ⟨rfl, HP.out⟩
  replace HV0 := Lib.hid (HV0.out.trans (ore_yes hE))
  obtain ⟨rfl, c2_⟩ := hp.ofz hE
  have d2 : After w w2 := after_after a1 c2_
  have b2 : After W1 w2 := after_after (after_refl W1) c2_
  clear k0 k1 kl
  obtain ⟨k0, k1, kl⟩ := HK.out w2 (b2)
  clear hE hp
  go_wp2_with fail
  refine (HM.out _ 8 (by decide) w2 (after_after hw d2)).mono ?_
  rintro e w3 hp
  replace hp := hp.to (F := limE (decide ((0 : Int) < (l.length : Int))) 8) (congrArg (fun b => limE b 8) (decide_eq_decide.2 (by omega)))
  by_cases hE : limE (decide ((0 : Int) < (l.length : Int))) 8 = 0
  rotate_left
  · obtain ⟨F, hF, HP⟩ : ∃ F, e = pan nd q F ∧ Hid (PE w nd q R (pan nd q F) w3) := by
      obtain ⟨rfl, c3_⟩ := hp.of1 hE
      have HX : Hid (R = limE (decide ((0 : Int) < (l.length : Int))) 8) := Lib.hid (HV0.out.trans (ore_no hE))
      have HE : Hid (R = limE (decide ((0 : Int) < (l.length : Int))) 8) := HX
      exact ⟨_, rfl, Lib.hid (by rw [HE.out]; exact PE.mk1 hE (after_after d2 c3_))⟩
    clear hE hp
    subst hF
    unfold pan
    go_wp2_with fail
    exact ⟨rfl, HP.out⟩
  replace HV0 := Lib.hid (HV0.out.trans (ore_yes hE))
  obtain ⟨rfl, c3_⟩ := hp.ofz hE
  have d3 : After w w3 := after_after d2 c3_
  have b3 : After W1 w3 := after_after (b2) c3_
  clear k0 k1 kl
  obtain ⟨k0, k1, kl⟩ := HK.out w3 (b3)
  clear hE hp
  go_wp2_with fail
  refine (HM.out _ 3 (by decide) w3 (after_after hw d3)).mono ?_
  rintro e w4 hp
  replace hp := hp.to (F := limE (decide ((l.length : Int) ≤ 16)) 3) (congrArg (fun b => limE b 3) (decide_eq_decide.2 (by omega)))
  by_cases hE : limE (decide ((l.length : Int) ≤ 16)) 3 = 0
  rotate_left
  · obtain ⟨F, hF, HP⟩ : ∃ F, e = pan nd q F ∧ Hid (PE w nd q R (pan nd q F) w4) := by
      obtain ⟨rfl, c4_⟩ := hp.of1 hE
      have HX : Hid (R = limE (decide ((l.length : Int) ≤ 16)) 3) := Lib.hid (HV0.out.trans (ore_no hE))
      have HE : Hid (R = limE (decide ((l.length : Int) ≤ 16)) 3) := HX
      exact ⟨_, rfl, Lib.hid (by rw [HE.out]; exact PE.mk1 hE (after_after d3 c4_))⟩
    clear hE hp
    subst hF
    unfold pan
    go_wp2_with fail
    exact ⟨rfl, HP.out⟩
  replace HV0 := Lib.hid (HV0.out.trans (ore_yes hE))
  obtain ⟨rfl, c4_⟩ := hp.ofz hE
  have d4 : After w w4 := after_after d3 c4_
  have b4 : After W1 w4 := after_after (b3) c4_
  clear k0 k1 kl
  obtain ⟨k0, k1, kl⟩ := HK.out w4 (b4)
  clear hE hp
  go_wp2_with fail
  go_loopw [25] (fun i wr => ∃ j : Nat, j ≤ l.length ∧ i = .int .i64 (j : Nat) ∧ Hid (firstE identE (l.take j) = 0) ∧ After W1 wr) (fun i _ => l.length - (intOf i).toNat)
  case atStart => exact ⟨0, by omega, rfl, Lib.hid (by simp [firstE]), b4⟩
  case round =>
    obtain ⟨j, hj, rfl, HJj, arj⟩ := hrel
    have drj : After w wr := after_after dBW1 arj
    obtain ⟨rj, hrj⟩ : ∃ r, wr = r := ⟨_, rfl⟩
    rw [hrj] at arj drj ⊢
    clear hrj wr
    clear k0 k1 kl
    obtain ⟨k0, k1, kl⟩ := HK.out rj (arj)
    by_cases hltj : j < l.length
    · have hltjI : (j : Int) < (l.length : Int) := by omega
      obtain ⟨bj, pj, yj, rfl, hlej, HYj, hPj⟩ := (XX.out.strs rj (k := after_after hw drj)).part (i := j) hltj
      have y0 : rj.cell? ⟨bj, pj + j, none⟩ = some (.string yj) := by have := hPj.1; rwa [Nat.mul_one] at this
      have hys := hPj.2
      clear hPj
      have HS1 : Hid ((identE yj) ≠ 0 → R = (identE yj)) := Lib.hid fun h => by
        have h1 := firstE_stop identE HYj.out HJj.out h
        have h2 : R = (identE yj) := HV0.out.trans ((ore_no (by rw [h1]; exact h)).trans h1)
        exact h2
      have HV1 : Hid ((identE yj) = ore (identE yj) 0) := Lib.hid (ore_zero _).symm
      have HNj : Hid ((identE yj) = 0 → firstE identE (l.take (j + 1)) = 0) := Lib.hid fun h => (firstE_take identE HYj.out HJj.out).trans h
      obtain ⟨X1, hX_⟩ : ∃ X, X = (identE yj) := ⟨_, rfl⟩
      replace HV1 := Lib.hid (hX_.trans HV1.out)
      rw [← hX_] at HS1 HNj
      clear hX_
      go_wp2_with fail
      refine (HI.out yj hys rj (after_after hw drj)).mono ?_
      rintro e w5 hp
      by_cases hE : identE yj = 0
      rotate_left
      · obtain ⟨F, hF, HP⟩ : ∃ F, e = pan nd q F ∧ Hid (PE w nd q R (pan nd q F) w5) := by
          obtain ⟨rfl, c5_⟩ := hp.of1 hE
          have HX : Hid (X1 = identE yj) := Lib.hid (HV1.out.trans (ore_no hE))
          have HE : Hid (R = identE yj) := Lib.hid ((HS1.out (by rw [HX.out]; exact hE)).trans HX.out)
          exact ⟨_, rfl, Lib.hid (by rw [HE.out]; exact PE.mk1 hE (after_after drj c5_))⟩
        clear hE hp
        subst hF
        unfold pan
        go_wp2_with fail
        exact ⟨rfl, HP.out⟩
      replace HV1 := Lib.hid (HV1.out.trans (ore_yes hE))
      obtain ⟨rfl, c5_⟩ := hp.ofz hE
      have d5 : After w w5 := after_after drj c5_
      have b5 : After W1 w5 := after_after (arj) c5_
      clear k0 k1 kl
      obtain ⟨k0, k1, kl⟩ := HK.out w5 (b5)
      clear hE hp
      go_wp2_with fail
      go_roundw
      case rel => exact ⟨j + 1, by omega, by go_num, Lib.hid (HNj.out HV1.out), b5⟩
      case measure => simp only [intOf]; omega
    · replace HV0 := Lib.hid (HV0.out.trans (ore_yes (firstE_all identE hltj HJj.out)))
      go_wp2_with fail
      go_end0
      exact by have hz := HV0.out; rw [hz]; exact PE.mk0 drj
end Go.Proofs.Ytdghfhnkacfahaa
