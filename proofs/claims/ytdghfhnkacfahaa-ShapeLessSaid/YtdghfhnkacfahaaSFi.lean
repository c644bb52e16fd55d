/-
  Contracts: shape's Find, Plain (printed by gen_sfind.py).
-/
import Derived.Test.YtdghfhnkacfahaaSPg
import Derived.Test.YtdghfhnkacfahaaGives
import Derived.Test.YtdghfhnkacfahaaSMust
set_option linter.unusedVariables false
set_option linter.unusedSimpArgs false
namespace Go.Proofs.Ytdghfhnkacfahaa
open Go.RowKit Go.BigFrame

/-- the index of the first element that fits, from k on, or -1 -/
def ixV {α : Type} (p : α → Bool) : List α → Nat → Int
  | [], _ => -1
  | x :: l, k => if p x then (k : Int) else ixV p l (k + 1)
theorem ixV_at {α : Type} (p : α → Bool) : ∀ {l : List α} {j : Nat} {x : α} (k : Nat), l[j]? = some x → (l.take j).any p = false → p x = true → ixV p l k = ((k + j : Nat) : Int)
  | [], j, x, k, h, _, _ => by simp at h
  | a :: l, 0, x, k, h, _, hx => by
    simp at h
    subst h
    rw [ixV, if_pos hx]; rfl
  | a :: l, j + 1, x, k, h, h0, hx => by
    rw [List.take_succ_cons, List.any_cons, Bool.or_eq_false_iff] at h0
    rw [ixV, if_neg (by rw [h0.1]; decide), ixV_at p (k + 1) (by simpa using h) h0.2 hx]
    congr 1; omega
theorem ixV_none {α : Type} (p : α → Bool) : ∀ (l : List α) (k : Nat), l.any p = false → ixV p l k = -1
  | [], _, _ => rfl
  | a :: l, k, h0 => by
    rw [List.any_cons, Bool.or_eq_false_iff] at h0
    rw [ixV, if_neg (by rw [h0.1]; decide), ixV_none p l (k + 1) h0.2]
theorem ixV_bounds {α : Type} (p : α → Bool) : ∀ (l : List α) (k : Nat), (ixV p l k = -1 ∧ l.any p = false) ∨ ((k : Int) ≤ ixV p l k ∧ ixV p l k < (k : Int) + l.length ∧ l.any p = true)
  | [], _ => .inl ⟨rfl, rfl⟩
  | a :: l, k => by
    rw [ixV]
    by_cases h : p a = true
    · rw [if_pos h]; exact .inr ⟨by omega, by simp only [List.length_cons]; omega, by rw [List.any_cons, h]; rfl⟩
    · rw [if_neg h]
      rcases ixV_bounds p l (k + 1) with h1 | h1
      · exact .inl ⟨h1.1, by rw [List.any_cons, h1.2, Bool.eq_false_iff.2 h]; rfl⟩
      · exact .inr ⟨by omega, by simp only [List.length_cons]; omega, by rw [List.any_cons, h1.2.2, Bool.or_true]⟩
theorem any_take {α : Type} (p : α → Bool) {l : List α} {j : Nat} {x : α} (h : l[j]? = some x) (h0 : (l.take j).any p = false) (hx : p x = false) : (l.take (j + 1)).any p = false := by
  rw [List.take_add_one, h, List.any_append, h0]
  simp [hx]
theorem any_all {α : Type} (p : α → Bool) {l : List α} {j : Nat} (hj : ¬ j < l.length) (h0 : (l.take j).any p = false) : l.any p = false := by
  rwa [List.take_of_length_le (by omega)] at h0
variable {S : Prop}
def isNamed (s : ByteArray) (n : NdD) : Bool := n.name.toList == s.toList
def hasAutos (n : NdD) : Bool := decide (0 < (n.autos.l.length : Int))
set_option maxRecDepth 100000 in
theorem find_f {w0 : World} {gs : Nat} {s : ByteArray} (k0 : w0.cell? ⟨gs, 0, none⟩ = some (.string s)) (l0 : Le (gs + 1) w0) (nm : ByteArray) (inA : Option Addr) (inc : Nat) (in_ : List DeclD) (ouA : Option Addr) (ouc : Nat) (ou : List DeclD) (loA : Option Addr) (loc : Nat) (lo : List DeclD) (eqA : Option Addr) (eqc : Nat) (eq : List EqD) (auA : Option Addr) (auc : Nat) (au : List AuT) (asA : Option Addr) (asc : Nat) (as_ : List Tx) (enA : Option Addr) (enc : Nat) (en_ : List Tx) (hs : nm.size ≤ 140737488355328) (hl : au.length ≤ 140737488355328) (w : World) (hw : After w0 w) :
    Calls Try.prog 53 #[.agg #[.string nm, .slice inA in_.length inc, .slice ouA ou.length ouc, .slice loA lo.length loc, .slice eqA eq.length eqc, .slice auA au.length auc, .slice asA as_.length asc, .slice enA en_.length enc], .pointer (some ⟨gs, 0, none⟩)] w fun e w' => e = .returned (.bool (isNamed s ⟨nm, ⟨inA, inc, in_⟩, ⟨ouA, ouc, ou⟩, ⟨loA, loc, lo⟩, ⟨eqA, eqc, eq⟩, ⟨auA, auc, au⟩, ⟨asA, asc, as_⟩, ⟨enA, enc, en_⟩⟩)) ∧ ∃ y, w' = w.more y := by
  have k1 : w.cell? ⟨gs, 0, none⟩ = some (.string s) := (hw.below.cell (p := ⟨gs, 0, none⟩) l0.le).trans k0
  have l1 : Le (gs + 1) w := ⟨Nat.le_trans l0.le hw.below.size⟩
  clear k0 l0
  obtain ⟨q, hq⟩ : ∃ q, (nm.toList == s.toList) = q := ⟨_, rfl⟩
  have HV : Hid (isNamed s ⟨nm, ⟨inA, inc, in_⟩, ⟨ouA, ouc, ou⟩, ⟨loA, loc, lo⟩, ⟨eqA, eqc, eq⟩, ⟨auA, auc, au⟩, ⟨asA, asc, as_⟩, ⟨enA, enc, en_⟩⟩ = q) := hq
  go_enter Try.func53, Try.ntmps53
  go_wp2_with fail
  go_ret
  exact ⟨ret_bool (by rw [HV.out]), After.is_more _ _⟩
set_option maxRecDepth 100000 in
theorem plain_f {w0 : World}  (nm : ByteArray) (inA : Option Addr) (inc : Nat) (in_ : List DeclD) (ouA : Option Addr) (ouc : Nat) (ou : List DeclD) (loA : Option Addr) (loc : Nat) (lo : List DeclD) (eqA : Option Addr) (eqc : Nat) (eq : List EqD) (auA : Option Addr) (auc : Nat) (au : List AuT) (asA : Option Addr) (asc : Nat) (as_ : List Tx) (enA : Option Addr) (enc : Nat) (en_ : List Tx) (hs : nm.size ≤ 140737488355328) (hl : au.length ≤ 140737488355328) (w : World) (hw : After w0 w) :
    Calls Try.prog 55 #[.agg #[.string nm, .slice inA in_.length inc, .slice ouA ou.length ouc, .slice loA lo.length loc, .slice eqA eq.length eqc, .slice auA au.length auc, .slice asA as_.length asc, .slice enA en_.length enc]] w fun e w' => e = .returned (.bool (hasAutos ⟨nm, ⟨inA, inc, in_⟩, ⟨ouA, ouc, ou⟩, ⟨loA, loc, lo⟩, ⟨eqA, eqc, eq⟩, ⟨auA, auc, au⟩, ⟨asA, asc, as_⟩, ⟨enA, enc, en_⟩⟩)) ∧ ∃ y, w' = w.more y := by
  have HV : Hid (hasAutos ⟨nm, ⟨inA, inc, in_⟩, ⟨ouA, ouc, ou⟩, ⟨loA, loc, lo⟩, ⟨eqA, eqc, eq⟩, ⟨auA, auc, au⟩, ⟨asA, asc, as_⟩, ⟨enA, enc, en_⟩⟩ = decide (0 < (au.length : Int))) := rfl
  by_cases h0 : 0 < au.length
  · have h1 : (0 : Int) < (au.length : Int) := by omega
    have HV2 : Hid (hasAutos ⟨nm, ⟨inA, inc, in_⟩, ⟨ouA, ouc, ou⟩, ⟨loA, loc, lo⟩, ⟨eqA, eqc, eq⟩, ⟨auA, auc, au⟩, ⟨asA, asc, as_⟩, ⟨enA, enc, en_⟩⟩ = true) := Lib.hid (HV.out.trans (decide_eq_true h1))
    go_enter Try.func55, Try.ntmps55
    go_wp2_with fail
    go_ret
    exact ⟨ret_bool (by rw [HV2.out]), After.is_more _ _⟩
  · have h1 : ¬ (0 : Int) < (au.length : Int) := by omega
    have h2 : au.length = 0 := by omega
    have HV2 : Hid (hasAutos ⟨nm, ⟨inA, inc, in_⟩, ⟨ouA, ouc, ou⟩, ⟨loA, loc, lo⟩, ⟨eqA, eqc, eq⟩, ⟨auA, auc, au⟩, ⟨asA, asc, as_⟩, ⟨enA, enc, en_⟩⟩ = false) := Lib.hid (HV.out.trans (decide_eq_false h1))
    rw [h2]
    go_enter Try.func55, Try.ntmps55
    go_wp2_with fail
    go_ret
    exact ⟨ret_bool (by rw [HV2.out]), After.is_more _ _⟩
set_option maxRecDepth 100000 in
set_option maxHeartbeats 1600000 in
theorem ixf_find {w0 : World} {gs : Nat} {s : ByteArray} (k0 : w0.cell? ⟨gs, 0, none⟩ = some (.string s)) (l0 : Le (gs + 1) w0) {nA : Option Addr} {nc : Nat} {nl : List NdD} (hnd : RowOf 8 (PNd S) w0 ⟨nA, nc, nl⟩) (w : World) (hw : After w0 w) :
    Calls Try.prog 52 #[.slice nA nl.length nc, .func (.func 53) #[] #[.pointer (some ⟨gs, 0, none⟩)]] w fun e w' => e = .returned (.int .i64 (ixV (isNamed s) nl 0)) ∧ ∃ y, w' = w.more y := by
  have HF : Hid (∀ (nm : ByteArray) (inA : Option Addr) (inc : Nat) (in_ : List DeclD) (ouA : Option Addr) (ouc : Nat) (ou : List DeclD) (loA : Option Addr) (loc : Nat) (lo : List DeclD) (eqA : Option Addr) (eqc : Nat) (eq : List EqD) (auA : Option Addr) (auc : Nat) (au : List AuT) (asA : Option Addr) (asc : Nat) (as_ : List Tx) (enA : Option Addr) (enc : Nat) (en_ : List Tx), nm.size ≤ 140737488355328 → au.length ≤ 140737488355328 → ∀ U, After w0 U → Calls Try.prog 53 #[.agg #[.string nm, .slice inA in_.length inc, .slice ouA ou.length ouc, .slice loA lo.length loc, .slice eqA eq.length eqc, .slice auA au.length auc, .slice asA as_.length asc, .slice enA en_.length enc], .pointer (some ⟨gs, 0, none⟩)] U fun e w' => e = .returned (.bool (isNamed s ⟨nm, ⟨inA, inc, in_⟩, ⟨ouA, ouc, ou⟩, ⟨loA, loc, lo⟩, ⟨eqA, eqc, eq⟩, ⟨auA, auc, au⟩, ⟨asA, asc, as_⟩, ⟨enA, enc, en_⟩⟩)) ∧ ∃ y, w' = U.more y) := fun nm inA inc in_ ouA ouc ou loA loc lo eqA eqc eq auA auc au asA asc as_ enA enc en_ h1 h2 U hU => find_f k0 l0 nm inA inc in_ ouA ouc ou loA loc lo eqA eqc eq auA auc au asA asc as_ enA enc en_ h1 h2 U hU
  have HND := Lib.hid hnd
  have hle := hnd.len
  simp only [] at hle
  obtain ⟨R, hR⟩ : ∃ R, ixV (isNamed s) nl 0 = R := ⟨_, rfl⟩
  have HV := Lib.hid hR
  rw [hR]
  clear hR hnd
  go_enter Try.func52, Try.ntmps52
  go_wp2_with fail
  go_loopw [8] (fun i wr => ∃ j : Nat, j ≤ nl.length ∧ i = .int .i64 (j : Nat) ∧ Hid ((nl.take j).any (isNamed s) = false) ∧ After w wr) (fun i _ => nl.length - (intOf i).toNat)
  case atStart => exact ⟨0, by omega, rfl, Lib.hid (by simp), inferInstance⟩
  case round =>
    obtain ⟨j, hj, rfl, HJ, ar⟩ := hrel
    have a0r : After w0 wr := after_after hw ar
    by_cases hlt : j < nl.length
    · have hltI : (j : Int) < (nl.length : Int) := by omega
      obtain ⟨b, p, yj, rfl, hle1, HY, hP⟩ := (HND.out.nds wr (k := a0r)).part (i := j) hlt
      obtain ⟨nm, ⟨inA, inc, in_⟩, ⟨ouA, ouc, ou⟩, ⟨loA, loc, lo⟩, ⟨eqA, eqc, eq⟩, ⟨auA, auc, au⟩, ⟨asA, asc, as_⟩, ⟨enA, enc, en_⟩⟩ := yj
      obtain ⟨z0, z1, z2, z3, z4, z5, z6, z7⟩ : wr.cell? ⟨b, p + j * 8, none⟩ = some (.string nm) ∧ wr.cell? ⟨b, p + j * 8 + 1, none⟩ = some (.slice inA in_.length inc) ∧ wr.cell? ⟨b, p + j * 8 + 2, none⟩ = some (.slice ouA ou.length ouc) ∧ wr.cell? ⟨b, p + j * 8 + 3, none⟩ = some (.slice loA lo.length loc) ∧ wr.cell? ⟨b, p + j * 8 + 4, none⟩ = some (.slice eqA eq.length eqc) ∧ wr.cell? ⟨b, p + j * 8 + 5, none⟩ = some (.slice auA au.length auc) ∧ wr.cell? ⟨b, p + j * 8 + 6, none⟩ = some (.slice asA as_.length asc) ∧ wr.cell? ⟨b, p + j * 8 + 7, none⟩ = some (.slice enA en_.length enc) := ⟨hP.c0, hP.c1, hP.c2, hP.c3, hP.c4, hP.c5, hP.c6, hP.c7⟩
      have HC := Lib.hid (HF.out nm inA inc in_ ouA ouc ou loA loc lo eqA eqc eq auA auc au asA asc as_ enA enc en_ hP.nm hP.r5.len wr a0r)
      obtain ⟨q, hq⟩ : ∃ q, isNamed s ⟨nm, ⟨inA, inc, in_⟩, ⟨ouA, ouc, ou⟩, ⟨loA, loc, lo⟩, ⟨eqA, eqc, eq⟩, ⟨auA, auc, au⟩, ⟨asA, asc, as_⟩, ⟨enA, enc, en_⟩⟩ = q := ⟨_, rfl⟩
      rw [hq] at HC
      have HQ := Lib.hid hq
      clear hP hq
      cases q with
      | true =>
        have HE : Hid (R = (j : Int)) := Lib.hid (by rw [← HV.out]; exact (ixV_at _ 0 HY.out HJ.out HQ.out).trans (by omega))
        go_wp2_with fail
        refine HC.out.mono ?_
        rintro e w' ⟨rfl, y, rfl⟩
        go_wp2_with fail
        go_ret
        exact ⟨by rw [HE.out]; rfl, have := ar; After.is_more _ _⟩
      | false =>
        go_wp2_with fail
        refine HC.out.mono ?_
        rintro e w' ⟨rfl, y, rfl⟩
        go_wp2_with fail
        go_roundw
        case rel => exact ⟨j + 1, by omega, by go_num, Lib.hid (any_take _ HY.out HJ.out HQ.out), have := ar; inferInstance⟩
        case measure => simp only [intOf]; omega
    · have HE : Hid (R = -1) := Lib.hid (by rw [← HV.out]; exact ixV_none _ nl 0 (any_all _ hlt HJ.out))
      go_wp2_with fail
      go_ret
      exact ⟨by rw [HE.out]; rfl, have := ar; After.is_more _ _⟩
set_option maxRecDepth 100000 in
set_option maxHeartbeats 1600000 in
theorem ixf_plain {w0 : World}  {nA : Option Addr} {nc : Nat} {nl : List NdD} (hnd : RowOf 8 (PNd S) w0 ⟨nA, nc, nl⟩) (w : World) (hw : After w0 w) :
    Calls Try.prog 52 #[.slice nA nl.length nc, .func (.func 55) #[] #[]] w fun e w' => e = .returned (.int .i64 (ixV (hasAutos) nl 0)) ∧ ∃ y, w' = w.more y := by
  have HF : Hid (∀ (nm : ByteArray) (inA : Option Addr) (inc : Nat) (in_ : List DeclD) (ouA : Option Addr) (ouc : Nat) (ou : List DeclD) (loA : Option Addr) (loc : Nat) (lo : List DeclD) (eqA : Option Addr) (eqc : Nat) (eq : List EqD) (auA : Option Addr) (auc : Nat) (au : List AuT) (asA : Option Addr) (asc : Nat) (as_ : List Tx) (enA : Option Addr) (enc : Nat) (en_ : List Tx), nm.size ≤ 140737488355328 → au.length ≤ 140737488355328 → ∀ U, After w0 U → Calls Try.prog 55 #[.agg #[.string nm, .slice inA in_.length inc, .slice ouA ou.length ouc, .slice loA lo.length loc, .slice eqA eq.length eqc, .slice auA au.length auc, .slice asA as_.length asc, .slice enA en_.length enc]] U fun e w' => e = .returned (.bool (hasAutos ⟨nm, ⟨inA, inc, in_⟩, ⟨ouA, ouc, ou⟩, ⟨loA, loc, lo⟩, ⟨eqA, eqc, eq⟩, ⟨auA, auc, au⟩, ⟨asA, asc, as_⟩, ⟨enA, enc, en_⟩⟩)) ∧ ∃ y, w' = U.more y) := fun nm inA inc in_ ouA ouc ou loA loc lo eqA eqc eq auA auc au asA asc as_ enA enc en_ h1 h2 U hU => plain_f nm inA inc in_ ouA ouc ou loA loc lo eqA eqc eq auA auc au asA asc as_ enA enc en_ h1 h2 U hU
  have HND := Lib.hid hnd
  have hle := hnd.len
  simp only [] at hle
  obtain ⟨R, hR⟩ : ∃ R, ixV (hasAutos) nl 0 = R := ⟨_, rfl⟩
  have HV := Lib.hid hR
  rw [hR]
  clear hR hnd
  go_enter Try.func52, Try.ntmps52
  go_wp2_with fail
  go_loopw [8] (fun i wr => ∃ j : Nat, j ≤ nl.length ∧ i = .int .i64 (j : Nat) ∧ Hid ((nl.take j).any (hasAutos) = false) ∧ After w wr) (fun i _ => nl.length - (intOf i).toNat)
  case atStart => exact ⟨0, by omega, rfl, Lib.hid (by simp), inferInstance⟩
  case round =>
    obtain ⟨j, hj, rfl, HJ, ar⟩ := hrel
    have a0r : After w0 wr := after_after hw ar
    by_cases hlt : j < nl.length
    · have hltI : (j : Int) < (nl.length : Int) := by omega
      obtain ⟨b, p, yj, rfl, hle1, HY, hP⟩ := (HND.out.nds wr (k := a0r)).part (i := j) hlt
      obtain ⟨nm, ⟨inA, inc, in_⟩, ⟨ouA, ouc, ou⟩, ⟨loA, loc, lo⟩, ⟨eqA, eqc, eq⟩, ⟨auA, auc, au⟩, ⟨asA, asc, as_⟩, ⟨enA, enc, en_⟩⟩ := yj
      obtain ⟨z0, z1, z2, z3, z4, z5, z6, z7⟩ : wr.cell? ⟨b, p + j * 8, none⟩ = some (.string nm) ∧ wr.cell? ⟨b, p + j * 8 + 1, none⟩ = some (.slice inA in_.length inc) ∧ wr.cell? ⟨b, p + j * 8 + 2, none⟩ = some (.slice ouA ou.length ouc) ∧ wr.cell? ⟨b, p + j * 8 + 3, none⟩ = some (.slice loA lo.length loc) ∧ wr.cell? ⟨b, p + j * 8 + 4, none⟩ = some (.slice eqA eq.length eqc) ∧ wr.cell? ⟨b, p + j * 8 + 5, none⟩ = some (.slice auA au.length auc) ∧ wr.cell? ⟨b, p + j * 8 + 6, none⟩ = some (.slice asA as_.length asc) ∧ wr.cell? ⟨b, p + j * 8 + 7, none⟩ = some (.slice enA en_.length enc) := ⟨hP.c0, hP.c1, hP.c2, hP.c3, hP.c4, hP.c5, hP.c6, hP.c7⟩
      have HC := Lib.hid (HF.out nm inA inc in_ ouA ouc ou loA loc lo eqA eqc eq auA auc au asA asc as_ enA enc en_ hP.nm hP.r5.len wr a0r)
      obtain ⟨q, hq⟩ : ∃ q, hasAutos ⟨nm, ⟨inA, inc, in_⟩, ⟨ouA, ouc, ou⟩, ⟨loA, loc, lo⟩, ⟨eqA, eqc, eq⟩, ⟨auA, auc, au⟩, ⟨asA, asc, as_⟩, ⟨enA, enc, en_⟩⟩ = q := ⟨_, rfl⟩
      rw [hq] at HC
      have HQ := Lib.hid hq
      clear hP hq
      cases q with
      | true =>
        have HE : Hid (R = (j : Int)) := Lib.hid (by rw [← HV.out]; exact (ixV_at _ 0 HY.out HJ.out HQ.out).trans (by omega))
        go_wp2_with fail
        refine HC.out.mono ?_
        rintro e w' ⟨rfl, y, rfl⟩
        go_wp2_with fail
        go_ret
        exact ⟨by rw [HE.out]; rfl, have := ar; After.is_more _ _⟩
      | false =>
        go_wp2_with fail
        refine HC.out.mono ?_
        rintro e w' ⟨rfl, y, rfl⟩
        go_wp2_with fail
        go_roundw
        case rel => exact ⟨j + 1, by omega, by go_num, Lib.hid (any_take _ HY.out HJ.out HQ.out), have := ar; inferInstance⟩
        case measure => simp only [intOf]; omega
    · have HE : Hid (R = -1) := Lib.hid (by rw [← HV.out]; exact ixV_none _ nl 0 (any_all _ hlt HJ.out))
      go_wp2_with fail
      go_ret
      exact ⟨by rw [HE.out]; rfl, have := ar; After.is_more _ _⟩
set_option maxRecDepth 100000 in
set_option maxHeartbeats 1600000 in
theorem sfind_any {w0 : World} {eA nA : Option Addr} {en ec nc : Nat} {nl : List NdD} (hnd : RowOf 8 (PNd S) w0 ⟨nA, nc, nl⟩) (s : ByteArray) (w : World) (hw : After w0 w) :
    Calls Try.prog 21 #[.agg #[.slice eA en ec, .slice nA nl.length nc], .string s] w fun e w' => e = .returned (.tuple #[.int .i64 (max (ixV (isNamed s) nl 0) 0), .bool (decide (0 ≤ ixV (isNamed s) nl 0))]) ∧ ∃ y, w' = w.more y := by
  have HC : Hid (∀ U gs, After w0 U → U.cell? ⟨gs, 0, none⟩ = some (.string s) → Le (gs + 1) U → Calls Try.prog 52 #[.slice nA nl.length nc, .func (.func 53) #[] #[.pointer (some ⟨gs, 0, none⟩)]] U fun e w' => e = .returned (.int .i64 (ixV (isNamed s) nl 0)) ∧ ∃ y, w' = U.more y) := fun U gs hU hc hl => ixf_find hc hl (hnd.nds U (k := hU)) U (after_refl U)
  have hb := ixV_bounds (isNamed s) nl 0
  have hle := hnd.len
  simp only [] at hle
  obtain ⟨R, hR⟩ : ∃ R, ixV (isNamed s) nl 0 = R := ⟨_, rfl⟩
  rw [hR] at HC hb ⊢
  have hb1 : R = -1 ∨ 0 ≤ R := by omega
  clear hR hnd hb
  have hmf : ∀ (fn : Fn) (first cap : Array Value) (w : World), (Instr.makeFunc fn first cap).run Try.prog w = .ok (.func fn first cap) w := fun _ _ _ _ => rfl
  go_enter Try.func21, Try.ntmps21
  go_wp2_with fail
  refine (HC.out _ _ inferInstance (by simp [go_sem]) inferInstance).mono ?_
  rintro e w' ⟨rfl, y, rfl⟩
  rcases hb1 with rfl | h0
  · go_wp2_with fail
    go_ret2
    exact ⟨rfl, After.is_more _ _⟩
  · have hm : max R 0 = R := by omega
    go_wp2_with fail
    go_ret2
    exact ⟨by simp [hm, h0], After.is_more _ _⟩
set_option maxRecDepth 100000 in
set_option maxHeartbeats 1600000 in
theorem ctf_plain {w0 : World} {nA : Option Addr} {nc : Nat} {nl : List NdD} (hnd : RowOf 8 (PNd S) w0 ⟨nA, nc, nl⟩) (w : World) (hw : After w0 w) :
    Calls Try.prog 54 #[.slice nA nl.length nc, .func (.func 55) #[] #[]] w fun e w' => e = .returned (.bool (nl.any hasAutos)) ∧ ∃ y, w' = w.more y := by
  have HC := Lib.hid (ixf_plain hnd w hw)
  have hb := ixV_bounds hasAutos nl 0
  obtain ⟨R, hR⟩ : ∃ R, ixV hasAutos nl 0 = R := ⟨_, rfl⟩
  rw [hR] at HC hb
  obtain ⟨q, hq⟩ : ∃ q, nl.any hasAutos = q := ⟨_, rfl⟩
  rw [hq] at hb ⊢
  clear hR hq hnd
  cases q with
  | false =>
    obtain rfl : R = -1 := by rcases hb with h | h; exact h.1; exact absurd h.2.2 (by decide)
    clear hb
    go_enter Try.func54, Try.ntmps54
    go_wp2_with fail
    refine HC.out.mono ?_
    rintro e w' ⟨rfl, y, rfl⟩
    go_wp2_with fail
    go_ret
    exact ⟨rfl, After.is_more _ _⟩
  | true =>
    have h0 : 0 ≤ R := by rcases hb with h | h; exact absurd h.2 (by decide); omega
    clear hb
    go_enter Try.func54, Try.ntmps54
    go_wp2_with fail
    refine HC.out.mono ?_
    rintro e w' ⟨rfl, y, rfl⟩
    go_wp2_with fail
    go_ret
    exact ⟨by simp [h0], After.is_more _ _⟩
set_option maxRecDepth 100000 in
theorem splain_any {w0 : World} {eA nA : Option Addr} {en ec nc : Nat} {nl : List NdD} (hnd : RowOf 8 (PNd S) w0 ⟨nA, nc, nl⟩) (w : World) (hw : After w0 w) :
    Calls Try.prog 22 #[.agg #[.slice eA en ec, .slice nA nl.length nc]] w fun e w' => e = .returned (.bool (!nl.any hasAutos)) ∧ ∃ y, w' = w.more y := by
  have HC : Hid (∀ U, After w0 U → Calls Try.prog 54 #[.slice nA nl.length nc, .func (.func 55) #[] #[]] U fun e w' => e = .returned (.bool (nl.any hasAutos)) ∧ ∃ y, w' = U.more y) := fun U hU => ctf_plain hnd U hU
  obtain ⟨q, hq⟩ : ∃ q, nl.any hasAutos = q := ⟨_, rfl⟩
  rw [hq] at HC ⊢
  clear hq hnd
  go_enter Try.func22, Try.ntmps22
  go_wp2_with fail
  refine (HC.out _ inferInstance).mono ?_
  rintro e w' ⟨rfl, y, rfl⟩
  go_wp2_with fail
  go_ret
  exact ⟨rfl, After.is_more _ _⟩
end Go.Proofs.Ytdghfhnkacfahaa
