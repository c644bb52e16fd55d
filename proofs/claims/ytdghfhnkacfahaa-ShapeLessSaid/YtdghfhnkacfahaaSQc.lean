/-
  Contracts: shape's sameDecl, sameEq, sameTrans, sameState, sameAuto, sameNode, sameEnum, Same (printed by gen_seqf.py).
-/
import Derived.Test.YtdghfhnkacfahaaSQb
set_option linter.unusedVariables false
set_option linter.unusedSimpArgs false
namespace Go.Proofs.Ytdghfhnkacfahaa
open Go.RowKit Go.BigFrame

variable {S : Prop}
set_option maxRecDepth 100000 in
set_option maxHeartbeats 3200000 in
theorem sameEnum_any {w0 : World} {nm nm' : ByteArray} {tA : Option Addr} {tc : Nat} {tl : List ByteArray} {tA' : Option Addr} {tc' : Nat} {tl' : List ByteArray} (hx : RowOf 1 PStr w0 ⟨tA, tc, tl⟩) (hy : RowOf 1 PStr w0 ⟨tA', tc', tl'⟩) (w : World) (aft : After w0 w) :
    Calls Try.prog 24 #[.agg #[.string nm, .slice tA tl.length tc], .agg #[.string nm', .slice tA' tl'.length tc']] w fun e w' => e = .returned (.bool (enSame ⟨nm, ⟨tA, tc, tl⟩⟩ ⟨nm', ⟨tA', tc', tl'⟩⟩)) ∧ After w w' := by
  have HE1 : Hid (∀ U : World, After w0 U → Calls Try.prog 56 #[.slice tA tl.length tc, .slice tA' tl'.length tc'] U fun e w' => e = .returned (.bool (lsame strSame tl tl')) ∧ After U w') := Lib.hid fun U hU => eqstr_any hx hy U hU
  obtain ⟨q0, hq0⟩ : ∃ q, (nm.toList == nm'.toList) = q := ⟨_, rfl⟩
  obtain ⟨q1, hq1⟩ : ∃ q, (lsame strSame tl tl') = q := ⟨_, rfl⟩
  have HV : Hid (enSame ⟨nm, ⟨tA, tc, tl⟩⟩ ⟨nm', ⟨tA', tc', tl'⟩⟩ = (q0 && (q1))) := by
    show _ = _
    rw [← hq0, ← hq1]
    rfl
  rw [hq1] at HE1
  clear hq1 hx hy
  obtain ⟨g, hg⟩ : ∃ g, w.heap.size = g := ⟨_, rfl⟩
  obtain ⟨W2, hW2, a2, HK⟩ : ∃ W, (w.alloc (.cells #[.string nm, .slice tA tl.length tc] 59)).alloc (.cells #[.string nm', .slice tA' tl'.length tc'] 59) = W ∧ After w W ∧ Hid (∀ U : World, After W U → U.cell? ⟨g, 0, none⟩ = some (.string nm) ∧ U.cell? ⟨g, 1, none⟩ = some (.slice tA tl.length tc) ∧ U.cell? ⟨g + 1, 0, none⟩ = some (.string nm') ∧ U.cell? ⟨g + 1, 1, none⟩ = some (.slice tA' tl'.length tc') ∧ Le (g + 1) U ∧ Le (g + 1 + 1) U) := by
    refine ⟨_, rfl, inferInstance, fun U hU => ?_⟩
    have f1 := ((Blk.new w 59 #[.string nm, .slice tA tl.length tc]).alloc (.cells #[.string nm', .slice tA' tl'.length tc'] 59)).after (w' := U)
    have f2 := (Blk.at_' (w := w.alloc (.cells #[.string nm, .slice tA tl.length tc] 59)) (size_alloc_ _ _) 59 #[.string nm', .slice tA' tl'.length tc']).after (w' := U)
    rw [hg] at f1 f2
    exact ⟨(f1.cell 0).trans rfl, (f1.cell 1).trans rfl, (f2.cell 0).trans rfl, (f2.cell 1).trans rfl, f1.is_le, f2.is_le⟩
  cases q0 with
  | false =>
    clear HK a2 hW2 hg
    go_enter Try.func24, Try.ntmps24
    go_wp2_with fail
    go_ret
    exact ⟨ret_bool (by rw [HV.out] <;> simp), inferInstance⟩
  | true =>
    obtain ⟨k0, k1, m0, m1, kl, ml⟩ := HK.out W2 (after_refl _)
    go_enter Try.func24, Try.ntmps24
    go_wp2_with fail
    try rw [hW2]
    try rw [hg]
    clear hW2 hg
    refine (HE1.out W2 (after_after aft a2)).mono ?_
    rintro e w4 ⟨rfl, c1_⟩
    have d1 : After w w4 := after_after a2 c1_
    have b1 : After W2 w4 := after_after (after_refl W2) c1_
    go_wp2_with fail
    go_ret
    exact ⟨ret_bool (by rw [HV.out] <;> simp), d1⟩
set_option maxRecDepth 100000 in
set_option maxHeartbeats 3200000 in
theorem sameDecl_any {w0 : World} {nm nm' : ByteArray} {ty ty' : Int} {cA : Option Addr} {cc : Nat} {cl : List OnD} {cA' : Option Addr} {cc' : Nat} {cl' : List OnD} (hx : RowOf 3 POn w0 ⟨cA, cc, cl⟩) (hy : RowOf 3 POn w0 ⟨cA', cc', cl'⟩) (w : World) (aft : After w0 w) :
    Calls Try.prog 58 #[.agg #[.string nm, .int .i64 ty, .slice cA cl.length cc], .agg #[.string nm', .int .i64 ty', .slice cA' cl'.length cc']] w fun e w' => e = .returned (.bool (declSame ⟨nm, ty, ⟨cA, cc, cl⟩⟩ ⟨nm', ty', ⟨cA', cc', cl'⟩⟩)) ∧ After w w' := by
  have HE2 : Hid (∀ U : World, After w0 U → Calls Try.prog 85 #[.slice cA cl.length cc, .slice cA' cl'.length cc'] U fun e w' => e = .returned (.bool (lsame onSame cl cl')) ∧ After U w') := Lib.hid fun U hU => eqon_any hx hy U hU
  obtain ⟨q0, hq0⟩ : ∃ q, (nm.toList == nm'.toList) = q := ⟨_, rfl⟩
  obtain ⟨q1, hq1⟩ : ∃ q, (ty == ty') = q := ⟨_, rfl⟩
  obtain ⟨q2, hq2⟩ : ∃ q, (lsame onSame cl cl') = q := ⟨_, rfl⟩
  have HV : Hid (declSame ⟨nm, ty, ⟨cA, cc, cl⟩⟩ ⟨nm', ty', ⟨cA', cc', cl'⟩⟩ = (q0 && (q1 && (q2)))) := by
    show _ = _
    rw [← hq0, ← hq1, ← hq2]
    rfl
  rw [hq2] at HE2
  clear hq2 hx hy
  obtain ⟨g, hg⟩ : ∃ g, w.heap.size = g := ⟨_, rfl⟩
  obtain ⟨W2, hW2, a2, HK⟩ : ∃ W, (w.alloc (.cells #[.string nm, .int .i64 ty, .slice cA cl.length cc] 83)).alloc (.cells #[.string nm', .int .i64 ty', .slice cA' cl'.length cc'] 83) = W ∧ After w W ∧ Hid (∀ U : World, After W U → U.cell? ⟨g, 0, none⟩ = some (.string nm) ∧ U.cell? ⟨g, 1, none⟩ = some (.int .i64 ty) ∧ U.cell? ⟨g, 2, none⟩ = some (.slice cA cl.length cc) ∧ U.cell? ⟨g + 1, 0, none⟩ = some (.string nm') ∧ U.cell? ⟨g + 1, 1, none⟩ = some (.int .i64 ty') ∧ U.cell? ⟨g + 1, 2, none⟩ = some (.slice cA' cl'.length cc') ∧ Le (g + 1) U ∧ Le (g + 1 + 1) U) := by
    refine ⟨_, rfl, inferInstance, fun U hU => ?_⟩
    have f1 := ((Blk.new w 83 #[.string nm, .int .i64 ty, .slice cA cl.length cc]).alloc (.cells #[.string nm', .int .i64 ty', .slice cA' cl'.length cc'] 83)).after (w' := U)
    have f2 := (Blk.at_' (w := w.alloc (.cells #[.string nm, .int .i64 ty, .slice cA cl.length cc] 83)) (size_alloc_ _ _) 83 #[.string nm', .int .i64 ty', .slice cA' cl'.length cc']).after (w' := U)
    rw [hg] at f1 f2
    exact ⟨(f1.cell 0).trans rfl, (f1.cell 1).trans rfl, (f1.cell 2).trans rfl, (f2.cell 0).trans rfl, (f2.cell 1).trans rfl, (f2.cell 2).trans rfl, f1.is_le, f2.is_le⟩
  cases q0 with
  | false =>
    clear HK a2 hW2 hg
    go_enter Try.func58, Try.ntmps58
    go_wp2_with fail
    go_ret
    exact ⟨ret_bool (by rw [HV.out] <;> simp), inferInstance⟩
  | true =>
    cases q1 with
    | false =>
      clear HK a2 hW2 hg
      go_enter Try.func58, Try.ntmps58
      go_wp2_with fail
      go_ret
      exact ⟨ret_bool (by rw [HV.out] <;> simp), inferInstance⟩
    | true =>
      obtain ⟨k0, k1, k2, m0, m1, m2, kl, ml⟩ := HK.out W2 (after_refl _)
      go_enter Try.func58, Try.ntmps58
      go_wp2_with fail
      try rw [hW2]
      try rw [hg]
      clear hW2 hg
      refine (HE2.out W2 (after_after aft a2)).mono ?_
      rintro e w5 ⟨rfl, c2_⟩
      have d2 : After w w5 := after_after a2 c2_
      have b2 : After W2 w5 := after_after (after_refl W2) c2_
      go_wp2_with fail
      go_ret
      exact ⟨ret_bool (by rw [HV.out] <;> simp), d2⟩
set_option maxRecDepth 100000 in
set_option maxHeartbeats 3200000 in
theorem sameEq_any {w0 : World} {lA : Option Addr} {lc : Nat} {ll : List ByteArray} {lA' : Option Addr} {lc' : Nat} {ll' : List ByteArray} {k o t v : Int} {s : ByteArray} {A : Option Addr} {c : Nat} {xs : List Tx} {k' o' t' v' : Int} {s' : ByteArray} {A' : Option Addr} {c' : Nat} {xs' : List Tx} (hx : RowOf 1 PStr w0 ⟨lA, lc, ll⟩) (hy : RowOf 1 PStr w0 ⟨lA', lc', ll'⟩) (hX : RX w0 (.mk k o t v s A c xs)) (hX' : RX w0 (.mk k' o' t' v' s' A' c' xs')) (w : World) (aft : After w0 w) :
    Calls Try.prog 60 #[.agg #[.slice lA ll.length lc, .int .i64 k, .int .i64 o, .int .i64 t, .int .i64 v, .string s, .slice A xs.length c], .agg #[.slice lA' ll'.length lc', .int .i64 k', .int .i64 o', .int .i64 t', .int .i64 v', .string s', .slice A' xs'.length c']] w fun e w' => e = .returned (.bool (eqSame ⟨⟨lA, lc, ll⟩, ⟨k, o, t, v, s, A, c, xs⟩⟩ ⟨⟨lA', lc', ll'⟩, ⟨k', o', t', v', s', A', c', xs'⟩⟩)) ∧ After w w' := by
  have HE0 : Hid (∀ U : World, After w0 U → Calls Try.prog 56 #[.slice lA ll.length lc, .slice lA' ll'.length lc'] U fun e w' => e = .returned (.bool (lsame strSame ll ll')) ∧ After U w') := Lib.hid fun U hU => eqstr_any hx hy U hU
  have HE1 : Hid (∀ U : World, After w0 U → Calls Try.prog 64 #[.agg #[.int .i64 k, .int .i64 o, .int .i64 t, .int .i64 v, .string s, .slice A xs.length c], .agg #[.int .i64 k', .int .i64 o', .int .i64 t', .int .i64 v', .string s', .slice A' xs'.length c']] U fun e w' => e = .returned (.bool ((Tx.mk k o t v s A c xs).same (.mk k' o' t' v' s' A' c' xs'))) ∧ After U w') := Lib.hid fun U hU => same_any hX hX' U hU
  obtain ⟨q0, hq0⟩ : ∃ q, (lsame strSame ll ll') = q := ⟨_, rfl⟩
  obtain ⟨q1, hq1⟩ : ∃ q, ((Tx.mk k o t v s A c xs).same (.mk k' o' t' v' s' A' c' xs')) = q := ⟨_, rfl⟩
  have HV : Hid (eqSame ⟨⟨lA, lc, ll⟩, ⟨k, o, t, v, s, A, c, xs⟩⟩ ⟨⟨lA', lc', ll'⟩, ⟨k', o', t', v', s', A', c', xs'⟩⟩ = (q0 && (q1))) := by
    show _ = _
    rw [← hq0, ← hq1]
    rfl
  rw [hq0] at HE0
  rw [hq1] at HE1
  clear hq0 hq1 hx hy hX hX'
  obtain ⟨g, hg⟩ : ∃ g, w.heap.size = g := ⟨_, rfl⟩
  obtain ⟨W2, hW2, a2, HK⟩ : ∃ W, (w.alloc (.cells #[.slice lA ll.length lc, .int .i64 k, .int .i64 o, .int .i64 t, .int .i64 v, .string s, .slice A xs.length c] 48)).alloc (.cells #[.slice lA' ll'.length lc', .int .i64 k', .int .i64 o', .int .i64 t', .int .i64 v', .string s', .slice A' xs'.length c'] 48) = W ∧ After w W ∧ Hid (∀ U : World, After W U → U.cell? ⟨g, 0, none⟩ = some (.slice lA ll.length lc) ∧ U.cell? ⟨g, 1, none⟩ = some (.int .i64 k) ∧ U.cell? ⟨g, 2, none⟩ = some (.int .i64 o) ∧ U.cell? ⟨g, 3, none⟩ = some (.int .i64 t) ∧ U.cell? ⟨g, 4, none⟩ = some (.int .i64 v) ∧ U.cell? ⟨g, 5, none⟩ = some (.string s) ∧ U.cell? ⟨g, 6, none⟩ = some (.slice A xs.length c) ∧ U.cell? ⟨g + 1, 0, none⟩ = some (.slice lA' ll'.length lc') ∧ U.cell? ⟨g + 1, 1, none⟩ = some (.int .i64 k') ∧ U.cell? ⟨g + 1, 2, none⟩ = some (.int .i64 o') ∧ U.cell? ⟨g + 1, 3, none⟩ = some (.int .i64 t') ∧ U.cell? ⟨g + 1, 4, none⟩ = some (.int .i64 v') ∧ U.cell? ⟨g + 1, 5, none⟩ = some (.string s') ∧ U.cell? ⟨g + 1, 6, none⟩ = some (.slice A' xs'.length c') ∧ Le (g + 1) U ∧ Le (g + 1 + 1) U) := by
    refine ⟨_, rfl, inferInstance, fun U hU => ?_⟩
    have f1 := ((Blk.new w 48 #[.slice lA ll.length lc, .int .i64 k, .int .i64 o, .int .i64 t, .int .i64 v, .string s, .slice A xs.length c]).alloc (.cells #[.slice lA' ll'.length lc', .int .i64 k', .int .i64 o', .int .i64 t', .int .i64 v', .string s', .slice A' xs'.length c'] 48)).after (w' := U)
    have f2 := (Blk.at_' (w := w.alloc (.cells #[.slice lA ll.length lc, .int .i64 k, .int .i64 o, .int .i64 t, .int .i64 v, .string s, .slice A xs.length c] 48)) (size_alloc_ _ _) 48 #[.slice lA' ll'.length lc', .int .i64 k', .int .i64 o', .int .i64 t', .int .i64 v', .string s', .slice A' xs'.length c']).after (w' := U)
    rw [hg] at f1 f2
    exact ⟨(f1.cell 0).trans rfl, (f1.cell 1).trans rfl, (f1.cell 2).trans rfl, (f1.cell 3).trans rfl, (f1.cell 4).trans rfl, (f1.cell 5).trans rfl, (f1.cell 6).trans rfl, (f2.cell 0).trans rfl, (f2.cell 1).trans rfl, (f2.cell 2).trans rfl, (f2.cell 3).trans rfl, (f2.cell 4).trans rfl, (f2.cell 5).trans rfl, (f2.cell 6).trans rfl, f1.is_le, f2.is_le⟩
  obtain ⟨k0, k1, k2, k3, k4, k5, k6, m0, m1, m2, m3, m4, m5, m6, kl, ml⟩ := HK.out W2 (after_refl _)
  go_enter Try.func60, Try.ntmps60
  go_wp2_with fail
  try rw [hW2]
  try rw [hg]
  clear hW2 hg
  refine (HE0.out W2 (after_after aft a2)).mono ?_
  rintro e w3 ⟨rfl, c0_⟩
  have d0 : After w w3 := after_after a2 c0_
  have b0 : After W2 w3 := after_after (after_refl W2) c0_
  clear k0 k1 k2 k3 k4 k5 k6 m0 m1 m2 m3 m4 m5 m6 kl ml
  obtain ⟨k0, k1, k2, k3, k4, k5, k6, m0, m1, m2, m3, m4, m5, m6, kl, ml⟩ := HK.out w3 b0
  cases q0 with
  | false =>
    go_wp2_with fail
    go_ret
    exact ⟨ret_bool (by rw [HV.out] <;> simp), d0⟩
  | true =>
    go_wp2_with fail
    refine (HE1.out w3 (after_after aft d0)).mono ?_
    rintro e w4 ⟨rfl, c1_⟩
    have d1 : After w w4 := after_after d0 c1_
    have b1 : After W2 w4 := after_after b0 c1_
    go_wp2_with fail
    go_ret
    exact ⟨ret_bool (by rw [HV.out] <;> simp), d1⟩
set_option maxRecDepth 100000 in
set_option maxHeartbeats 3200000 in
theorem sameTrans_any {w0 : World} {ds ds' : Int} {re re' : Bool} {k o t v : Int} {s : ByteArray} {A : Option Addr} {c : Nat} {xs : List Tx} {k' o' t' v' : Int} {s' : ByteArray} {A' : Option Addr} {c' : Nat} {xs' : List Tx} (hX : RX w0 (.mk k o t v s A c xs)) (hX' : RX w0 (.mk k' o' t' v' s' A' c' xs')) (w : World) (aft : After w0 w) :
    Calls Try.prog 104 #[.agg #[.int .i64 k, .int .i64 o, .int .i64 t, .int .i64 v, .string s, .slice A xs.length c, .int .i64 ds, .bool re], .agg #[.int .i64 k', .int .i64 o', .int .i64 t', .int .i64 v', .string s', .slice A' xs'.length c', .int .i64 ds', .bool re']] w fun e w' => e = .returned (.bool (trSame ⟨⟨k, o, t, v, s, A, c, xs⟩, ds, re⟩ ⟨⟨k', o', t', v', s', A', c', xs'⟩, ds', re'⟩)) ∧ After w w' := by
  have HE2 : Hid (∀ U : World, After w0 U → Calls Try.prog 64 #[.agg #[.int .i64 k, .int .i64 o, .int .i64 t, .int .i64 v, .string s, .slice A xs.length c], .agg #[.int .i64 k', .int .i64 o', .int .i64 t', .int .i64 v', .string s', .slice A' xs'.length c']] U fun e w' => e = .returned (.bool ((Tx.mk k o t v s A c xs).same (.mk k' o' t' v' s' A' c' xs'))) ∧ After U w') := Lib.hid fun U hU => same_any hX hX' U hU
  obtain ⟨q0, hq0⟩ : ∃ q, (ds == ds') = q := ⟨_, rfl⟩
  obtain ⟨q1, hq1⟩ : ∃ q, (re == re') = q := ⟨_, rfl⟩
  obtain ⟨q2, hq2⟩ : ∃ q, ((Tx.mk k o t v s A c xs).same (.mk k' o' t' v' s' A' c' xs')) = q := ⟨_, rfl⟩
  have HV : Hid (trSame ⟨⟨k, o, t, v, s, A, c, xs⟩, ds, re⟩ ⟨⟨k', o', t', v', s', A', c', xs'⟩, ds', re'⟩ = (q0 && (q1 && (q2)))) := by
    show _ = _
    rw [← hq0, ← hq1, ← hq2]
    rfl
  rw [hq2] at HE2
  clear hq2 hX hX'
  obtain ⟨g, hg⟩ : ∃ g, w.heap.size = g := ⟨_, rfl⟩
  obtain ⟨W2, hW2, a2, HK⟩ : ∃ W, (w.alloc (.cells #[.int .i64 k, .int .i64 o, .int .i64 t, .int .i64 v, .string s, .slice A xs.length c, .int .i64 ds, .bool re] 88)).alloc (.cells #[.int .i64 k', .int .i64 o', .int .i64 t', .int .i64 v', .string s', .slice A' xs'.length c', .int .i64 ds', .bool re'] 88) = W ∧ After w W ∧ Hid (∀ U : World, After W U → U.cell? ⟨g, 0, none⟩ = some (.int .i64 k) ∧ U.cell? ⟨g, 1, none⟩ = some (.int .i64 o) ∧ U.cell? ⟨g, 2, none⟩ = some (.int .i64 t) ∧ U.cell? ⟨g, 3, none⟩ = some (.int .i64 v) ∧ U.cell? ⟨g, 4, none⟩ = some (.string s) ∧ U.cell? ⟨g, 5, none⟩ = some (.slice A xs.length c) ∧ U.cell? ⟨g, 6, none⟩ = some (.int .i64 ds) ∧ U.cell? ⟨g, 7, none⟩ = some (.bool re) ∧ U.cell? ⟨g + 1, 0, none⟩ = some (.int .i64 k') ∧ U.cell? ⟨g + 1, 1, none⟩ = some (.int .i64 o') ∧ U.cell? ⟨g + 1, 2, none⟩ = some (.int .i64 t') ∧ U.cell? ⟨g + 1, 3, none⟩ = some (.int .i64 v') ∧ U.cell? ⟨g + 1, 4, none⟩ = some (.string s') ∧ U.cell? ⟨g + 1, 5, none⟩ = some (.slice A' xs'.length c') ∧ U.cell? ⟨g + 1, 6, none⟩ = some (.int .i64 ds') ∧ U.cell? ⟨g + 1, 7, none⟩ = some (.bool re') ∧ Le (g + 1) U ∧ Le (g + 1 + 1) U) := by
    refine ⟨_, rfl, inferInstance, fun U hU => ?_⟩
    have f1 := ((Blk.new w 88 #[.int .i64 k, .int .i64 o, .int .i64 t, .int .i64 v, .string s, .slice A xs.length c, .int .i64 ds, .bool re]).alloc (.cells #[.int .i64 k', .int .i64 o', .int .i64 t', .int .i64 v', .string s', .slice A' xs'.length c', .int .i64 ds', .bool re'] 88)).after (w' := U)
    have f2 := (Blk.at_' (w := w.alloc (.cells #[.int .i64 k, .int .i64 o, .int .i64 t, .int .i64 v, .string s, .slice A xs.length c, .int .i64 ds, .bool re] 88)) (size_alloc_ _ _) 88 #[.int .i64 k', .int .i64 o', .int .i64 t', .int .i64 v', .string s', .slice A' xs'.length c', .int .i64 ds', .bool re']).after (w' := U)
    rw [hg] at f1 f2
    exact ⟨(f1.cell 0).trans rfl, (f1.cell 1).trans rfl, (f1.cell 2).trans rfl, (f1.cell 3).trans rfl, (f1.cell 4).trans rfl, (f1.cell 5).trans rfl, (f1.cell 6).trans rfl, (f1.cell 7).trans rfl, (f2.cell 0).trans rfl, (f2.cell 1).trans rfl, (f2.cell 2).trans rfl, (f2.cell 3).trans rfl, (f2.cell 4).trans rfl, (f2.cell 5).trans rfl, (f2.cell 6).trans rfl, (f2.cell 7).trans rfl, f1.is_le, f2.is_le⟩
  cases q0 with
  | false =>
    clear HK a2 hW2 hg
    go_enter Try.func104, Try.ntmps104
    go_wp2_with fail
    go_ret
    exact ⟨ret_bool (by rw [HV.out] <;> simp), inferInstance⟩
  | true =>
    cases q1 with
    | false =>
      clear HK a2 hW2 hg
      go_enter Try.func104, Try.ntmps104
      go_wp2_with fail
      go_ret
      exact ⟨ret_bool (by rw [HV.out] <;> simp), inferInstance⟩
    | true =>
      obtain ⟨k0, k1, k2, k3, k4, k5, k6, k7, m0, m1, m2, m3, m4, m5, m6, m7, kl, ml⟩ := HK.out W2 (after_refl _)
      go_enter Try.func104, Try.ntmps104
      go_wp2_with fail
      try rw [hW2]
      try rw [hg]
      clear hW2 hg
      refine (HE2.out W2 (after_after aft a2)).mono ?_
      rintro e w5 ⟨rfl, c2_⟩
      have d2 : After w w5 := after_after a2 c2_
      have b2 : After W2 w5 := after_after (after_refl W2) c2_
      go_wp2_with fail
      go_ret
      exact ⟨ret_bool (by rw [HV.out] <;> simp), d2⟩
theorem eqe_enum {w0 : World} {A1 B1 : Option Addr} {c1 d1 : Nat} {xl yl : List EnD} (x : RowOf 2 PEn w0 ⟨A1, c1, xl⟩) (y : RowOf 2 PEn w0 ⟨B1, d1, yl⟩) (w : World) (aft : After w0 w) :
    Calls Try.prog 23 #[.slice A1 xl.length c1, .slice B1 yl.length d1, .func (.func 24) #[] #[]] w fun e w' => e = .returned (.bool (lsame enSame xl yl)) ∧ After w w' :=
  eqf_en x y w aft fun i a b h1 h2 U hU => by
    obtain ⟨_, _, h3⟩ := x.elem h1
    obtain ⟨_, _, h4⟩ := y.elem h2
    obtain ⟨nm, ⟨tA, tc, tl⟩⟩ := a
    obtain ⟨nm', ⟨tA', tc', tl'⟩⟩ := b
    exact sameEnum_any h3.tg h4.tg U hU
theorem eqe_decl {w0 : World} {A1 B1 : Option Addr} {c1 d1 : Nat} {xl yl : List DeclD} (x : RowOf 3 PDecl w0 ⟨A1, c1, xl⟩) (y : RowOf 3 PDecl w0 ⟨B1, d1, yl⟩) (w : World) (aft : After w0 w) :
    Calls Try.prog 57 #[.slice A1 xl.length c1, .slice B1 yl.length d1, .func (.func 58) #[] #[]] w fun e w' => e = .returned (.bool (lsame declSame xl yl)) ∧ After w w' :=
  eqf_decl x y w aft fun i a b h1 h2 U hU => by
    obtain ⟨_, _, h3⟩ := x.elem h1
    obtain ⟨_, _, h4⟩ := y.elem h2
    obtain ⟨nm, ty, ⟨cA, cc, cl⟩⟩ := a
    obtain ⟨nm', ty', ⟨cA', cc', cl'⟩⟩ := b
    exact sameDecl_any h3.cl h4.cl U hU
theorem eqe_eq {w0 : World} {A1 B1 : Option Addr} {c1 d1 : Nat} {xl yl : List EqD} (x : RowOf 7 (PEq S) w0 ⟨A1, c1, xl⟩) (y : RowOf 7 (PEq S) w0 ⟨B1, d1, yl⟩) (w : World) (aft : After w0 w) :
    Calls Try.prog 59 #[.slice A1 xl.length c1, .slice B1 yl.length d1, .func (.func 60) #[] #[]] w fun e w' => e = .returned (.bool (lsame eqSame xl yl)) ∧ After w w' :=
  eqf_eq x y w aft fun i a b h1 h2 U hU => by
    obtain ⟨_, _, h3⟩ := x.elem h1
    obtain ⟨_, _, h4⟩ := y.elem h2
    obtain ⟨⟨lA, lc, ll⟩, ⟨k, o, t, v, s, A, c, xs⟩⟩ := a
    obtain ⟨⟨lA', lc', ll'⟩, ⟨k', o', t', v', s', A', c', xs'⟩⟩ := b
    exact sameEq_any h3.lf h4.lf h3.ri h4.ri U hU
theorem eqe_tr {w0 : World} {A1 B1 : Option Addr} {c1 d1 : Nat} {xl yl : List TrD} (x : RowOf 8 (PTr S) w0 ⟨A1, c1, xl⟩) (y : RowOf 8 (PTr S) w0 ⟨B1, d1, yl⟩) (w : World) (aft : After w0 w) :
    Calls Try.prog 103 #[.slice A1 xl.length c1, .slice B1 yl.length d1, .func (.func 104) #[] #[]] w fun e w' => e = .returned (.bool (lsame trSame xl yl)) ∧ After w w' :=
  eqf_tr x y w aft fun i a b h1 h2 U hU => by
    obtain ⟨_, _, h3⟩ := x.elem h1
    obtain ⟨_, _, h4⟩ := y.elem h2
    obtain ⟨⟨k, o, t, v, s, A, c, xs⟩, ds, re⟩ := a
    obtain ⟨⟨k', o', t', v', s', A', c', xs'⟩, ds', re'⟩ := b
    exact sameTrans_any h3.co h4.co U hU
theorem eqe_tx {w0 : World} {A1 B1 : Option Addr} {c1 d1 : Nat} {xl yl : List Tx} (x : RowOf 6 (PTx S) w0 ⟨A1, c1, xl⟩) (y : RowOf 6 (PTx S) w0 ⟨B1, d1, yl⟩) (w : World) (aft : After w0 w) :
    Calls Try.prog 63 #[.slice A1 xl.length c1, .slice B1 yl.length d1, .func (.func 64) #[] #[]] w fun e w' => e = .returned (.bool (lsame Tx.same xl yl)) ∧ After w w' :=
  eqf_tx x y w aft fun i a b h1 h2 U hU => by
    obtain ⟨_, _, h3⟩ := x.elem h1
    obtain ⟨_, _, h4⟩ := y.elem h2
    obtain ⟨k, o, t, v, s, A, c, xs⟩ := a
    obtain ⟨k', o', t', v', s', A', c', xs'⟩ := b
    exact same_any h3.rx h4.rx U hU
set_option maxRecDepth 100000 in
set_option maxHeartbeats 3200000 in
theorem sameState_of {w0 : World} {nm nm' : ByteArray} {loA : Option Addr} {loc : Nat} {lo : List DeclD} {loA' : Option Addr} {loc' : Nat} {lo' : List DeclD} {eqA : Option Addr} {eqc : Nat} {eq : List EqD} {eqA' : Option Addr} {eqc' : Nat} {eq' : List EqD} {aA : Option Addr} {ac : Nat} {au : List AuT} {aA' : Option Addr} {ac' : Nat} {au' : List AuT} {ulA : Option Addr} {ulc : Nat} {ul : List TrD} {ulA' : Option Addr} {ulc' : Nat} {ul' : List TrD} {utA : Option Addr} {utc : Nat} {ut : List TrD} {utA' : Option Addr} {utc' : Nat} {ut' : List TrD} (h1 : RowOf 3 PDecl w0 ⟨loA, loc, lo⟩) (h1' : RowOf 3 PDecl w0 ⟨loA', loc', lo'⟩) (h2 : RowOf 7 (PEq S) w0 ⟨eqA, eqc, eq⟩) (h2' : RowOf 7 (PEq S) w0 ⟨eqA', eqc', eq'⟩) (h3 : RowOf 8 (PTr S) w0 ⟨ulA, ulc, ul⟩) (h3' : RowOf 8 (PTr S) w0 ⟨ulA', ulc', ul'⟩) (h4 : RowOf 8 (PTr S) w0 ⟨utA, utc, ut⟩) (h4' : RowOf 8 (PTr S) w0 ⟨utA', utc', ut'⟩) (hA : ∀ U : World, After w0 U → Calls Try.prog 61 #[.slice aA au.length ac, .slice aA' au'.length ac', .func (.func 62) #[] #[]] U fun e w' => e = .returned (.bool (lsame auSame au au')) ∧ After U w') (w : World) (aft : After w0 w) :
    Calls Try.prog 87 #[.agg #[.string nm, .slice loA lo.length loc, .slice eqA eq.length eqc, .slice aA au.length ac, .slice ulA ul.length ulc, .slice utA ut.length utc], .agg #[.string nm', .slice loA' lo'.length loc', .slice eqA' eq'.length eqc', .slice aA' au'.length ac', .slice ulA' ul'.length ulc', .slice utA' ut'.length utc']] w fun e w' => e = .returned (.bool (stSame ⟨nm, ⟨loA, loc, lo⟩, ⟨eqA, eqc, eq⟩, aA, ac, au, ⟨ulA, ulc, ul⟩, ⟨utA, utc, ut⟩⟩ ⟨nm', ⟨loA', loc', lo'⟩, ⟨eqA', eqc', eq'⟩, aA', ac', au', ⟨ulA', ulc', ul'⟩, ⟨utA', utc', ut'⟩⟩)) ∧ After w w' := by
  have HE1 : Hid (∀ U : World, After w0 U → Calls Try.prog 57 #[.slice loA lo.length loc, .slice loA' lo'.length loc', .func (.func 58) #[] #[]] U fun e w' => e = .returned (.bool (lsame declSame lo lo')) ∧ After U w') := Lib.hid fun U hU => eqe_decl h1 h1' U hU
  have HE2 : Hid (∀ U : World, After w0 U → Calls Try.prog 59 #[.slice eqA eq.length eqc, .slice eqA' eq'.length eqc', .func (.func 60) #[] #[]] U fun e w' => e = .returned (.bool (lsame eqSame eq eq')) ∧ After U w') := Lib.hid fun U hU => eqe_eq h2 h2' U hU
  have HE3 : Hid (∀ U : World, After w0 U → Calls Try.prog 61 #[.slice aA au.length ac, .slice aA' au'.length ac', .func (.func 62) #[] #[]] U fun e w' => e = .returned (.bool (lsame auSame au au')) ∧ After U w') := Lib.hid fun U hU => hA U hU
  have HE4 : Hid (∀ U : World, After w0 U → Calls Try.prog 103 #[.slice ulA ul.length ulc, .slice ulA' ul'.length ulc', .func (.func 104) #[] #[]] U fun e w' => e = .returned (.bool (lsame trSame ul ul')) ∧ After U w') := Lib.hid fun U hU => eqe_tr h3 h3' U hU
  have HE5 : Hid (∀ U : World, After w0 U → Calls Try.prog 103 #[.slice utA ut.length utc, .slice utA' ut'.length utc', .func (.func 104) #[] #[]] U fun e w' => e = .returned (.bool (lsame trSame ut ut')) ∧ After U w') := Lib.hid fun U hU => eqe_tr h4 h4' U hU
  obtain ⟨q0, hq0⟩ : ∃ q, (nm.toList == nm'.toList) = q := ⟨_, rfl⟩
  obtain ⟨q1, hq1⟩ : ∃ q, (lsame declSame lo lo') = q := ⟨_, rfl⟩
  obtain ⟨q2, hq2⟩ : ∃ q, (lsame eqSame eq eq') = q := ⟨_, rfl⟩
  obtain ⟨q3, hq3⟩ : ∃ q, (lsame auSame au au') = q := ⟨_, rfl⟩
  obtain ⟨q4, hq4⟩ : ∃ q, (lsame trSame ul ul') = q := ⟨_, rfl⟩
  obtain ⟨q5, hq5⟩ : ∃ q, (lsame trSame ut ut') = q := ⟨_, rfl⟩
  have HV : Hid (stSame ⟨nm, ⟨loA, loc, lo⟩, ⟨eqA, eqc, eq⟩, aA, ac, au, ⟨ulA, ulc, ul⟩, ⟨utA, utc, ut⟩⟩ ⟨nm', ⟨loA', loc', lo'⟩, ⟨eqA', eqc', eq'⟩, aA', ac', au', ⟨ulA', ulc', ul'⟩, ⟨utA', utc', ut'⟩⟩ = (q0 && (q1 && (q2 && (q3 && (q4 && (q5))))))) := by
    show _ = _
    rw [← hq0, ← hq1, ← hq2, ← hq3, ← hq4, ← hq5]
    exact stSame_is _ _ _ _ _ _ _ _ _ _ _ _ _ _ _ _
  rw [hq1] at HE1
  rw [hq2] at HE2
  rw [hq3] at HE3
  rw [hq4] at HE4
  rw [hq5] at HE5
  clear hq1 hq2 hq3 hq4 hq5 h1 h1' h2 h2' h3 h3' h4 h4' hA
  obtain ⟨g, hg⟩ : ∃ g, w.heap.size = g := ⟨_, rfl⟩
  obtain ⟨W2, hW2, a2, HK⟩ : ∃ W, (w.alloc (.cells #[.string nm, .slice loA lo.length loc, .slice eqA eq.length eqc, .slice aA au.length ac, .slice ulA ul.length ulc, .slice utA ut.length utc] 80)).alloc (.cells #[.string nm', .slice loA' lo'.length loc', .slice eqA' eq'.length eqc', .slice aA' au'.length ac', .slice ulA' ul'.length ulc', .slice utA' ut'.length utc'] 80) = W ∧ After w W ∧ Hid (∀ U : World, After W U → U.cell? ⟨g, 0, none⟩ = some (.string nm) ∧ U.cell? ⟨g, 1, none⟩ = some (.slice loA lo.length loc) ∧ U.cell? ⟨g, 2, none⟩ = some (.slice eqA eq.length eqc) ∧ U.cell? ⟨g, 3, none⟩ = some (.slice aA au.length ac) ∧ U.cell? ⟨g, 4, none⟩ = some (.slice ulA ul.length ulc) ∧ U.cell? ⟨g, 5, none⟩ = some (.slice utA ut.length utc) ∧ U.cell? ⟨g + 1, 0, none⟩ = some (.string nm') ∧ U.cell? ⟨g + 1, 1, none⟩ = some (.slice loA' lo'.length loc') ∧ U.cell? ⟨g + 1, 2, none⟩ = some (.slice eqA' eq'.length eqc') ∧ U.cell? ⟨g + 1, 3, none⟩ = some (.slice aA' au'.length ac') ∧ U.cell? ⟨g + 1, 4, none⟩ = some (.slice ulA' ul'.length ulc') ∧ U.cell? ⟨g + 1, 5, none⟩ = some (.slice utA' ut'.length utc') ∧ Le (g + 1) U ∧ Le (g + 1 + 1) U) := by
    refine ⟨_, rfl, inferInstance, fun U hU => ?_⟩
    have f1 := ((Blk.new w 80 #[.string nm, .slice loA lo.length loc, .slice eqA eq.length eqc, .slice aA au.length ac, .slice ulA ul.length ulc, .slice utA ut.length utc]).alloc (.cells #[.string nm', .slice loA' lo'.length loc', .slice eqA' eq'.length eqc', .slice aA' au'.length ac', .slice ulA' ul'.length ulc', .slice utA' ut'.length utc'] 80)).after (w' := U)
    have f2 := (Blk.at_' (w := w.alloc (.cells #[.string nm, .slice loA lo.length loc, .slice eqA eq.length eqc, .slice aA au.length ac, .slice ulA ul.length ulc, .slice utA ut.length utc] 80)) (size_alloc_ _ _) 80 #[.string nm', .slice loA' lo'.length loc', .slice eqA' eq'.length eqc', .slice aA' au'.length ac', .slice ulA' ul'.length ulc', .slice utA' ut'.length utc']).after (w' := U)
    rw [hg] at f1 f2
    exact ⟨(f1.cell 0).trans rfl, (f1.cell 1).trans rfl, (f1.cell 2).trans rfl, (f1.cell 3).trans rfl, (f1.cell 4).trans rfl, (f1.cell 5).trans rfl, (f2.cell 0).trans rfl, (f2.cell 1).trans rfl, (f2.cell 2).trans rfl, (f2.cell 3).trans rfl, (f2.cell 4).trans rfl, (f2.cell 5).trans rfl, f1.is_le, f2.is_le⟩
  cases q0 with
  | false =>
    clear HK a2 hW2 hg
    go_enter Try.func87, Try.ntmps87
    go_wp2_with fail
    go_ret
    exact ⟨ret_bool (by rw [HV.out] <;> simp), inferInstance⟩
  | true =>
    obtain ⟨k0, k1, k2, k3, k4, k5, m0, m1, m2, m3, m4, m5, kl, ml⟩ := HK.out W2 (after_refl _)
    go_enter Try.func87, Try.ntmps87
    go_wp2_with fail
    try rw [hW2]
    try rw [hg]
    clear hW2 hg
    refine (HE1.out W2 (after_after aft a2)).mono ?_
    rintro e w4 ⟨rfl, c1_⟩
    have d1 : After w w4 := after_after a2 c1_
    have b1 : After W2 w4 := after_after (after_refl W2) c1_
    clear k0 k1 k2 k3 k4 k5 m0 m1 m2 m3 m4 m5 kl ml
    obtain ⟨k0, k1, k2, k3, k4, k5, m0, m1, m2, m3, m4, m5, kl, ml⟩ := HK.out w4 b1
    cases q1 with
    | false =>
      go_wp2_with fail
      go_ret
      exact ⟨ret_bool (by rw [HV.out] <;> simp), d1⟩
    | true =>
      go_wp2_with fail
      refine (HE2.out w4 (after_after aft d1)).mono ?_
      rintro e w5 ⟨rfl, c2_⟩
      have d2 : After w w5 := after_after d1 c2_
      have b2 : After W2 w5 := after_after b1 c2_
      clear k0 k1 k2 k3 k4 k5 m0 m1 m2 m3 m4 m5 kl ml
      obtain ⟨k0, k1, k2, k3, k4, k5, m0, m1, m2, m3, m4, m5, kl, ml⟩ := HK.out w5 b2
      cases q2 with
      | false =>
        go_wp2_with fail
        go_ret
        exact ⟨ret_bool (by rw [HV.out] <;> simp), d2⟩
      | true =>
        go_wp2_with fail
        refine (HE3.out w5 (after_after aft d2)).mono ?_
        rintro e w6 ⟨rfl, c3_⟩
        have d3 : After w w6 := after_after d2 c3_
        have b3 : After W2 w6 := after_after b2 c3_
        clear k0 k1 k2 k3 k4 k5 m0 m1 m2 m3 m4 m5 kl ml
        obtain ⟨k0, k1, k2, k3, k4, k5, m0, m1, m2, m3, m4, m5, kl, ml⟩ := HK.out w6 b3
        cases q3 with
        | false =>
          go_wp2_with fail
          go_ret
          exact ⟨ret_bool (by rw [HV.out] <;> simp), d3⟩
        | true =>
          go_wp2_with fail
          refine (HE4.out w6 (after_after aft d3)).mono ?_
          rintro e w7 ⟨rfl, c4_⟩
          have d4 : After w w7 := after_after d3 c4_
          have b4 : After W2 w7 := after_after b3 c4_
          clear k0 k1 k2 k3 k4 k5 m0 m1 m2 m3 m4 m5 kl ml
          obtain ⟨k0, k1, k2, k3, k4, k5, m0, m1, m2, m3, m4, m5, kl, ml⟩ := HK.out w7 b4
          cases q4 with
          | false =>
            go_wp2_with fail
            go_ret
            exact ⟨ret_bool (by rw [HV.out] <;> simp), d4⟩
          | true =>
            go_wp2_with fail
            refine (HE5.out w7 (after_after aft d4)).mono ?_
            rintro e w8 ⟨rfl, c5_⟩
            have d5 : After w w8 := after_after d4 c5_
            have b5 : After W2 w8 := after_after b4 c5_
            go_wp2_with fail
            go_ret
            exact ⟨ret_bool (by rw [HV.out] <;> simp), d5⟩
set_option maxRecDepth 100000 in
set_option maxHeartbeats 3200000 in
theorem sameAuto_of {w0 : World} {zA : Option Addr} {zc : Nat} {zl : List StT} {zA' : Option Addr} {zc' : Nat} {zl' : List StT} (hA : ∀ U : World, After w0 U → Calls Try.prog 86 #[.slice zA zl.length zc, .slice zA' zl'.length zc', .func (.func 87) #[] #[]] U fun e w' => e = .returned (.bool (lsame stSame zl zl')) ∧ After U w') (w : World) (aft : After w0 w) :
    Calls Try.prog 62 #[.agg #[.slice zA zl.length zc], .agg #[.slice zA' zl'.length zc']] w fun e w' => e = .returned (.bool (auSame ⟨zA, zc, zl⟩ ⟨zA', zc', zl'⟩)) ∧ After w w' := by
  have HE0 : Hid (∀ U : World, After w0 U → Calls Try.prog 86 #[.slice zA zl.length zc, .slice zA' zl'.length zc', .func (.func 87) #[] #[]] U fun e w' => e = .returned (.bool (lsame stSame zl zl')) ∧ After U w') := Lib.hid fun U hU => hA U hU
  obtain ⟨q0, hq0⟩ : ∃ q, (lsame stSame zl zl') = q := ⟨_, rfl⟩
  have HV : Hid (auSame ⟨zA, zc, zl⟩ ⟨zA', zc', zl'⟩ = (q0)) := by
    show _ = _
    rw [← hq0]
    exact auSame_is _ _ _ _ _ _
  rw [hq0] at HE0
  clear hq0 hA
  obtain ⟨g, hg⟩ : ∃ g, w.heap.size = g := ⟨_, rfl⟩
  obtain ⟨W2, hW2, a2, HK⟩ : ∃ W, (w.alloc (.cells #[.slice zA zl.length zc] 86)).alloc (.cells #[.slice zA' zl'.length zc'] 86) = W ∧ After w W ∧ Hid (∀ U : World, After W U → U.cell? ⟨g, 0, none⟩ = some (.slice zA zl.length zc) ∧ U.cell? ⟨g + 1, 0, none⟩ = some (.slice zA' zl'.length zc') ∧ Le (g + 1) U ∧ Le (g + 1 + 1) U) := by
    refine ⟨_, rfl, inferInstance, fun U hU => ?_⟩
    have f1 := ((Blk.new w 86 #[.slice zA zl.length zc]).alloc (.cells #[.slice zA' zl'.length zc'] 86)).after (w' := U)
    have f2 := (Blk.at_' (w := w.alloc (.cells #[.slice zA zl.length zc] 86)) (size_alloc_ _ _) 86 #[.slice zA' zl'.length zc']).after (w' := U)
    rw [hg] at f1 f2
    exact ⟨(f1.cell 0).trans rfl, (f2.cell 0).trans rfl, f1.is_le, f2.is_le⟩
  obtain ⟨k0, m0, kl, ml⟩ := HK.out W2 (after_refl _)
  go_enter Try.func62, Try.ntmps62
  go_wp2_with fail
  try rw [hW2]
  try rw [hg]
  clear hW2 hg
  refine (HE0.out W2 (after_after aft a2)).mono ?_
  rintro e w3 ⟨rfl, c0_⟩
  have d0 : After w w3 := after_after a2 c0_
  have b0 : After W2 w3 := after_after (after_refl W2) c0_
  go_wp2_with fail
  go_ret
  exact ⟨ret_bool (by rw [HV.out] <;> simp), d0⟩
mutual
def StT.sz : StT → Nat
  | .mk _ _ _ _ _ a _ _ => AuT.szs a + 1
def StT.szs : List StT → Nat
  | [] => 0
  | x :: l => x.sz + StT.szs l
def AuT.sz : AuT → Nat
  | .mk _ _ l => StT.szs l + 1
def AuT.szs : List AuT → Nat
  | [] => 0
  | x :: l => x.sz + AuT.szs l
end
theorem StT.szs_mem : ∀ {l : List StT} {i : Nat} {x : StT}, l[i]? = some x → x.sz ≤ StT.szs l
  | [], i, x, h => by simp at h
  | a :: l, 0, x, h => by simp at h; subst h; rw [StT.szs]; omega
  | a :: l, i + 1, x, h => by have := StT.szs_mem (l := l) (i := i) (x := x) (by simpa using h); rw [StT.szs]; omega
theorem AuT.szs_mem : ∀ {l : List AuT} {i : Nat} {x : AuT}, l[i]? = some x → x.sz ≤ AuT.szs l
  | [], i, x, h => by simp at h
  | a :: l, 0, x, h => by simp at h; subst h; rw [AuT.szs]; omega
  | a :: l, i + 1, x, h => by have := AuT.szs_mem (l := l) (i := i) (x := x) (by simpa using h); rw [AuT.szs]; omega
theorem sameAuto_n (N : Nat) : ∀ (a b : AuT) (w0 : World), a.sz ≤ N → RAu S w0 a → RAu S w0 b → ∀ U, After w0 U →
    Calls Try.prog 62 #[auImg a, auImg b] U fun e w' => e = .returned (.bool (auSame a b)) ∧ After U w' := by
  induction N with
  | zero =>
    intro a b w0 hN
    obtain ⟨A, c, l⟩ := a
    rw [AuT.sz] at hN
    omega
  | succ N ih =>
    intro a b w0 hN ha hb U hU
    obtain ⟨A, c, l⟩ := a
    obtain ⟨A', c', l'⟩ := b
    rw [AuT.sz] at hN
    refine sameAuto_of (w0 := w0) ?_ U hU
    intro U hU
    refine eqf_st ha.rows hb.rows U hU ?_
    intro i x y h1 h2 U hU
    obtain ⟨_, _, h3⟩ := ha.rows.elem (show _ from h1)
    obtain ⟨_, _, h4⟩ := hb.rows.elem (show _ from h2)
    have hm := StT.szs_mem h1
    obtain ⟨nm, ⟨loA, loc, lo⟩, ⟨eqA, eqc, eq⟩, aA, ac, au, ⟨ulA, ulc, ul⟩, ⟨utA, utc, ut⟩⟩ := x
    obtain ⟨nm', ⟨loA', loc', lo'⟩, ⟨eqA', eqc', eq'⟩, aA', ac', au', ⟨ulA', ulc', ul'⟩, ⟨utA', utc', ut'⟩⟩ := y
    obtain ⟨_, e1, e2, e3, e4, e5⟩ := RSta.parts h3.2
    obtain ⟨_, f1, f2, f3, f4, f5⟩ := RSta.parts h4.2
    rw [StT.sz] at hm
    refine sameState_of e1 f1 e2 f2 e3 f3 e4 f4 ?_ U hU
    intro U hU
    refine eqf_au e5 f5 U hU ?_
    intro i x y h1 h2 U hU
    obtain ⟨_, _, h3⟩ := e5.elem (show _ from h1)
    obtain ⟨_, _, h4⟩ := f5.elem (show _ from h2)
    have hm2 := AuT.szs_mem h1
    exact ih x y w0 (by omega) h3.2 h4.2 U hU
theorem eqe_au {w0 : World} {A1 B1 : Option Addr} {c1 d1 : Nat} {xl yl : List AuT} (x : RowOf 1 (PAu S) w0 ⟨A1, c1, xl⟩) (y : RowOf 1 (PAu S) w0 ⟨B1, d1, yl⟩) (w : World) (aft : After w0 w) :
    Calls Try.prog 61 #[.slice A1 xl.length c1, .slice B1 yl.length d1, .func (.func 62) #[] #[]] w fun e w' => e = .returned (.bool (lsame auSame xl yl)) ∧ After w w' :=
  eqf_au x y w aft fun i a b h1 h2 U hU => by
    obtain ⟨_, _, h3⟩ := x.elem h1
    obtain ⟨_, _, h4⟩ := y.elem h2
    exact sameAuto_n _ a b w0 (Nat.le_refl _) h3.2 h4.2 U hU
set_option maxRecDepth 100000 in
set_option maxHeartbeats 3200000 in
theorem sameNode_any {w0 : World} {nm nm' : ByteArray} {inA : Option Addr} {inc : Nat} {in_ : List DeclD} {inA' : Option Addr} {inc' : Nat} {in_' : List DeclD} {ouA : Option Addr} {ouc : Nat} {ou : List DeclD} {ouA' : Option Addr} {ouc' : Nat} {ou' : List DeclD} {loA : Option Addr} {loc : Nat} {lo : List DeclD} {loA' : Option Addr} {loc' : Nat} {lo' : List DeclD} {eqA : Option Addr} {eqc : Nat} {eq : List EqD} {eqA' : Option Addr} {eqc' : Nat} {eq' : List EqD} {auA : Option Addr} {auc : Nat} {au : List AuT} {auA' : Option Addr} {auc' : Nat} {au' : List AuT} {asA : Option Addr} {asc : Nat} {as_ : List Tx} {asA' : Option Addr} {asc' : Nat} {as_' : List Tx} {enA : Option Addr} {enc : Nat} {en_ : List Tx} {enA' : Option Addr} {enc' : Nat} {en_' : List Tx} (hin_ : RowOf 3 PDecl w0 ⟨inA, inc, in_⟩) (hin_' : RowOf 3 PDecl w0 ⟨inA', inc', in_'⟩) (hou : RowOf 3 PDecl w0 ⟨ouA, ouc, ou⟩) (hou' : RowOf 3 PDecl w0 ⟨ouA', ouc', ou'⟩) (hlo : RowOf 3 PDecl w0 ⟨loA, loc, lo⟩) (hlo' : RowOf 3 PDecl w0 ⟨loA', loc', lo'⟩) (heq : RowOf 7 (PEq S) w0 ⟨eqA, eqc, eq⟩) (heq' : RowOf 7 (PEq S) w0 ⟨eqA', eqc', eq'⟩) (hau : RowOf 1 (PAu S) w0 ⟨auA, auc, au⟩) (hau' : RowOf 1 (PAu S) w0 ⟨auA', auc', au'⟩) (has_ : RowOf 6 (PTx S) w0 ⟨asA, asc, as_⟩) (has_' : RowOf 6 (PTx S) w0 ⟨asA', asc', as_'⟩) (hen_ : RowOf 6 (PTx S) w0 ⟨enA, enc, en_⟩) (hen_' : RowOf 6 (PTx S) w0 ⟨enA', enc', en_'⟩) (w : World) (aft : After w0 w) :
    Calls Try.prog 26 #[.agg #[.string nm, .slice inA in_.length inc, .slice ouA ou.length ouc, .slice loA lo.length loc, .slice eqA eq.length eqc, .slice auA au.length auc, .slice asA as_.length asc, .slice enA en_.length enc], .agg #[.string nm', .slice inA' in_'.length inc', .slice ouA' ou'.length ouc', .slice loA' lo'.length loc', .slice eqA' eq'.length eqc', .slice auA' au'.length auc', .slice asA' as_'.length asc', .slice enA' en_'.length enc']] w fun e w' => e = .returned (.bool (ndSame ⟨nm, ⟨inA, inc, in_⟩, ⟨ouA, ouc, ou⟩, ⟨loA, loc, lo⟩, ⟨eqA, eqc, eq⟩, ⟨auA, auc, au⟩, ⟨asA, asc, as_⟩, ⟨enA, enc, en_⟩⟩ ⟨nm', ⟨inA', inc', in_'⟩, ⟨ouA', ouc', ou'⟩, ⟨loA', loc', lo'⟩, ⟨eqA', eqc', eq'⟩, ⟨auA', auc', au'⟩, ⟨asA', asc', as_'⟩, ⟨enA', enc', en_'⟩⟩)) ∧ After w w' := by
  have HE1 : Hid (∀ U : World, After w0 U → Calls Try.prog 57 #[.slice inA in_.length inc, .slice inA' in_'.length inc', .func (.func 58) #[] #[]] U fun e w' => e = .returned (.bool (lsame declSame in_ in_')) ∧ After U w') := Lib.hid fun U hU => eqe_decl hin_ hin_' U hU
  have HE2 : Hid (∀ U : World, After w0 U → Calls Try.prog 57 #[.slice ouA ou.length ouc, .slice ouA' ou'.length ouc', .func (.func 58) #[] #[]] U fun e w' => e = .returned (.bool (lsame declSame ou ou')) ∧ After U w') := Lib.hid fun U hU => eqe_decl hou hou' U hU
  have HE3 : Hid (∀ U : World, After w0 U → Calls Try.prog 57 #[.slice loA lo.length loc, .slice loA' lo'.length loc', .func (.func 58) #[] #[]] U fun e w' => e = .returned (.bool (lsame declSame lo lo')) ∧ After U w') := Lib.hid fun U hU => eqe_decl hlo hlo' U hU
  have HE4 : Hid (∀ U : World, After w0 U → Calls Try.prog 59 #[.slice eqA eq.length eqc, .slice eqA' eq'.length eqc', .func (.func 60) #[] #[]] U fun e w' => e = .returned (.bool (lsame eqSame eq eq')) ∧ After U w') := Lib.hid fun U hU => eqe_eq heq heq' U hU
  have HE5 : Hid (∀ U : World, After w0 U → Calls Try.prog 61 #[.slice auA au.length auc, .slice auA' au'.length auc', .func (.func 62) #[] #[]] U fun e w' => e = .returned (.bool (lsame auSame au au')) ∧ After U w') := Lib.hid fun U hU => eqe_au hau hau' U hU
  have HE6 : Hid (∀ U : World, After w0 U → Calls Try.prog 63 #[.slice asA as_.length asc, .slice asA' as_'.length asc', .func (.func 64) #[] #[]] U fun e w' => e = .returned (.bool (lsame Tx.same as_ as_')) ∧ After U w') := Lib.hid fun U hU => eqe_tx has_ has_' U hU
  have HE7 : Hid (∀ U : World, After w0 U → Calls Try.prog 63 #[.slice enA en_.length enc, .slice enA' en_'.length enc', .func (.func 64) #[] #[]] U fun e w' => e = .returned (.bool (lsame Tx.same en_ en_')) ∧ After U w') := Lib.hid fun U hU => eqe_tx hen_ hen_' U hU
  obtain ⟨q0, hq0⟩ : ∃ q, (nm.toList == nm'.toList) = q := ⟨_, rfl⟩
  obtain ⟨q1, hq1⟩ : ∃ q, (lsame declSame in_ in_') = q := ⟨_, rfl⟩
  obtain ⟨q2, hq2⟩ : ∃ q, (lsame declSame ou ou') = q := ⟨_, rfl⟩
  obtain ⟨q3, hq3⟩ : ∃ q, (lsame declSame lo lo') = q := ⟨_, rfl⟩
  obtain ⟨q4, hq4⟩ : ∃ q, (lsame eqSame eq eq') = q := ⟨_, rfl⟩
  obtain ⟨q5, hq5⟩ : ∃ q, (lsame auSame au au') = q := ⟨_, rfl⟩
  obtain ⟨q6, hq6⟩ : ∃ q, (lsame Tx.same as_ as_') = q := ⟨_, rfl⟩
  obtain ⟨q7, hq7⟩ : ∃ q, (lsame Tx.same en_ en_') = q := ⟨_, rfl⟩
  have HV : Hid (ndSame ⟨nm, ⟨inA, inc, in_⟩, ⟨ouA, ouc, ou⟩, ⟨loA, loc, lo⟩, ⟨eqA, eqc, eq⟩, ⟨auA, auc, au⟩, ⟨asA, asc, as_⟩, ⟨enA, enc, en_⟩⟩ ⟨nm', ⟨inA', inc', in_'⟩, ⟨ouA', ouc', ou'⟩, ⟨loA', loc', lo'⟩, ⟨eqA', eqc', eq'⟩, ⟨auA', auc', au'⟩, ⟨asA', asc', as_'⟩, ⟨enA', enc', en_'⟩⟩ = (q0 && (q1 && (q2 && (q3 && (q4 && (q5 && (q6 && (q7))))))))) := by
    show _ = _
    rw [← hq0, ← hq1, ← hq2, ← hq3, ← hq4, ← hq5, ← hq6, ← hq7]
    rfl
  rw [hq1] at HE1
  rw [hq2] at HE2
  rw [hq3] at HE3
  rw [hq4] at HE4
  rw [hq5] at HE5
  rw [hq6] at HE6
  rw [hq7] at HE7
  clear hq1 hq2 hq3 hq4 hq5 hq6 hq7 hin_ hin_' hou hou' hlo hlo' heq heq' hau hau' has_ has_' hen_ hen_'
  obtain ⟨g, hg⟩ : ∃ g, w.heap.size = g := ⟨_, rfl⟩
  obtain ⟨W2, hW2, a2, HK⟩ : ∃ W, (w.alloc (.cells #[.string nm, .slice inA in_.length inc, .slice ouA ou.length ouc, .slice loA lo.length loc, .slice eqA eq.length eqc, .slice auA au.length auc, .slice asA as_.length asc, .slice enA en_.length enc] 45)).alloc (.cells #[.string nm', .slice inA' in_'.length inc', .slice ouA' ou'.length ouc', .slice loA' lo'.length loc', .slice eqA' eq'.length eqc', .slice auA' au'.length auc', .slice asA' as_'.length asc', .slice enA' en_'.length enc'] 45) = W ∧ After w W ∧ Hid (∀ U : World, After W U → U.cell? ⟨g, 0, none⟩ = some (.string nm) ∧ U.cell? ⟨g, 1, none⟩ = some (.slice inA in_.length inc) ∧ U.cell? ⟨g, 2, none⟩ = some (.slice ouA ou.length ouc) ∧ U.cell? ⟨g, 3, none⟩ = some (.slice loA lo.length loc) ∧ U.cell? ⟨g, 4, none⟩ = some (.slice eqA eq.length eqc) ∧ U.cell? ⟨g, 5, none⟩ = some (.slice auA au.length auc) ∧ U.cell? ⟨g, 6, none⟩ = some (.slice asA as_.length asc) ∧ U.cell? ⟨g, 7, none⟩ = some (.slice enA en_.length enc) ∧ U.cell? ⟨g + 1, 0, none⟩ = some (.string nm') ∧ U.cell? ⟨g + 1, 1, none⟩ = some (.slice inA' in_'.length inc') ∧ U.cell? ⟨g + 1, 2, none⟩ = some (.slice ouA' ou'.length ouc') ∧ U.cell? ⟨g + 1, 3, none⟩ = some (.slice loA' lo'.length loc') ∧ U.cell? ⟨g + 1, 4, none⟩ = some (.slice eqA' eq'.length eqc') ∧ U.cell? ⟨g + 1, 5, none⟩ = some (.slice auA' au'.length auc') ∧ U.cell? ⟨g + 1, 6, none⟩ = some (.slice asA' as_'.length asc') ∧ U.cell? ⟨g + 1, 7, none⟩ = some (.slice enA' en_'.length enc') ∧ Le (g + 1) U ∧ Le (g + 1 + 1) U) := by
    refine ⟨_, rfl, inferInstance, fun U hU => ?_⟩
    have f1 := ((Blk.new w 45 #[.string nm, .slice inA in_.length inc, .slice ouA ou.length ouc, .slice loA lo.length loc, .slice eqA eq.length eqc, .slice auA au.length auc, .slice asA as_.length asc, .slice enA en_.length enc]).alloc (.cells #[.string nm', .slice inA' in_'.length inc', .slice ouA' ou'.length ouc', .slice loA' lo'.length loc', .slice eqA' eq'.length eqc', .slice auA' au'.length auc', .slice asA' as_'.length asc', .slice enA' en_'.length enc'] 45)).after (w' := U)
    have f2 := (Blk.at_' (w := w.alloc (.cells #[.string nm, .slice inA in_.length inc, .slice ouA ou.length ouc, .slice loA lo.length loc, .slice eqA eq.length eqc, .slice auA au.length auc, .slice asA as_.length asc, .slice enA en_.length enc] 45)) (size_alloc_ _ _) 45 #[.string nm', .slice inA' in_'.length inc', .slice ouA' ou'.length ouc', .slice loA' lo'.length loc', .slice eqA' eq'.length eqc', .slice auA' au'.length auc', .slice asA' as_'.length asc', .slice enA' en_'.length enc']).after (w' := U)
    rw [hg] at f1 f2
    exact ⟨(f1.cell 0).trans rfl, (f1.cell 1).trans rfl, (f1.cell 2).trans rfl, (f1.cell 3).trans rfl, (f1.cell 4).trans rfl, (f1.cell 5).trans rfl, (f1.cell 6).trans rfl, (f1.cell 7).trans rfl, (f2.cell 0).trans rfl, (f2.cell 1).trans rfl, (f2.cell 2).trans rfl, (f2.cell 3).trans rfl, (f2.cell 4).trans rfl, (f2.cell 5).trans rfl, (f2.cell 6).trans rfl, (f2.cell 7).trans rfl, f1.is_le, f2.is_le⟩
  cases q0 with
  | false =>
    clear HK a2 hW2 hg
    go_enter Try.func26, Try.ntmps26
    go_wp2_with fail
    go_ret
    exact ⟨ret_bool (by rw [HV.out] <;> simp), inferInstance⟩
  | true =>
    obtain ⟨k0, k1, k2, k3, k4, k5, k6, k7, m0, m1, m2, m3, m4, m5, m6, m7, kl, ml⟩ := HK.out W2 (after_refl _)
    go_enter Try.func26, Try.ntmps26
    go_wp2_with fail
    try rw [hW2]
    try rw [hg]
    clear hW2 hg
    refine (HE1.out W2 (after_after aft a2)).mono ?_
    rintro e w4 ⟨rfl, c1_⟩
    have d1 : After w w4 := after_after a2 c1_
    have b1 : After W2 w4 := after_after (after_refl W2) c1_
    clear k0 k1 k2 k3 k4 k5 k6 k7 m0 m1 m2 m3 m4 m5 m6 m7 kl ml
    obtain ⟨k0, k1, k2, k3, k4, k5, k6, k7, m0, m1, m2, m3, m4, m5, m6, m7, kl, ml⟩ := HK.out w4 b1
    cases q1 with
    | false =>
      go_wp2_with fail
      go_ret
      exact ⟨ret_bool (by rw [HV.out] <;> simp), d1⟩
    | true =>
      go_wp2_with fail
      refine (HE2.out w4 (after_after aft d1)).mono ?_
      rintro e w5 ⟨rfl, c2_⟩
      have d2 : After w w5 := after_after d1 c2_
      have b2 : After W2 w5 := after_after b1 c2_
      clear k0 k1 k2 k3 k4 k5 k6 k7 m0 m1 m2 m3 m4 m5 m6 m7 kl ml
      obtain ⟨k0, k1, k2, k3, k4, k5, k6, k7, m0, m1, m2, m3, m4, m5, m6, m7, kl, ml⟩ := HK.out w5 b2
      cases q2 with
      | false =>
        go_wp2_with fail
        go_ret
        exact ⟨ret_bool (by rw [HV.out] <;> simp), d2⟩
      | true =>
        go_wp2_with fail
        refine (HE3.out w5 (after_after aft d2)).mono ?_
        rintro e w6 ⟨rfl, c3_⟩
        have d3 : After w w6 := after_after d2 c3_
        have b3 : After W2 w6 := after_after b2 c3_
        clear k0 k1 k2 k3 k4 k5 k6 k7 m0 m1 m2 m3 m4 m5 m6 m7 kl ml
        obtain ⟨k0, k1, k2, k3, k4, k5, k6, k7, m0, m1, m2, m3, m4, m5, m6, m7, kl, ml⟩ := HK.out w6 b3
        cases q3 with
        | false =>
          go_wp2_with fail
          go_ret
          exact ⟨ret_bool (by rw [HV.out] <;> simp), d3⟩
        | true =>
          go_wp2_with fail
          refine (HE4.out w6 (after_after aft d3)).mono ?_
          rintro e w7 ⟨rfl, c4_⟩
          have d4 : After w w7 := after_after d3 c4_
          have b4 : After W2 w7 := after_after b3 c4_
          clear k0 k1 k2 k3 k4 k5 k6 k7 m0 m1 m2 m3 m4 m5 m6 m7 kl ml
          obtain ⟨k0, k1, k2, k3, k4, k5, k6, k7, m0, m1, m2, m3, m4, m5, m6, m7, kl, ml⟩ := HK.out w7 b4
          cases q4 with
          | false =>
            go_wp2_with fail
            go_ret
            exact ⟨ret_bool (by rw [HV.out] <;> simp), d4⟩
          | true =>
            go_wp2_with fail
            refine (HE5.out w7 (after_after aft d4)).mono ?_
            rintro e w8 ⟨rfl, c5_⟩
            have d5 : After w w8 := after_after d4 c5_
            have b5 : After W2 w8 := after_after b4 c5_
            clear k0 k1 k2 k3 k4 k5 k6 k7 m0 m1 m2 m3 m4 m5 m6 m7 kl ml
            obtain ⟨k0, k1, k2, k3, k4, k5, k6, k7, m0, m1, m2, m3, m4, m5, m6, m7, kl, ml⟩ := HK.out w8 b5
            cases q5 with
            | false =>
              go_wp2_with fail
              go_ret
              exact ⟨ret_bool (by rw [HV.out] <;> simp), d5⟩
            | true =>
              go_wp2_with fail
              refine (HE6.out w8 (after_after aft d5)).mono ?_
              rintro e w9 ⟨rfl, c6_⟩
              have d6 : After w w9 := after_after d5 c6_
              have b6 : After W2 w9 := after_after b5 c6_
              clear k0 k1 k2 k3 k4 k5 k6 k7 m0 m1 m2 m3 m4 m5 m6 m7 kl ml
              obtain ⟨k0, k1, k2, k3, k4, k5, k6, k7, m0, m1, m2, m3, m4, m5, m6, m7, kl, ml⟩ := HK.out w9 b6
              cases q6 with
              | false =>
                go_wp2_with fail
                go_ret
                exact ⟨ret_bool (by rw [HV.out] <;> simp), d6⟩
              | true =>
                go_wp2_with fail
                refine (HE7.out w9 (after_after aft d6)).mono ?_
                rintro e w10 ⟨rfl, c7_⟩
                have d7 : After w w10 := after_after d6 c7_
                have b7 : After W2 w10 := after_after b6 c7_
                go_wp2_with fail
                go_ret
                exact ⟨ret_bool (by rw [HV.out] <;> simp), d7⟩
theorem eqe_nd {w0 : World} {A1 B1 : Option Addr} {c1 d1 : Nat} {xl yl : List NdD} (x : RowOf 8 (PNd S) w0 ⟨A1, c1, xl⟩) (y : RowOf 8 (PNd S) w0 ⟨B1, d1, yl⟩) (w : World) (aft : After w0 w) :
    Calls Try.prog 25 #[.slice A1 xl.length c1, .slice B1 yl.length d1, .func (.func 26) #[] #[]] w fun e w' => e = .returned (.bool (lsame ndSame xl yl)) ∧ After w w' :=
  eqf_nd x y w aft fun i a b h1 h2 U hU => by
    obtain ⟨_, _, h3⟩ := x.elem h1
    obtain ⟨_, _, h4⟩ := y.elem h2
    obtain ⟨nm, ⟨inA, inc, in_⟩, ⟨ouA, ouc, ou⟩, ⟨loA, loc, lo⟩, ⟨eqA, eqc, eq⟩, ⟨auA, auc, au⟩, ⟨asA, asc, as_⟩, ⟨enA, enc, en_⟩⟩ := a
    obtain ⟨nm', ⟨inA', inc', in_'⟩, ⟨ouA', ouc', ou'⟩, ⟨loA', loc', lo'⟩, ⟨eqA', eqc', eq'⟩, ⟨auA', auc', au'⟩, ⟨asA', asc', as_'⟩, ⟨enA', enc', en_'⟩⟩ := b
    exact sameNode_any h3.r1 h4.r1 h3.r2 h4.r2 h3.r3 h4.r3 h3.r4 h4.r4 h3.r5 h4.r5 h3.r6 h4.r6 h3.r7 h4.r7 U hU
set_option maxRecDepth 100000 in
set_option maxHeartbeats 3200000 in
theorem psame_any {w0 : World} {eA : Option Addr} {ec : Nat} {el : List EnD} {eA' : Option Addr} {ec' : Nat} {el' : List EnD} {nA : Option Addr} {nc : Nat} {nl : List NdD} {nA' : Option Addr} {nc' : Nat} {nl' : List NdD} (he : RowOf 2 PEn w0 ⟨eA, ec, el⟩) (he' : RowOf 2 PEn w0 ⟨eA', ec', el'⟩) (hn : RowOf 8 (PNd S) w0 ⟨nA, nc, nl⟩) (hn' : RowOf 8 (PNd S) w0 ⟨nA', nc', nl'⟩) (w : World) (aft : After w0 w) :
    Calls Try.prog 11 #[.agg #[.slice eA el.length ec, .slice nA nl.length nc], .agg #[.slice eA' el'.length ec', .slice nA' nl'.length nc']] w fun e w' => e = .returned (.bool (pgSame ⟨⟨eA, ec, el⟩, ⟨nA, nc, nl⟩⟩ ⟨⟨eA', ec', el'⟩, ⟨nA', nc', nl'⟩⟩)) ∧ After w w' := by
  have HE0 : Hid (∀ U : World, After w0 U → Calls Try.prog 23 #[.slice eA el.length ec, .slice eA' el'.length ec', .func (.func 24) #[] #[]] U fun e w' => e = .returned (.bool (lsame enSame el el')) ∧ After U w') := Lib.hid fun U hU => eqe_enum he he' U hU
  have HE1 : Hid (∀ U : World, After w0 U → Calls Try.prog 25 #[.slice nA nl.length nc, .slice nA' nl'.length nc', .func (.func 26) #[] #[]] U fun e w' => e = .returned (.bool (lsame ndSame nl nl')) ∧ After U w') := Lib.hid fun U hU => eqe_nd hn hn' U hU
  obtain ⟨q0, hq0⟩ : ∃ q, (lsame enSame el el') = q := ⟨_, rfl⟩
  obtain ⟨q1, hq1⟩ : ∃ q, (lsame ndSame nl nl') = q := ⟨_, rfl⟩
  have HV : Hid (pgSame ⟨⟨eA, ec, el⟩, ⟨nA, nc, nl⟩⟩ ⟨⟨eA', ec', el'⟩, ⟨nA', nc', nl'⟩⟩ = (q0 && (q1))) := by
    show _ = _
    rw [← hq0, ← hq1]
    rfl
  rw [hq0] at HE0
  rw [hq1] at HE1
  clear hq0 hq1 he he' hn hn'
  obtain ⟨g, hg⟩ : ∃ g, w.heap.size = g := ⟨_, rfl⟩
  obtain ⟨W2, hW2, a2, HK⟩ : ∃ W, (w.alloc (.cells #[.slice eA el.length ec, .slice nA nl.length nc] 32)).alloc (.cells #[.slice eA' el'.length ec', .slice nA' nl'.length nc'] 32) = W ∧ After w W ∧ Hid (∀ U : World, After W U → U.cell? ⟨g, 0, none⟩ = some (.slice eA el.length ec) ∧ U.cell? ⟨g, 1, none⟩ = some (.slice nA nl.length nc) ∧ U.cell? ⟨g + 1, 0, none⟩ = some (.slice eA' el'.length ec') ∧ U.cell? ⟨g + 1, 1, none⟩ = some (.slice nA' nl'.length nc') ∧ Le (g + 1) U ∧ Le (g + 1 + 1) U) := by
    refine ⟨_, rfl, inferInstance, fun U hU => ?_⟩
    have f1 := ((Blk.new w 32 #[.slice eA el.length ec, .slice nA nl.length nc]).alloc (.cells #[.slice eA' el'.length ec', .slice nA' nl'.length nc'] 32)).after (w' := U)
    have f2 := (Blk.at_' (w := w.alloc (.cells #[.slice eA el.length ec, .slice nA nl.length nc] 32)) (size_alloc_ _ _) 32 #[.slice eA' el'.length ec', .slice nA' nl'.length nc']).after (w' := U)
    rw [hg] at f1 f2
    exact ⟨(f1.cell 0).trans rfl, (f1.cell 1).trans rfl, (f2.cell 0).trans rfl, (f2.cell 1).trans rfl, f1.is_le, f2.is_le⟩
  obtain ⟨k0, k1, m0, m1, kl, ml⟩ := HK.out W2 (after_refl _)
  go_enter Try.func11, Try.ntmps11
  go_wp2_with fail
  try rw [hW2]
  try rw [hg]
  clear hW2 hg
  refine (HE0.out W2 (after_after aft a2)).mono ?_
  rintro e w3 ⟨rfl, c0_⟩
  have d0 : After w w3 := after_after a2 c0_
  have b0 : After W2 w3 := after_after (after_refl W2) c0_
  clear k0 k1 m0 m1 kl ml
  obtain ⟨k0, k1, m0, m1, kl, ml⟩ := HK.out w3 b0
  cases q0 with
  | false =>
    go_wp2_with fail
    go_ret
    exact ⟨ret_bool (by rw [HV.out] <;> simp), d0⟩
  | true =>
    go_wp2_with fail
    refine (HE1.out w3 (after_after aft d0)).mono ?_
    rintro e w4 ⟨rfl, c1_⟩
    have d1 : After w w4 := after_after d0 c1_
    have b1 : After W2 w4 := after_after b0 c1_
    go_wp2_with fail
    go_ret
    exact ⟨ret_bool (by rw [HV.out] <;> simp), d1⟩
end Go.Proofs.Ytdghfhnkacfahaa
