/-
  Names and Instant are the names of the chapter, in its order; the latter are among the former; for every expression (of at most 500 expressions, as the law says). No conditions.
-/
import Derived.Test.YtfoddappedcplaaELives
import Derived.Test.YtfoddappedcplaaELift
import Derived.Test.YtfoddappedcplaaENmF
namespace Go.Proofs.Ytfoddappedcplaa.exprNames
open Go.ChangeShapes Go.WideShapes Go.ChangeAt Go.RowKit Go.BigFrame
set_option linter.unusedVariables false
set_option linter.unusedSimpArgs false

theorem own : ownKnob Try.prog.godebug = none := by kernel_rfl
theorem laidOut : laidOutB Try.prog = true := by kernel_rfl

set_option maxRecDepth 100000 in
set_option maxHeartbeats 3200000 in
theorem walk {k o t v : Int} {s : ByteArray} {A : Option Addr} {c : Nat} {xs : List Tx} (w : World) (x : RX w (.mk k o t v s A c xs)) :
    Calls Try.prog 5 #[.agg #[.int .i64 k, .int .i64 o, .int .i64 t, .int .i64 v, .string s, .slice A xs.length c]] w fun e w' => e = .returned (.bool true) ∧ ∃ y, w' = w.more y := by
  replace x := Lib.hid x
  have GL : Gives w 11 #[] (.bool true) := fun U hU => (lives_any U).mono fun e w' h => ⟨h.1, @After.is_more _ _ h.2⟩
  have HK : Hid (∀ U : World, After (w.alloc (.cells #[.int .i64 k, .int .i64 o, .int .i64 t, .int .i64 v, .string s, .slice A xs.length c] 24)) U → After w U ∧ Le (w.heap.size + 1) U ∧ U.cell? ⟨w.heap.size, 0, none⟩ = some (.int .i64 k) ∧ U.cell? ⟨w.heap.size, 1, none⟩ = some (.int .i64 o) ∧ U.cell? ⟨w.heap.size, 2, none⟩ = some (.int .i64 t) ∧ U.cell? ⟨w.heap.size, 3, none⟩ = some (.int .i64 v) ∧ U.cell? ⟨w.heap.size, 4, none⟩ = some (.string s) ∧ U.cell? ⟨w.heap.size, 5, none⟩ = some (.slice A xs.length c)) := Lib.hid fun U hU => by
    have f_ := (Blk.new w 24 #[.int .i64 k, .int .i64 o, .int .i64 t, .int .i64 v, .string s, .slice A xs.length c]).after (w' := U)
    exact ⟨after_after inferInstance hU, f_.is_le, (f_.cell 0).trans rfl, (f_.cell 1).trans rfl, (f_.cell 2).trans rfl, (f_.cell 3).trans rfl, (f_.cell 4).trans rfl, (f_.cell 5).trans rfl⟩
  cases hv : heavyB (Tx.mk k o t v s A c xs) with
  | true =>
    have GH : Gives w 10 #[.agg #[.int .i64 k, .int .i64 o, .int .i64 t, .int .i64 v, .string s, .slice A xs.length c]] (.bool true) := fun U hU => (hv ▸ heavy_any x.out U hU).mono fun e w' h => ⟨h.1, @After.is_more _ _ h.2⟩
    go_enter Try.func5, Try.ntmps5
    go_wp2_with fail
    refine (Gives.on GH _ inferInstance).mono ?_
    rintro e w1 ⟨rfl, hy⟩
    have a1 : After (w.alloc (.cells #[.int .i64 k, .int .i64 o, .int .i64 t, .int .i64 v, .string s, .slice A xs.length c] 24)) w1 := after_of_more hy inferInstance
    obtain ⟨aw_w1, le_w1, h0_w1, h1_w1, h2_w1, h3_w1, h4_w1, h5_w1⟩ := HK.out w1 a1
    clear hy
    go_wp2_with fail
    refine (Gives.on GL _ inferInstance).mono ?_
    rintro e w2 ⟨rfl, hy2⟩
    have a2 : After w w2 := after_of_more hy2 inferInstance
    go_wp2_with fail
    go_ret
    exact ⟨rfl, After.is_more _ _⟩
  | false =>
    have hs : (Tx.mk k o t v s A c xs).size ≤ 500 := by unfold heavyB at hv; simpa using hv
    have GH : Gives w 10 #[.agg #[.int .i64 k, .int .i64 o, .int .i64 t, .int .i64 v, .string s, .slice A xs.length c]] (.bool false) := fun U hU => (hv ▸ heavy_any x.out U hU).mono fun e w' h => ⟨h.1, @After.is_more _ _ h.2⟩
    clear hv
    have N1 : Hid (∀ U : World, After w U → Calls Try.prog 22 #[.agg #[.int .i64 k, .int .i64 o, .int .i64 t, .int .i64 v, .string s, .slice A xs.length c]] U fun e w' => ∃ A' c', e = .returned (.slice A' (Tx.nms false (Tx.mk k o t v s A c xs) []).length c') ∧ RSt w' A' c' (Tx.nms false (Tx.mk k o t v s A c xs) []) ∧ ∃ y, w' = U.more y) := Lib.hid fun U hU => (Names_any (by omega) x.out U hU).mono fun e w' ⟨A', c', h1, h2, h3⟩ => ⟨A', c', h1, h2, @After.is_more _ _ h3⟩
    have N2 : Hid (∀ U : World, After w U → Calls Try.prog 23 #[.agg #[.int .i64 k, .int .i64 o, .int .i64 t, .int .i64 v, .string s, .slice A xs.length c]] U fun e w' => ∃ A' c', e = .returned (.slice A' (Tx.nms true (Tx.mk k o t v s A c xs) []).length c') ∧ RSt w' A' c' (Tx.nms true (Tx.mk k o t v s A c xs) []) ∧ ∃ y, w' = U.more y) := Lib.hid fun U hU => (Instant_any (by omega) x.out U hU).mono fun e w' ⟨A', c', h1, h2, h3⟩ => ⟨A', c', h1, h2, @After.is_more _ _ h3⟩
    have N3 : Hid (∀ U : World, After w U → Calls Try.prog 26 #[.agg #[.int .i64 k, .int .i64 o, .int .i64 t, .int .i64 v, .string s, .slice A xs.length c]] U fun e w' => ∃ A' c', e = .returned (.slice A' (Tx.nms false (Tx.mk k o t v s A c xs) []).length c') ∧ RSt w' A' c' (Tx.nms false (Tx.mk k o t v s A c xs) []) ∧ ∃ y, w' = U.more y) := Lib.hid fun U hU => (rNames_any (by omega) x.out U hU).mono fun e w' ⟨A', c', h1, h2, h3⟩ => ⟨A', c', h1, h2, @After.is_more _ _ h3⟩
    have N4 : Hid (∀ U : World, After w U → Calls Try.prog 27 #[.agg #[.int .i64 k, .int .i64 o, .int .i64 t, .int .i64 v, .string s, .slice A xs.length c]] U fun e w' => ∃ A' c', e = .returned (.slice A' (Tx.nms true (Tx.mk k o t v s A c xs) []).length c') ∧ RSt w' A' c' (Tx.nms true (Tx.mk k o t v s A c xs) []) ∧ ∃ y, w' = U.more y) := Lib.hid fun U hU => (rInstant_any (by omega) x.out U hU).mono fun e w' ⟨A', c', h1, h2, h3⟩ => ⟨A', c', h1, h2, @After.is_more _ _ h3⟩
    have hl1 := Tx.nms_length false (Tx.mk k o t v s A c xs) []
    have hl2 := Tx.nms_length true (Tx.mk k o t v s A c xs) []
    rw [List.length_nil] at hl1 hl2
    have HSUB : Hid (∀ u ∈ (Tx.nms true (Tx.mk k o t v s A c xs) []), hasB (Tx.nms false (Tx.mk k o t v s A c xs) []) u = true) := Lib.hid fun u hu => inst_names _ u hu
    obtain ⟨l1, hl1_⟩ : ∃ l, (Tx.nms false (Tx.mk k o t v s A c xs) []) = l := ⟨_, rfl⟩
    obtain ⟨l2, hl2_⟩ : ∃ l, (Tx.nms true (Tx.mk k o t v s A c xs) []) = l := ⟨_, rfl⟩
    rw [hl1_] at N1 N3 HSUB hl1
    rw [hl2_] at N2 N4 HSUB hl2
    have hn1 : l1.length ≤ 500 := by omega
    have hn2 : l2.length ≤ 500 := by omega
    clear hl1_ hl2_ hl1 hl2 hs
    obtain ⟨n1, he1⟩ : ∃ n, l1.length = n := ⟨_, rfl⟩
    obtain ⟨n2, he2⟩ : ∃ n, l2.length = n := ⟨_, rfl⟩
    rw [he1] at N1 N3 hn1
    rw [he2] at N2 N4 hn2
    replace he1 := Lib.hid he1
    replace he2 := Lib.hid he2
    go_enter Try.func5, Try.ntmps5
    go_wp2_with fail
    refine (Gives.on GH _ inferInstance).mono ?_
    rintro e w1 ⟨rfl, hy⟩
    have a1 : After (w.alloc (.cells #[.int .i64 k, .int .i64 o, .int .i64 t, .int .i64 v, .string s, .slice A xs.length c] 24)) w1 := after_of_more hy inferInstance
    obtain ⟨aw_w1, le_w1, h0_w1, h1_w1, h2_w1, h3_w1, h4_w1, h5_w1⟩ := HK.out w1 a1
    clear hy GH
    go_wp2_with fail
    go_cut [3, 4] (fun p q wx => ∃ (A1 : Option Addr) (c1 : Nat) (A2 : Option Addr) (c2 : Nat), p = .slice A1 n1 c1 ∧ q = .slice A2 n2 c2 ∧ Hid (RSt wx A1 c1 l1) ∧ Hid (RSt wx A2 c2 l2) ∧ After w1 wx)
    case first =>
      have tk1 : True := trivial
      have tk2 : True := trivial
      have q_ : ∀ V, After w1 V → After (w.alloc (.cells #[.int .i64 k, .int .i64 o, .int .i64 t, .int .i64 v, .string s, .slice A xs.length c] 24)) V := fun V k_ => after_after a1 k_
      go_region_held3 (fun V => V.cell? ⟨w.heap.size, 0, none⟩ = some (.int .i64 k) ∧ V.cell? ⟨w.heap.size, 1, none⟩ = some (.int .i64 o) ∧ V.cell? ⟨w.heap.size, 2, none⟩ = some (.int .i64 t) ∧ V.cell? ⟨w.heap.size, 3, none⟩ = some (.int .i64 v) ∧ V.cell? ⟨w.heap.size, 4, none⟩ = some (.string s) ∧ V.cell? ⟨w.heap.size, 5, none⟩ = some (.slice A xs.length c)) (exact (HK.out _ (q_ _ inferInstance)).2.2)
        (first
          | (have _t := tk1; go_at_call 22; (with_reducible refine (N1.out _ (after_after aw_w1 inferInstance)).mono ?_); rintro e V1 ⟨A1, c1, rfl, hs1, y1, rfl⟩; replace hs1 := Lib.hid hs1; clear _t tk1)
          | (have _t := tk2; go_at_call 23; (with_reducible refine (N2.out _ (after_after aw_w1 inferInstance)).mono ?_); rintro e V2 ⟨A2, c2, rfl, hs2, y2, rfl⟩; replace hs2 := Lib.hid hs2; clear _t tk2))
      all_goals
        go_wp2_with fail
        go_meet
        exact ⟨A1, c1, A2, c2, rfl, rfl, Lib.hid (hs1.out.here _), Lib.hid (hs2.out.here _), inferInstance⟩
    case rest =>
      obtain ⟨A1, c1, A2, c2, rfl, rfl, hs1, hs2, a1c⟩ := hcut
      have a1wc : After (w.alloc (.cells #[.int .i64 k, .int .i64 o, .int .i64 t, .int .i64 v, .string s, .slice A xs.length c] 24)) wc := after_after a1 a1c
      obtain ⟨aw_wc, le_wc, h0_wc, h1_wc, h2_wc, h3_wc, h4_wc, h5_wc⟩ := HK.out wc a1wc
      have HH : Hid (∀ (u : ByteArray) (U : World), After wc U → Calls Try.prog 24 #[.slice A1 n1 c1, .string u] U fun e w' => e = .returned (.bool (hasB l1 u)) ∧ U = w') := Lib.hid fun u U hU => by
        have h_ := has_any hs1.out u U hU
        rwa [he1.out] at h_
      go_wp2_with fail
      go_loopw [5] (fun i wr => ∃ j : Nat, j ≤ n2 ∧ i = .int .i64 (j : Nat) ∧ wc = wr) (fun i _ => n2 - (intOf i).toNat)
      case atStart => exact ⟨0, by omega, rfl, rfl⟩
      case round =>
        obtain ⟨j, hj, rfl, rfl⟩ := hrel
        by_cases hlt : j < n2
        · have hltI : (j : Int) < (n2 : Int) := by omega
          obtain ⟨b, p, u, rfl, hb, hc, HT⟩ := hs2.out.at_ (k := j) (by rw [he2.out]; exact hlt)
          have HB := HH.out u
          rw [HSUB.out u (List.mem_of_getElem? HT.out)] at HB
          replace HB := Lib.hid HB
          go_wp2_with fail
          refine (HB.out _ inferInstance).mono ?_
          rintro e w' ⟨rfl, rfl⟩
          go_wp2_with fail
          go_roundw
          case rel => exact ⟨j + 1, by omega, by go_num, trivial⟩
          case measure => simp [intOf]; omega
        · obtain rfl : j = n2 := by omega
          go_wp2_with fail
          refine (N3.out _ aw_wc).mono ?_
          rintro e w4 ⟨A3, c3, rfl, hs3, hy3⟩
          replace hs3 := Lib.hid hs3
          have a4 : After wc w4 := after_of_more hy3 inferInstance
          clear hy3
          have a4w := after_after a1wc a4
          obtain ⟨aw_w4, le_w4, h0_w4, h1_w4, h2_w4, h3_w4, h4_w4, h5_w4⟩ := HK.out w4 a4w
          have HS1 : Hid (∀ U : World, After w4 U → Calls Try.prog 25 #[.slice A1 n1 c1, .slice A3 n1 c3] U fun e w' => e = .returned (.bool true) ∧ After U w') := Lib.hid fun U hU => by
            have h_ := samenames_any (w0 := w4) (hs1.out.here w4) hs3.out U hU
            rw [he1.out, show samesB l1 l1 = true by unfold samesB; simp] at h_
            exact h_
          go_wp2_with fail
          refine (HS1.out _ inferInstance).mono ?_
          rintro e w5 ⟨rfl, a5⟩
          have a5w := after_after a4w a5
          obtain ⟨aw_w5, le_w5, h0_w5, h1_w5, h2_w5, h3_w5, h4_w5, h5_w5⟩ := HK.out w5 a5w
          go_wp2_with fail
          refine (N4.out _ aw_w5).mono ?_
          rintro e w6 ⟨A4, c4, rfl, hs4, hy4⟩
          replace hs4 := Lib.hid hs4
          have a6 : After w5 w6 := after_of_more hy4 inferInstance
          clear hy4
          have a6w := after_after a5w a6
          have a6c : After wc w6 := after_after a4 (after_after a5 a6)
          have HS2 : Hid (∀ U : World, After w6 U → Calls Try.prog 25 #[.slice A2 j c2, .slice A4 j c4] U fun e w' => e = .returned (.bool true) ∧ After U w') := Lib.hid fun U hU => by
            have h_ := samenames_any (w0 := w6) (hs2.out.here w6) hs4.out U hU
            rw [he2.out, show samesB l2 l2 = true by unfold samesB; simp] at h_
            exact h_
          go_wp2_with fail
          refine (HS2.out _ inferInstance).mono ?_
          rintro e w7 ⟨rfl, a7⟩
          have a7w := after_after a6w a7
          obtain ⟨aw_w7, le_w7, h0_w7, h1_w7, h2_w7, h3_w7, h4_w7, h5_w7⟩ := HK.out w7 a7w
          go_wp2_with fail
          refine (Gives.on GL _ aw_w7).mono ?_
          rintro e w8 ⟨rfl, hy8⟩
          have a8 : After w w8 := after_of_more hy8 aw_w7
          go_wp2_with fail
          go_ret
          exact ⟨rfl, After.is_more _ _⟩

set_option maxRecDepth 100000 in
theorem lifted (os : Os) (started : os.Started) (H : Type) (enc : TypeId × Value → H) :
    ReturnsInHanded {} Try.checked os 5 .any (Rows.exprNamesSpec.pre6 enc Try.prog Try.f5 Rows.exprNamesRow.domain false) (Rows.exprNamesSpec.post enc Try.prog Try.f5 false true false false) := by
  refine returnsInHanded_of_change_sized (C := Try.checked) own started (by kernel_rfl) Try.func5
    (ChangeSpec.witness6 (enc := enc) (C := Try.checked) false ⟨#[], #[.agg #[.int .i64 0, .int .i64 0, .int .i64 0, .int .i64 0, .string ByteArray.empty, .slice none 0 0]], []⟩ 8 (by kernel_rfl) (by kernel_rfl) (by kernel_rfl) (by kernel_rfl)) ?_
  intro W base args ds gs before hval0 hW hcnd hsz0 _
  have hval : ∀ (j : Nat) t v, Try.f5.params[j]? = some t → args[j]? = some v → Value.okWide Try.prog W .any base t v := hval0
  have hsz : (DataW.weightsEach Try.prog (Try.f5.params.toList ++ Rows.exprNamesSpec.plain.varTypes Try.prog) (ds ++ gs)).all (· ≤ reachBytes) = true := hsz0
  have hW' := hW
  obtain ⟨p, q, hA0, hV, rfl, hfz, hnd⟩ := hW
  have hA : DataW.TrodAll enc Try.prog W 0 (fun _ => true) true Try.f5.params.toList args.toList ds p := hA0
  rw [Try.params5] at hA hval hsz
  obtain ⟨v0, vs0, d0, ds0, p0, q0, hargs, rfl, rfl, h0, r0⟩ := trodAll_cons hA
  obtain ⟨rfl, rfl, rfl⟩ := trodAll_nil r0
  obtain rfl : args = #[v0] := by cases args; simp_all
  obtain ⟨rfl, rfl⟩ := trodVars_none hV
  have k0 := h0
  have lt0 : ∀ x ∈ p0, x.block < W.heap.size := by obtain ⟨m, hm⟩ := k0; exact DataW.trod_lt m _ _ _ hm
  have z0 : ∀ n ∈ d0.weights Try.prog 24, n ≤ reachBytes := fun n hn => by
    simpa using List.all_eq_true.1 hsz n (DataW.weights_mem_each (j := 0) (t := 24) rfl rfl n hn)
  obtain ⟨k0_, o0_, t0_, u0_, s0_, A0, c0, xs0, rfl, x0⟩ := open_expr (hval 0 24 v0 rfl rfl) h0 z0
  clear hA0 hval0 hsz0 hsz
  refine (walk W x0).mono fun e W' ⟨he, y, hy⟩ => ?_
  subst he
  have bel : Below W.heap.size W W' := by rw [hy]; exact more_below W y
  exact ⟨_, rfl, _, _, _, [], _, [], hW', trodAll_mk1 (shut_bool Try.underlying4 _), (trodAll_cons_mk (Below.trod laidOut (by kernel_rfl) (of_decide_eq_true (by kernel_rfl)) k0 bel lt0) trodAll_mk0), rfl, bel.frame _, fun h => by cases h⟩

theorem over : Rows.exprNamesRow.holds Try.pinned (OpenSpec.ofChange Rows.exprNamesSpec) :=
  OpenClaim.holds_of_wide 5 Try.f5 rfl rfl rfl rfl rfl rfl rfl ⟨rfl, rfl, rfl, rfl, rfl⟩ rfl rfl rfl rfl rfl (by kernel_rfl) Try.func5 (by kernel_rfl)
    (of_decide_eq_true (by kernel_rfl)) (by unfold Func.isWrapper; first | (rw [if_pos (by decide +kernel)]; kernel_rfl) | (rw [if_neg (by decide +kernel)]; exact ⟨rfl, rfl⟩))
    (fun os started H enc _ => lifted os started H enc)

theorem proved : Rows.ExprNamesSaid := over
#print axioms proved
end Go.Proofs.Ytfoddappedcplaa.exprNames
