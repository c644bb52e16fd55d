/-
  The arguments of an accepted expression are accepted, its names are identifiers, and its words are words; for every expression (of at most 500 expressions, as the law says). No conditions.
-/
import Derived.Test.YtfoddappedcplaaELives
import Derived.Test.YtfoddappedcplaaELift
import Derived.Test.YtfoddappedcplaaEPartF
namespace Go.Proofs.Ytfoddappedcplaa.exprParts
open Go.ChangeShapes Go.WideShapes Go.ChangeAt Go.RowKit Go.BigFrame
set_option linter.unusedVariables false
set_option linter.unusedSimpArgs false

theorem own : ownKnob Try.prog.godebug = none := by kernel_rfl
theorem laidOut : laidOutB Try.prog = true := by kernel_rfl

set_option maxRecDepth 100000 in
set_option maxHeartbeats 6400000 in
theorem walk {k o t v : Int} {s : ByteArray} {A : Option Addr} {c : Nat} {xs : List Tx} (w : World) (x : RX w (.mk k o t v s A c xs)) :
    Calls Try.prog 7 #[.agg #[.int .i64 k, .int .i64 o, .int .i64 t, .int .i64 v, .string s, .slice A xs.length c]] w fun e w' => e = .returned (.bool true) ∧ ∃ y, w' = w.more y := by
  replace x := Lib.hid x
  have GL : Gives w 11 #[] (.bool true) := fun U hU => (lives_any U).mono fun e w' h => ⟨h.1, @After.is_more _ _ h.2⟩
  have HK : Hid (∀ U : World, After (w.alloc (.cells #[.int .i64 k, .int .i64 o, .int .i64 t, .int .i64 v, .string s, .slice A xs.length c] 24)) U → After w U ∧ Le (w.heap.size + 1) U ∧ U.cell? ⟨w.heap.size, 0, none⟩ = some (.int .i64 k) ∧ U.cell? ⟨w.heap.size, 1, none⟩ = some (.int .i64 o) ∧ U.cell? ⟨w.heap.size, 2, none⟩ = some (.int .i64 t) ∧ U.cell? ⟨w.heap.size, 3, none⟩ = some (.int .i64 v) ∧ U.cell? ⟨w.heap.size, 4, none⟩ = some (.string s) ∧ U.cell? ⟨w.heap.size, 5, none⟩ = some (.slice A xs.length c)) := Lib.hid fun U hU => by
    have f_ := (Blk.new w 24 #[.int .i64 k, .int .i64 o, .int .i64 t, .int .i64 v, .string s, .slice A xs.length c]).after (w' := U)
    exact ⟨after_after inferInstance hU, f_.is_le, (f_.cell 0).trans rfl, (f_.cell 1).trans rfl, (f_.cell 2).trans rfl, (f_.cell 3).trans rfl, (f_.cell 4).trans rfl, (f_.cell 5).trans rfl⟩
  cases hv : heavyB (Tx.mk k o t v s A c xs) with
  | true =>
    have GH : Gives w 10 #[.agg #[.int .i64 k, .int .i64 o, .int .i64 t, .int .i64 v, .string s, .slice A xs.length c]] (.bool true) := fun U hU => (hv ▸ heavy_any x.out U hU).mono fun e w' h => ⟨h.1, @After.is_more _ _ h.2⟩
    go_enter Try.func7, Try.ntmps7
    go_wp2_with fail
    refine (Gives.on GH _ inferInstance).mono ?_
    rintro e w1 ⟨rfl, hy⟩
    have a1 : After (w.alloc (.cells #[.int .i64 k, .int .i64 o, .int .i64 t, .int .i64 v, .string s, .slice A xs.length c] 24)) w1 := after_of_more hy inferInstance
    obtain ⟨aw_w1, le_w1, h0_w1, h1_w1, h2_w1, h3_w1, h4_w1, h5_w1⟩ := HK.out w1 a1
    clear hy
    go_wp2_with fail
    refine (Gives.on GL _ inferInstance).mono ?_
    rintro e w2 ⟨rfl, hy2⟩
    have al2 : After w w2 := after_of_more hy2 inferInstance
    go_wp2_with fail
    go_ret
    exact ⟨rfl, After.is_more _ _⟩
  | false =>
    have hs : (Tx.mk k o t v s A c xs).size ≤ 500 := by unfold heavyB at hv; simpa using hv
    have GH : Gives w 10 #[.agg #[.int .i64 k, .int .i64 o, .int .i64 t, .int .i64 v, .string s, .slice A xs.length c]] (.bool false) := fun U hU => (hv ▸ heavy_any x.out U hU).mono fun e w' h => ⟨h.1, @After.is_more _ _ h.2⟩
    clear hv
    obtain ⟨z, hz⟩ : ∃ z, chkI (Tx.mk k o t v s A c xs) = z := ⟨_, rfl⟩
    have GC : Gives w 12 #[.agg #[.int .i64 k, .int .i64 o, .int .i64 t, .int .i64 v, .string s, .slice A xs.length c]] (.int .i64 z) := fun U hU => (hz ▸ chk_any (by omega) x.out U hU).mono fun e w' h => ⟨h.1, @After.is_more _ _ h.2⟩
    by_cases h0 : z = 0
    rotate_left
    · have h0B : (z != 0) = true := by simpa using h0
      replace h0 := Lib.hid h0
      go_enter Try.func7, Try.ntmps7
      go_wp2_with fail
      refine (Gives.on GH _ inferInstance).mono ?_
      rintro e w1 ⟨rfl, hy⟩
      have a1 : After (w.alloc (.cells #[.int .i64 k, .int .i64 o, .int .i64 t, .int .i64 v, .string s, .slice A xs.length c] 24)) w1 := after_of_more hy inferInstance
      obtain ⟨aw_w1, le_w1, h0_w1, h1_w1, h2_w1, h3_w1, h4_w1, h5_w1⟩ := HK.out w1 a1
      clear hy
      go_wp2_with fail
      refine (Gives.on GC _ inferInstance).mono ?_
      rintro e w2 ⟨rfl, hy⟩
      have a2 : After w w2 := after_of_more hy inferInstance
      clear hy
      go_wp2_with fail
      refine (Gives.on GL _ inferInstance).mono ?_
      rintro e w3 ⟨rfl, hy3⟩
      have al3 : After w w3 := after_of_more hy3 inferInstance
      go_wp2_with fail
      go_ret
      exact ⟨rfl, After.is_more _ _⟩
    subst h0
    have HARG : Hid (∀ y ∈ xs, chkI y = 0) := Lib.hid fun y hy => chk_arg hz y hy
    have hl4 : (Tx.mk k o t v s A c xs).list.length ≤ 400 := by rw [Tx.list_length]; exact chk_size hz
    have HALL : Hid (∀ y ∈ (Tx.mk k o t v s A c xs).list, errOf y = 0) := Lib.hid (chk_all hz)
    have HXA : Hid (∀ y ∈ (Tx.mk k o t v s A c xs).list, RX w y) := Lib.hid x.out.list
    have HLS : Hid (∀ U : World, After w U → Calls Try.prog 29 #[.agg #[.int .i64 k, .int .i64 o, .int .i64 t, .int .i64 v, .string s, .slice A xs.length c]] U fun e w' => ∃ A' c', e = .returned (.slice A' (Tx.mk k o t v s A c xs).list.length c') ∧ RX w' (rowX A' c' (Tx.mk k o t v s A c xs).list) ∧ After U w') := Lib.hid fun U hU => rList_any (by omega) x.out U hU
    have hxl : xs.length ≤ 500 := by have := Tx.args_length_le (Tx.mk k o t v s A c xs); simp only [Tx.args] at this; omega
    obtain ⟨l, hl⟩ : ∃ l, (Tx.mk k o t v s A c xs).list = l := ⟨_, rfl⟩
    rw [hl] at HALL HXA HLS hl4
    clear hl hz
    obtain ⟨n2, hn2⟩ : ∃ n, l.length = n := ⟨_, rfl⟩
    rw [hn2] at HLS hl4
    have HN2 := Lib.hid hn2
    clear hn2
    obtain ⟨n, hn⟩ : ∃ n, xs.length = n := ⟨_, rfl⟩
    have HN := Lib.hid hn
    rw [hn] at hxl HLS
    clear hn
    go_enter Try.func7, Try.ntmps7
    go_wp2_with fail
    refine (Gives.on GH _ inferInstance).mono ?_
    rintro e w1 ⟨rfl, hy⟩
    have a1 : After (w.alloc (.cells #[.int .i64 k, .int .i64 o, .int .i64 t, .int .i64 v, .string s, .slice A xs.length c] 24)) w1 := after_of_more hy inferInstance
    obtain ⟨aw_w1, le_w1, h0_w1, h1_w1, h2_w1, h3_w1, h4_w1, h5_w1⟩ := HK.out w1 a1
    clear hy
    go_wp2_with fail
    refine (Gives.on GC _ inferInstance).mono ?_
    rintro e w2 ⟨rfl, hy⟩
    have a2 : After (w.alloc (.cells #[.int .i64 k, .int .i64 o, .int .i64 t, .int .i64 v, .string s, .slice A xs.length c] 24)) w2 := after_of_more hy (after_after a1 inferInstance)
    clear hy
    obtain ⟨aw_w2, le_w2, h0_w2, h1_w2, h2_w2, h3_w2, h4_w2, h5_w2⟩ := HK.out w2 a2
    rw [HN.out] at h5_w2
    go_wp2_with fail
    go_loopw [3] (fun i wr => ∃ j : Nat, j ≤ n ∧ i = .int .i64 (j : Nat) ∧ After w2 wr) (fun i _ => n - (intOf i).toNat)
    case atStart => exact ⟨0, by omega, rfl, inferInstance⟩
    case round =>
      obtain ⟨j, hj, rfl, ar⟩ := hrel
      have a2r := after_after a2 ar
      obtain ⟨aw_wr, le_wr, h0_wr, h1_wr, h2_wr, h3_wr, h4_wr, h5_wr⟩ := HK.out wr a2r
      rw [HN.out] at h5_wr
      by_cases hlt_ : j < n
      · have hltI : (j : Int) < (n : Int) := by omega
        have hlt : j < xs.length := by rw [HN.out]; exact hlt_
        obtain ⟨b, p, k1, o1, t1, v1, s1, A1, c1, xs1, rfl, hb1, HX1, HR1, e0, e1, e2, e3, e4, e5⟩ := (x.out.here wr).part (i := j) hlt
        have hme := Tx.sizes_mem HX1.out
        have hsz1 : (Tx.mk k1 o1 t1 v1 s1 A1 c1 xs1).size ≤ 500 := by rw [Tx.size] at hs; omega
        have HC : Gives wr 12 #[.agg #[.int .i64 k1, .int .i64 o1, .int .i64 t1, .int .i64 v1, .string s1, .slice A1 xs1.length c1]] (.int .i64 0) := fun U hU => by
          have h := chk_any (by omega) HR1.out U hU
          rw [HARG.out _ (List.mem_of_getElem? HX1.out)] at h
          exact h.mono fun e w' h => ⟨h.1, @After.is_more _ _ h.2⟩
        clear hme
        go_wp2_with fail
        refine (Gives.on HC _ inferInstance).mono ?_
        rintro e w3 ⟨rfl, hy⟩
        have a3 : After w2 w3 := after_of_more hy (after_after ar inferInstance)
        clear hy
        go_wp2_with fail
        go_roundw
        case rel => exact ⟨j + 1, by omega, by go_num, a3⟩
        case measure => simp [intOf]; omega
      · obtain rfl : j = n := by omega
        go_wp2_with fail
        refine (HLS.out _ aw_wr).mono ?_
        rintro e w4 ⟨A4, c4, rfl, hx4, k4⟩
        replace hx4 := Lib.hid hx4
        have a4 : After w w4 := after_after aw_wr k4
        clear k4
        have hl4I : ¬ (400 : Int) < (n2 : Int) := by omega
        go_wp2_with fail
        go_loopw [5] (fun i wx => ∃ j : Nat, j ≤ n2 ∧ i = .int .i64 (j : Nat) ∧ After w4 wx) (fun i _ => n2 - (intOf i).toNat)
        case atStart => exact ⟨0, by omega, rfl, inferInstance⟩
        case round =>
          obtain ⟨j2, hj2, rfl, ax⟩ := hrel
          have awx : After w wr := after_after a4 ax
          by_cases hlt2_ : j2 < n2
          · have hlt2I : (j2 : Int) < (n2 : Int) := by omega
            have hlt2 : j2 < l.length := by rw [HN2.out]; exact hlt2_
            obtain ⟨b, p, k1, o1, t1, v1, s1, A1, c1, xs1, rfl, hb1, HX1, HR1, e0, e1, e2, e3, e4, e5⟩ := (hx4.out.here wr).part (i := j2) hlt2
            have HE := Lib.hid (HALL.out _ (List.mem_of_getElem? HX1.out))
            have hsb := HR1.out.bounds.1
            simp only [Tx.name] at hsb
            have HNm : Hid (∀ U : World, Calls Try.prog 31 #[.int .i64 k1] U fun e w' => e = .returned (.bool (fN k1)) ∧ U = w') := Lib.hid fun U => named_any k1 U
            have HIDT : Hid (fN k1 = true → identB s1 = true) := Lib.hid fun h => err_ident HE.out h
            have HId : Hid (∀ U : World, Calls Try.prog 32 #[.string s1] U fun e w' => e = .returned (.bool (identB s1)) ∧ After U w') := Lib.hid fun U => ident_any s1 hsb U
            have HWD : Hid (k1 = 11 → (parseV s1.data.toList).2 = 0) := Lib.hid fun h => err_word HE.out h
            have HPr : Hid (∀ U : World, Calls Try.prog 33 #[.string s1] U fun e w' => ∃ A c B d, e = .returned (.tuple #[.agg #[.slice A (parseV s1.data.toList).1.1.length c, .slice B (parseV s1.data.toList).1.2.length d], .int .i64 (parseV s1.data.toList).2]) ∧ After U w') := Lib.hid fun U => (parse_any s1 U hsb).mono fun e w' ⟨A, c, B, d, h1, h2, y, h3⟩ => ⟨A, c, B, d, h1, by rw [h3]; infer_instance⟩
            obtain ⟨pf, hpf⟩ : ∃ z, (parseV s1.data.toList).2 = z := ⟨_, rfl⟩
            rw [hpf] at HPr HWD
            clear hpf
            obtain ⟨nb, hnb⟩ : ∃ nb, fN k1 = nb := ⟨_, rfl⟩
            rw [hnb] at HNm HIDT
            clear hnb
            clear HE HX1 HR1
            go_wp2_with fail
            refine (HNm.out _).mono ?_
            rintro _ _ ⟨rfl, rfl⟩
            cases nb with
            | false =>
              go_wp2_with fail
              refine (HPr.out _).mono ?_
              rintro e w6 ⟨A6, c6, B6, d6, rfl, k6⟩
              have a6 : After w4 w6 := after_after (after_after ax inferInstance) k6
              have k6' : After wr w6 := after_after inferInstance k6
              have i0 := cell_keep k6' e0
              have hb6 : Le (b + 1) w6 := le_keep k6'
              clear k6 k6'
              by_cases h11 : k1 = 11
              · have hpf0 : pf = 0 := HWD.out h11
                subst hpf0
                have h11B : (k1 == 11) = true := by simpa using h11
                replace h11 := Lib.hid h11
                go_wp2_with fail
                go_roundw
                case rel => exact ⟨j2 + 1, by omega, by go_num, after_after a6 inferInstance⟩
                case measure => simp [intOf]; omega
              · have h11B : (k1 == 11) = false := by simpa using h11
                replace h11 := Lib.hid h11
                go_wp2_with fail
                go_roundw
                case rel => exact ⟨j2 + 1, by omega, by go_num, after_after a6 inferInstance⟩
                case measure => simp [intOf]; omega
            | true =>
              rw [HIDT.out rfl] at HId
              go_wp2_with fail
              refine (HId.out _).mono ?_
              rintro _ w5 ⟨rfl, k5⟩
              have k5' : After wr w5 := after_after inferInstance k5
              have f0 := cell_keep k5' e0
              have f1 := cell_keep k5' e1
              have f2 := cell_keep k5' e2
              have f3 := cell_keep k5' e3
              have f4 := cell_keep k5' e4
              have f5 := cell_keep k5' e5
              have hb5 : Le (b + 1) w5 := le_keep k5'
              have ax5 : After w4 w5 := after_after ax k5'
              clear k5 k5' e0 e1 e2 e3 e4 e5
              go_wp2_with fail
              refine (HPr.out _).mono ?_
              rintro e w6 ⟨A6, c6, B6, d6, rfl, k6⟩
              have a6 : After w4 w6 := after_after (after_after ax5 inferInstance) k6
              have k6' : After w5 w6 := after_after inferInstance k6
              have i0 := cell_keep k6' f0
              have hb6 : Le (b + 1) w6 := le_keep k6'
              clear k6 k6'
              by_cases h11 : k1 = 11
              · have hpf0 : pf = 0 := HWD.out h11
                subst hpf0
                have h11B : (k1 == 11) = true := by simpa using h11
                replace h11 := Lib.hid h11
                go_wp2_with fail
                go_roundw
                case rel => exact ⟨j2 + 1, by omega, by go_num, after_after a6 inferInstance⟩
                case measure => simp [intOf]; omega
              · have h11B : (k1 == 11) = false := by simpa using h11
                replace h11 := Lib.hid h11
                go_wp2_with fail
                go_roundw
                case rel => exact ⟨j2 + 1, by omega, by go_num, after_after a6 inferInstance⟩
                case measure => simp [intOf]; omega
          · obtain rfl : j2 = n2 := by omega
            go_wp2_with fail
            refine (Gives.on GL _ awx).mono ?_
            rintro e w8 ⟨rfl, hy8⟩
            have al8 : After w w8 := after_of_more hy8 awx
            go_wp2_with fail
            go_ret
            exact ⟨rfl, After.is_more _ _⟩

set_option maxRecDepth 100000 in
theorem lifted (os : Os) (started : os.Started) (H : Type) (enc : TypeId × Value → H) :
    ReturnsInHanded {} Try.checked os 7 .any (Rows.exprPartsSpec.pre6 enc Try.prog Try.f7 Rows.exprPartsRow.domain false) (Rows.exprPartsSpec.post enc Try.prog Try.f7 false true false false) := by
  refine returnsInHanded_of_change_sized (C := Try.checked) own started (by kernel_rfl) Try.func7
    (ChangeSpec.witness6 (enc := enc) (C := Try.checked) false ⟨#[], #[.agg #[.int .i64 0, .int .i64 0, .int .i64 0, .int .i64 0, .string ByteArray.empty, .slice none 0 0]], []⟩ 8 (by kernel_rfl) (by kernel_rfl) (by kernel_rfl) (by kernel_rfl)) ?_
  intro W base args ds gs before hval0 hW hcnd hsz0 _
  have hval : ∀ (j : Nat) t v, Try.f7.params[j]? = some t → args[j]? = some v → Value.okWide Try.prog W .any base t v := hval0
  have hsz : (DataW.weightsEach Try.prog (Try.f7.params.toList ++ Rows.exprPartsSpec.plain.varTypes Try.prog) (ds ++ gs)).all (· ≤ reachBytes) = true := hsz0
  have hW' := hW
  obtain ⟨p, q, hA0, hV, rfl, hfz, hnd⟩ := hW
  have hA : DataW.TrodAll enc Try.prog W 0 (fun _ => true) true Try.f7.params.toList args.toList ds p := hA0
  rw [Try.params7] at hA hval hsz
  obtain ⟨v0, vs0, d0, ds0, p0, q0, hargs, rfl, rfl, h0, r0⟩ := trodAll_cons hA
  obtain ⟨rfl, rfl, rfl⟩ := trodAll_nil r0
  obtain rfl : args = #[v0] := by cases args; simp_all
  obtain ⟨rfl, rfl⟩ := trodVars_none hV
  have k0 := h0
  have lt0 : ∀ x ∈ p0, x.block < W.heap.size := by obtain ⟨m, hm⟩ := k0; exact DataW.trod_lt m _ _ _ hm
  have z0 : ∀ n ∈ d0.weights Try.prog 24, n ≤ reachBytes := fun n hn => by
    simpa using List.all_eq_true.1 hsz n (DataW.weights_mem_each (j := 0) (t := 24) rfl rfl n hn)
  obtain ⟨k0_, o0_, t0_, u0_, s0_, A0, c0, xs0, rfl, x0⟩ := open_expr (hval 0 24 v0 rfl rfl) h0 z0
  clear hA0 hval0 hsz0 hsz
  refine (walk W x0).mono fun e W' ⟨he, y, hy⟩ => ?_
  subst he
  have bel : Below W.heap.size W W' := by rw [hy]; exact more_below W y
  exact ⟨_, rfl, _, _, _, [], _, [], hW', trodAll_mk1 (shut_bool Try.underlying4 _), (trodAll_cons_mk (Below.trod laidOut (by kernel_rfl) (of_decide_eq_true (by kernel_rfl)) k0 bel lt0) trodAll_mk0), rfl, bel.frame _, fun h => by cases h⟩

theorem over : Rows.exprPartsRow.holds Try.pinned (OpenSpec.ofChange Rows.exprPartsSpec) :=
  OpenClaim.holds_of_wide 7 Try.f7 rfl rfl rfl rfl rfl rfl rfl ⟨rfl, rfl, rfl, rfl, rfl⟩ rfl rfl rfl rfl rfl (by kernel_rfl) Try.func7 (by kernel_rfl)
    (of_decide_eq_true (by kernel_rfl)) (by unfold Func.isWrapper; first | (rw [if_pos (by decide +kernel)]; kernel_rfl) | (rw [if_neg (by decide +kernel)]; exact ⟨rfl, rfl⟩))
    (fun os started H enc _ => lifted os started H enc)

theorem proved : Rows.ExprPartsSaid := over
#print axioms proved
end Go.Proofs.Ytfoddappedcplaa.exprParts
