/-
  Contracts: the reference's Count, Stateless (printed by gen_rk.py).
-/
/-
  Contracts of the reference: enumeration, decl, decls, equation, transitions (printed by gen_rk.py).
-/
import Derived.Test.YtdghfhnkacfahaaGreatERChk
import Derived.Test.YtdghfhnkacfahaaGreatEStl
import Derived.Test.YtdghfhnkacfahaaGreatECount
import Derived.Test.YtdghfhnkacfahaaGreatSLk
import Derived.Test.YtdghfhnkacfahaaGreatSExB
import Derived.Test.YtdghfhnkacfahaaGreatELift
set_option linter.unusedVariables false
set_option linter.unusedSimpArgs false
namespace Go.Proofs.YtdghfhnkacfahaaGreat
open Go.RowKit Go.BigFrame

set_option maxHeartbeats 1600000 in
theorem rcount_any {k o t v : Int} {s : ByteArray} {A : Option Addr} {c : Nat} {xs : List Tx} {w0 : World} (hs : (Tx.mk k o t v s A c xs).size ≤ 2000000) (x : RX w0 (.mk k o t v s A c xs)) (q : Int) (w : World) (aft : After w0 w) :
    Calls Tryz.prog 106 #[.agg #[.int .i64 k, .int .i64 o, .int .i64 t, .int .i64 v, .string s, .slice A xs.length c], .int .i64 q] w fun e w' => e = .returned (.int .i64 (kindsN (Tx.mk k o t v s A c xs).list q : Nat)) ∧ After w w' := by
  have HL : Hid (∀ U, After w0 U → Calls Tryz.prog 79 #[.agg #[.int .i64 k, .int .i64 o, .int .i64 t, .int .i64 v, .string s, .slice A xs.length c]] U fun e w' => ∃ A' c', e = .returned (.slice A' (Tx.mk k o t v s A c xs).list.length c') ∧ RX w' (rowX A' c' (Tx.mk k o t v s A c xs).list) ∧ After U w') := Lib.hid fun U hU => rList_any hs x U hU
  have hll : (Tx.mk k o t v s A c xs).list.length ≤ 2000000 := by rw [Tx.list_length]; exact hs
  obtain ⟨l, hl⟩ : ∃ l, (Tx.mk k o t v s A c xs).list = l := ⟨_, rfl⟩
  rw [hl] at HL hll ⊢
  clear hl hs
  obtain ⟨n, hn⟩ : ∃ n, l.length = n := ⟨_, rfl⟩
  rw [hn] at HL hll
  go_enter Tryz.func106, Tryz.ntmps106
  go_wp2_with fail
  refine (HL.out _ (after_after aft inferInstance)).mono ?_
  rintro e w1 ⟨A1, c1, rfl, h1, a1⟩
  replace h1 := Lib.hid h1
  have aw1 : After w w1 := after_after inferInstance a1
  clear a1 HL
  go_wp2_with fail
  go_loopw [5, 7] (fun m i wr => ∃ j : Nat, j ≤ n ∧ i = .int .i64 (j : Nat) ∧ m = .int .i64 ((kindsN (l.take j) q : Nat) : Int) ∧ w1 = wr) (fun _ i _ => n - (intOf i).toNat)
  case atStart => exact ⟨0, by omega, rfl, by simp [kindsN], rfl⟩
  case round =>
    obtain ⟨j, hj, rfl, rfl, rfl⟩ := hrel
    have hkl := kindsN_le (l.take j) q
    rw [List.length_take] at hkl
    by_cases hlt : j < n
    · have hltI : (j : Int) < (n : Int) := by omega
      have hlt2 : j < l.length := by omega
      obtain ⟨b, p, k1, o1, t1, v1, s1, A2, c2, xs1, rfl, hb1, HX1, HR1, e0, e1, e2, e3, e4, e5⟩ := h1.out.part (i := j) hlt2
      have HST : Hid (kindsN (l.take (j + 1)) q = kindsN (l.take j) q + if k1 == q then 1 else 0) := Lib.hid (by rw [Tx.take_succ HX1.out, kindsN_snoc]; rfl)
      obtain ⟨z, hz⟩ : ∃ z, kindsN (l.take j) q = z := ⟨_, rfl⟩
      rw [hz] at HST hkl ⊢
      clear hz
      by_cases hk : k1 = q
      · have hkB : (k1 == q) = true := by simpa using hk
        rw [hkB] at HST
        go_wp2_with fail
        go_roundw
        case rel => exact ⟨j + 1, by omega, by go_num, by rw [HST.out]; go_num, trivial⟩
        case measure => simp [intOf]; omega
      · have hkB : (k1 == q) = false := by simpa using hk
        rw [hkB] at HST
        go_wp2_with fail
        go_roundw
        case rel => exact ⟨j + 1, by omega, by go_num, by rw [HST.out]; go_num, trivial⟩
        case measure => simp [intOf]; omega
    · obtain rfl : j = n := by omega
      rw [← hn, List.take_length] at *
      go_wp2_with fail
      go_ret
      exact ⟨rfl, aw1⟩

theorem stateless_kinds (l : List Tx) : stateless l = decide (kindsN l 5 + kindsN l 6 + kindsN l 7 + kindsN l 10 + kindsN l 11 = 0) := by
  induction l with
  | nil => rfl
  | cons e l ih =>
    have h : ∀ q, kindsN (e :: l) q = (if e.kind == q then 1 else 0) + kindsN l q := fun q => by
      have := kindsN_snoc [] e q
      unfold kindsN at *
      rw [List.filter_cons]
      split <;> simp_all <;> omega
    rw [show stateless (e :: l) = (!dk e.kind && stateless l) from rfl, ih, h, h, h, h, h]
    unfold dk
    apply Bool.eq_iff_iff.2
    by_cases h5 : e.kind = 5
    · simp [h5]
    by_cases h6 : e.kind = 6
    · simp [h6]
    by_cases h7 : e.kind = 7
    · simp [h7]
    by_cases h10 : e.kind = 10
    · simp [h10]
    by_cases h11 : e.kind = 11
    · simp [h11]
    simp [h5, h6, h7, h10, h11]
set_option maxHeartbeats 1600000 in
theorem rstateless_any {k o t v : Int} {s : ByteArray} {A : Option Addr} {c : Nat} {xs : List Tx} {w0 : World} (hs : (Tx.mk k o t v s A c xs).size ≤ 2000000) (x : RX w0 (.mk k o t v s A c xs)) (w : World) (aft : After w0 w) :
    Calls Tryz.prog 94 #[.agg #[.int .i64 k, .int .i64 o, .int .i64 t, .int .i64 v, .string s, .slice A xs.length c]] w fun e w' => e = .returned (.bool (stateless (Tx.mk k o t v s A c xs).list)) ∧ After w w' := by
  have HC : Hid (∀ (q : Int) (U : World), After w0 U → Calls Tryz.prog 106 #[.agg #[.int .i64 k, .int .i64 o, .int .i64 t, .int .i64 v, .string s, .slice A xs.length c], .int .i64 q] U fun e w' => e = .returned (.int .i64 (kindsN (Tx.mk k o t v s A c xs).list q : Nat)) ∧ ∃ y, w' = U.more y) := Lib.hid fun q U hU => (rcount_any hs x q U hU).mono fun e w' h => ⟨h.1, @After.is_more _ _ h.2⟩
  have hll : (Tx.mk k o t v s A c xs).list.length ≤ 2000000 := by rw [Tx.list_length]; exact hs
  have HV := Lib.hid (stateless_kinds (Tx.mk k o t v s A c xs).list)
  have l5 := kindsN_le (Tx.mk k o t v s A c xs).list 5
  have l6 := kindsN_le (Tx.mk k o t v s A c xs).list 6
  have l7 := kindsN_le (Tx.mk k o t v s A c xs).list 7
  have l10 := kindsN_le (Tx.mk k o t v s A c xs).list 10
  have l11 := kindsN_le (Tx.mk k o t v s A c xs).list 11
  obtain ⟨l, hl⟩ : ∃ l, (Tx.mk k o t v s A c xs).list = l := ⟨_, rfl⟩
  rw [hl] at HC HV hll l5 l6 l7 l10 l11 ⊢
  clear hl hs
  have G5 := Lib.hid (HC.out 5)
  have G6 := Lib.hid (HC.out 6)
  have G7 := Lib.hid (HC.out 7)
  have G10 := Lib.hid (HC.out 10)
  have G11 := Lib.hid (HC.out 11)
  clear HC
  obtain ⟨n5, h5⟩ : ∃ n, kindsN l 5 = n := ⟨_, rfl⟩
  obtain ⟨n6, h6⟩ : ∃ n, kindsN l 6 = n := ⟨_, rfl⟩
  obtain ⟨n7, h7⟩ : ∃ n, kindsN l 7 = n := ⟨_, rfl⟩
  obtain ⟨n10, h10⟩ : ∃ n, kindsN l 10 = n := ⟨_, rfl⟩
  obtain ⟨n11, h11⟩ : ∃ n, kindsN l 11 = n := ⟨_, rfl⟩
  rw [h5] at G5 HV l5
  rw [h6] at G6 HV l6
  rw [h7] at G7 HV l7
  rw [h10] at G10 HV l10
  rw [h11] at G11 HV l11
  clear h5 h6 h7 h10 h11
  have w1_ : IntKind.i64.wrap ((n5 : Int) + (n6 : Int)) = (n5 : Int) + (n6 : Int) := IntWalk.i64_in _ (by omega)
  have w2_ : IntKind.i64.wrap ((n5 : Int) + (n6 : Int) + (n7 : Int)) = (n5 : Int) + (n6 : Int) + (n7 : Int) := IntWalk.i64_in _ (by omega)
  have w3_ : IntKind.i64.wrap ((n5 : Int) + (n6 : Int) + (n7 : Int) + (n10 : Int)) = (n5 : Int) + (n6 : Int) + (n7 : Int) + (n10 : Int) := IntWalk.i64_in _ (by omega)
  have w4_ : IntKind.i64.wrap ((n5 : Int) + (n6 : Int) + (n7 : Int) + (n10 : Int) + (n11 : Int)) = (n5 : Int) + (n6 : Int) + (n7 : Int) + (n10 : Int) + (n11 : Int) := IntWalk.i64_in _ (by omega)
  go_enter Tryz.func94, Tryz.ntmps94
  go_wp2_with fail
  refine wp_region_more (by kernel_rfl) (by kernel_rfl) ?_
  repeat (go_big_quiet_step ((go_at_call 106; with_reducible (first | exact Calls.more_of (G5.out _ (after_after aft inferInstance)) | exact Calls.more_of (G6.out _ (after_after aft inferInstance)) | exact Calls.more_of (G7.out _ (after_after aft inferInstance)) | exact Calls.more_of (G10.out _ (after_after aft inferInstance)) | exact Calls.more_of (G11.out _ (after_after aft inferInstance))))))
  refine wpQuiet_nil ?_
  rintro _ ⟨y, rfl⟩
  go_wp2_with fail
  go_ret
  exact ⟨ret_bool (by rw [HV.out]; apply Bool.eq_iff_iff.2; simp; omega), inferInstance⟩

end Go.Proofs.YtdghfhnkacfahaaGreat
set_option linter.unusedVariables false
set_option linter.unusedSimpArgs false
namespace Go.Proofs.YtdghfhnkacfahaaGreat
open Go.RowKit Go.BigFrame

set_option maxRecDepth 100000 in
set_option maxHeartbeats 3200000 in
theorem renum_any {w0 : World} {nm : ByteArray} {tA : Option Addr} {tc : Nat} {tl : List ByteArray} (hs : nm.size ≤ 140737488355328) (hx : RowOf 1 PStr w0 ⟨tA, tc, tl⟩) (w : World) (hw : After w0 w) :
    Calls Tryz.prog 15 #[.agg #[.string nm, .slice tA tl.length tc]] w fun e w' => e = .returned (.int .i64 (enumE ⟨nm, ⟨tA, tc, tl⟩⟩)) ∧ After w w' := by
  obtain ⟨R, hR⟩ : ∃ R, enumE ⟨nm, ⟨tA, tc, tl⟩⟩ = R := ⟨_, rfl⟩
  have HV0 : Hid (R = ore (identE nm) (ore (limE (decide ((0 : Int) < (tl.length : Int))) 8) (ore (limE (decide ((tl.length : Int) ≤ 16)) 3) (ore (firstE identE tl) 0)))) := by
    show _ = _
    rw [← hR]
    rw [ore_zero]; rfl
  rw [hR]
  clear hR
  have HX0 := Lib.hid hx
  have hbl := hx.len
  simp only [] at hbl
  clear hx
  obtain ⟨gb, hgb⟩ : ∃ g, w.heap.size = g := ⟨_, rfl⟩
  obtain ⟨W1, hW1, a1, HK⟩ : ∃ W, w.alloc (.cells #[.string nm, .slice tA tl.length tc] 45) = W ∧ After w W ∧ Hid (∀ U : World, After W U → U.cell? ⟨gb, 0, none⟩ = some (.string nm) ∧ U.cell? ⟨gb, 1, none⟩ = some (.slice tA tl.length tc) ∧ Le (gb + 1) U) := by
    refine ⟨_, rfl, inferInstance, fun U hU => ?_⟩
    have y0 := (Blk.new w 45 #[.string nm, .slice tA tl.length tc]).after (w' := U)
    rw [hgb] at y0
    exact ⟨(y0.cell 0).trans rfl, (y0.cell 1).trans rfl, y0.is_le⟩
  obtain ⟨k0, k1, kl⟩ := HK.out W1 (after_refl _)
  have dBW1 := a1
  go_enter Tryz.func15, Tryz.ntmps15
  replace HV0 := Lib.hid (HV0.out.trans (congrArg (fun z => ore z _) (show identE nm = limE (identB nm) 6 from rfl)))
  obtain ⟨b2, hb2⟩ : ∃ b, (identB nm) = b := ⟨_, rfl⟩
  have G2 : Gives W1 31 #[.string nm] (.bool b2) := fun U hU => (hb2 ▸ rident_any nm hs U).mono fun e w' h => ⟨h.1, @After.is_more _ _ h.2⟩
  rw [hb2] at HV0
  clear hb2
  go_wp2_with fail
  try rw [hW1]
  try rw [hgb]
  clear hW1 hgb
  refine (Gives.on G2 _ inferInstance).mono ?_
  rintro e w3 ⟨rfl, hy_⟩
  have c3_ : After W1 w3 := after_of_more hy_ inferInstance
  clear hy_
  have d3 : After w w3 := after_after a1 c3_
  have b3 : After W1 w3 := after_after (after_refl W1) c3_
  clear k0 k1 kl
  obtain ⟨k0, k1, kl⟩ := HK.out w3 (b3)
  cases b2 with
  | false =>
    have HX : Hid (R = 6) := Lib.hid (HV0.out.trans (ore_no (by decide)))
    have HE : Hid (R = 6) := HX
    go_wp2_with fail
    go_ret
    exact ⟨by rw [HE.out] <;> rfl, d3⟩
  | true =>
    replace HV0 := Lib.hid (HV0.out.trans (ore_yes rfl))
    clear G2
    by_cases hc4 : (0 : Int) < (tl.length : Int)
    rotate_left
    · have hzB_ : ((tl.length : Int) == 0) = true := by rw [beq_iff_eq]; omega
      have HX : Hid (R = 8) := Lib.hid (HV0.out.trans ((congrArg (fun b => ore (limE b 8) _) (decide_eq_false hc4)).trans (ore_no (show limE false 8 ≠ 0 by decide))))
      have HE : Hid (R = 8) := HX
      go_wp2_with fail
      go_ret
      exact ⟨by rw [HE.out] <;> rfl, d3⟩
    replace HV0 := Lib.hid (HV0.out.trans ((congrArg (fun b => ore (limE b 8) _) (decide_eq_true hc4)).trans (ore_yes (show limE true 8 = 0 from rfl))))
    have hzB_ : ((tl.length : Int) == 0) = false := by rw [beq_eq_false_iff_ne]; omega
    by_cases hc5 : (tl.length : Int) ≤ 16
    rotate_left
    · have hy_ : (16 : Int) < (tl.length : Int) := by omega
      have hy2_ : 16 < tl.length := by omega
      have HX : Hid (R = 3) := Lib.hid (HV0.out.trans ((congrArg (fun b => ore (limE b 3) _) (decide_eq_false hc5)).trans (ore_no (show limE false 3 ≠ 0 by decide))))
      have HE : Hid (R = 3) := HX
      go_wp2_with fail
      go_ret
      exact ⟨by rw [HE.out] <;> rfl, d3⟩
    replace HV0 := Lib.hid (HV0.out.trans ((congrArg (fun b => ore (limE b 3) _) (decide_eq_true hc5)).trans (ore_yes (show limE true 3 = 0 from rfl))))
    have hy_ : ¬ (16 : Int) < (tl.length : Int) := by omega
    have hy2_ : ¬ 16 < tl.length := by omega
    go_wp2_with fail
    go_loopw [3] (fun i wr => ∃ j : Nat, j ≤ tl.length ∧ i = .int .i64 (j : Nat) ∧ Hid (firstE identE (tl.take j) = 0) ∧ After W1 wr) (fun i _ => tl.length - (intOf i).toNat)
    case atStart => exact ⟨0, by omega, rfl, Lib.hid (by simp [firstE]), b3⟩
    case round =>
      obtain ⟨j, hj, rfl, HJj, arj⟩ := hrel
      have drj : After w wr := after_after dBW1 arj
      obtain ⟨rj, hrj⟩ : ∃ r, wr = r := ⟨_, rfl⟩
      rw [hrj] at arj drj ⊢
      clear hrj wr
      clear k0 k1 kl
      obtain ⟨k0, k1, kl⟩ := HK.out rj (arj)
      by_cases hltj : j < tl.length
      · have hltjI : (j : Int) < (tl.length : Int) := by omega
        obtain ⟨bj, pj, yj, rfl, hlej, HYj, hPj⟩ := (HX0.out.strs rj (k := after_after hw drj)).part (i := j) hltj
        have y0 : rj.cell? ⟨bj, pj + j, none⟩ = some (.string yj) := by have := hPj.1; rwa [Nat.mul_one] at this
        have hys := hPj.2
        clear hPj
        have HS1 : Hid ((identE yj) ≠ 0 → R = (identE yj)) := Lib.hid fun h => by
          have h1 := firstE_stop identE HYj.out HJj.out h
          have h2 : R = (identE yj) := HV0.out.trans ((ore_no (by rw [h1]; exact h)).trans h1)
          exact h2
        have HV1 : Hid ((identE yj) = ore (identE yj) 0) := Lib.hid (ore_zero _).symm
        have HNj : Hid ((identE yj) = 0 → firstE identE (tl.take (j + 1)) = 0) := Lib.hid fun h => (firstE_take identE HYj.out HJj.out).trans h
        obtain ⟨X1, hX_⟩ : ∃ X, X = (identE yj) := ⟨_, rfl⟩
        replace HV1 := Lib.hid (hX_.trans HV1.out)
        rw [← hX_] at HS1 HNj
        clear hX_
        replace HV1 := Lib.hid (HV1.out.trans (congrArg (fun z => ore z _) (show identE yj = limE (identB yj) 6 from rfl)))
        obtain ⟨b6, hb6⟩ : ∃ b, (identB yj) = b := ⟨_, rfl⟩
        have G6 : Gives rj 31 #[.string yj] (.bool b6) := fun U hU => (hb6 ▸ rident_any yj hys U).mono fun e w' h => ⟨h.1, @After.is_more _ _ h.2⟩
        rw [hb6] at HV1
        clear hb6
        go_wp2_with fail
        refine (Gives.on G6 _ inferInstance).mono ?_
        rintro e w7 ⟨rfl, hy_⟩
        have c7_ : After rj w7 := after_of_more hy_ inferInstance
        clear hy_
        have d7 : After w w7 := after_after drj c7_
        have b7 : After W1 w7 := after_after (arj) c7_
        clear k0 k1 kl
        obtain ⟨k0, k1, kl⟩ := HK.out w7 (b7)
        cases b6 with
        | false =>
          have HX : Hid (X1 = 6) := Lib.hid (HV1.out.trans (ore_no (by decide)))
          have HE : Hid (R = 6) := Lib.hid ((HS1.out (by rw [HX.out]; decide)).trans HX.out)
          go_wp2_with fail
          go_ret
          exact ⟨by rw [HE.out] <;> rfl, d7⟩
        | true =>
          replace HV1 := Lib.hid (HV1.out.trans (ore_yes rfl))
          clear G6
          go_wp2_with fail
          go_roundw
          case rel => exact ⟨j + 1, by omega, by go_num, Lib.hid (HNj.out HV1.out), b7⟩
          case measure => simp only [intOf]; omega
      · replace HV0 := Lib.hid (HV0.out.trans (ore_yes (firstE_all identE hltj HJj.out)))
        have HE : Hid (R = 0) := HV0
        go_wp2_with fail
        go_ret
        exact ⟨by rw [HE.out] <;> rfl, drj⟩
set_option maxRecDepth 100000 in
set_option maxHeartbeats 3200000 in
theorem rdecl_any {w0 : World} {eA : Option Addr} {ec : Nat} {el : List EnD} (hen : RowOf 2 PEn w0 ⟨eA, ec, el⟩) {nm : ByteArray} {ty : Int} {cA : Option Addr} {cc : Nat} {cl : List OnD} {port : Bool} (hs : nm.size ≤ 140737488355328) (hty : ty ≤ 9223372036854775807) (hx : RowOf 3 POn w0 ⟨cA, cc, cl⟩) (w : World) (hw : After w0 w) :
    Calls Tryz.prog 49 #[.slice eA el.length ec, .agg #[.string nm, .int .i64 ty, .slice cA cl.length cc], .bool port] w fun e w' => e = .returned (.int .i64 (declE el port ⟨nm, ty, ⟨cA, cc, cl⟩⟩)) ∧ After w w' := by
  obtain ⟨R, hR⟩ : ∃ R, declE el port ⟨nm, ty, ⟨cA, cc, cl⟩⟩ = R := ⟨_, rfl⟩
  have HV0 : Hid (R = ore (identE nm) (ore (limE (decide ((0 : Int) < (sizeV el ty : Int))) 10) (ore (limE (!port || (cl.length : Int) == 0) 11) (ore (limE (decide ((cl.length : Int) ≤ 4)) 3) (ore (firstE (onE el) cl) 0))))) := by
    show _ = _
    rw [← hR]
    rw [ore_zero]; rfl
  rw [hR]
  clear hR
  have HEN := Lib.hid hen
  have hel := hen.len
  simp only [] at hel
  clear hen
  have HX0 := Lib.hid hx
  have hbl := hx.len
  simp only [] at hbl
  clear hx
  obtain ⟨gb, hgb⟩ : ∃ g, w.heap.size = g := ⟨_, rfl⟩
  obtain ⟨W1, hW1, a1, HK⟩ : ∃ W, w.alloc (.cells #[.string nm, .int .i64 ty, .slice cA cl.length cc] 80) = W ∧ After w W ∧ Hid (∀ U : World, After W U → U.cell? ⟨gb, 0, none⟩ = some (.string nm) ∧ U.cell? ⟨gb, 1, none⟩ = some (.int .i64 ty) ∧ U.cell? ⟨gb, 2, none⟩ = some (.slice cA cl.length cc) ∧ Le (gb + 1) U) := by
    refine ⟨_, rfl, inferInstance, fun U hU => ?_⟩
    have y0 := (Blk.new w 80 #[.string nm, .int .i64 ty, .slice cA cl.length cc]).after (w' := U)
    rw [hgb] at y0
    exact ⟨(y0.cell 0).trans rfl, (y0.cell 1).trans rfl, (y0.cell 2).trans rfl, y0.is_le⟩
  obtain ⟨k0, k1, k2, kl⟩ := HK.out W1 (after_refl _)
  have dBW1 := a1
  go_enter Tryz.func49, Tryz.ntmps49
  replace HV0 := Lib.hid (HV0.out.trans (congrArg (fun z => ore z _) (show identE nm = limE (identB nm) 6 from rfl)))
  obtain ⟨b2, hb2⟩ : ∃ b, (identB nm) = b := ⟨_, rfl⟩
  have G2 : Gives W1 31 #[.string nm] (.bool b2) := fun U hU => (hb2 ▸ rident_any nm hs U).mono fun e w' h => ⟨h.1, @After.is_more _ _ h.2⟩
  rw [hb2] at HV0
  clear hb2
  go_wp2_with fail
  try rw [hW1]
  try rw [hgb]
  clear hW1 hgb
  refine (Gives.on G2 _ inferInstance).mono ?_
  rintro e w3 ⟨rfl, hy_⟩
  have c3_ : After W1 w3 := after_of_more hy_ inferInstance
  clear hy_
  have d3 : After w w3 := after_after a1 c3_
  have b3 : After W1 w3 := after_after (after_refl W1) c3_
  clear k0 k1 k2 kl
  obtain ⟨k0, k1, k2, kl⟩ := HK.out w3 (b3)
  cases b2 with
  | false =>
    have HX : Hid (R = 6) := Lib.hid (HV0.out.trans (ore_no (by decide)))
    have HE : Hid (R = 6) := HX
    go_wp2_with fail
    go_ret
    exact ⟨by rw [HE.out] <;> rfl, d3⟩
  | true =>
    replace HV0 := Lib.hid (HV0.out.trans (ore_yes rfl))
    clear G2
    replace HV0 := Lib.hid (HV0.out.trans (congrArg (fun z => ore z _) (show limE (decide ((0 : Int) < (sizeV el ty : Int))) 10 = limE (decide (0 < sizeV el ty)) 10 from congrArg (fun b => limE b 10) (decide_eq_decide.2 (by omega)))))
    obtain ⟨b4, hb4⟩ : ∃ b, (decide (0 < sizeV el ty)) = b := ⟨_, rfl⟩
    have G4 : Gives w3 75 #[.slice eA el.length ec, .int .i64 ty] (.bool b4) := fun U hU => (hb4 ▸ rvalid_any (x := ⟨eA, ec, el⟩) HEN.out U (after_after (after_after hw d3) hU) ty hty).mono fun e w' h => ⟨h.1, @After.is_more _ _ h.2⟩
    rw [hb4] at HV0
    clear hb4
    go_wp2_with fail
    refine (Gives.on G4 _ inferInstance).mono ?_
    rintro e w5 ⟨rfl, hy_⟩
    have c5_ : After w3 w5 := after_of_more hy_ inferInstance
    clear hy_
    have d5 : After w w5 := after_after d3 c5_
    have b5 : After W1 w5 := after_after (b3) c5_
    clear k0 k1 k2 kl
    obtain ⟨k0, k1, k2, kl⟩ := HK.out w5 (b5)
    cases b4 with
    | false =>
      have HX : Hid (R = 10) := Lib.hid (HV0.out.trans (ore_no (by decide)))
      have HE : Hid (R = 10) := HX
      go_wp2_with fail
      go_ret
      exact ⟨by rw [HE.out] <;> rfl, d5⟩
    | true =>
      replace HV0 := Lib.hid (HV0.out.trans (ore_yes rfl))
      clear G4
      cases port with
      | false =>
        replace HV0 := Lib.hid (HV0.out.trans (ore_yes (show limE (!false || (cl.length : Int) == 0) 11 = 0 from rfl)))
        by_cases hc6 : (cl.length : Int) ≤ 4
        rotate_left
        · have hw_ : (4 : Int) < (cl.length : Int) := by omega
          have hw2_ : 4 < cl.length := by omega
          have HX : Hid (R = 3) := Lib.hid (HV0.out.trans ((congrArg (fun b => ore (limE b 3) _) (decide_eq_false hc6)).trans (ore_no (show limE false 3 ≠ 0 by decide))))
          have HE : Hid (R = 3) := HX
          go_wp2_with fail
          go_ret
          exact ⟨by rw [HE.out] <;> rfl, d5⟩
        replace HV0 := Lib.hid (HV0.out.trans ((congrArg (fun b => ore (limE b 3) _) (decide_eq_true hc6)).trans (ore_yes (show limE true 3 = 0 from rfl))))
        have hw_ : ¬ (4 : Int) < (cl.length : Int) := by omega
        have hw2_ : ¬ 4 < cl.length := by omega
        go_wp2_with fail
        go_loopw [7] (fun i wr => ∃ j : Nat, j ≤ cl.length ∧ i = .int .i64 (j : Nat) ∧ Hid (firstE (onE el) (cl.take j) = 0) ∧ After W1 wr) (fun i _ => cl.length - (intOf i).toNat)
        case atStart => exact ⟨0, by omega, rfl, Lib.hid (by simp [firstE]), b5⟩
        case round =>
          obtain ⟨j, hj, rfl, HJj, arj⟩ := hrel
          have drj : After w wr := after_after dBW1 arj
          obtain ⟨rj, hrj⟩ : ∃ r, wr = r := ⟨_, rfl⟩
          rw [hrj] at arj drj ⊢
          clear hrj wr
          clear k0 k1 k2 kl
          obtain ⟨k0, k1, k2, kl⟩ := HK.out rj (arj)
          by_cases hltj : j < cl.length
          · have hltjI : (j : Int) < (cl.length : Int) := by omega
            obtain ⟨bj, pj, yj, rfl, hlej, HYj, hPj⟩ := (HX0.out.ons rj (k := after_after hw drj)).part (i := j) hltj
            obtain ⟨on, ot, ov⟩ := yj
            obtain ⟨hob2, z0, z1, z2, hon⟩ := hPj
            simp only [] at hob2 z0 z1 z2 hon
            have HS1 : Hid ((onE el ⟨on, ot, ov⟩) ≠ 0 → R = (onE el ⟨on, ot, ov⟩)) := Lib.hid fun h => by
              have h1 := firstE_stop (onE el) HYj.out HJj.out h
              have h2 : R = (onE el ⟨on, ot, ov⟩) := HV0.out.trans ((ore_no (by rw [h1]; exact h)).trans h1)
              exact h2
            have HV1 : Hid ((onE el ⟨on, ot, ov⟩) = ore (identE on) (ore (limE (!(ot == 2) && hasV el ot ov) 5) 0)) := by show _ = _; rw [ore_zero]; rfl
            have HNj : Hid ((onE el ⟨on, ot, ov⟩) = 0 → firstE (onE el) (cl.take (j + 1)) = 0) := Lib.hid fun h => (firstE_take (onE el) HYj.out HJj.out).trans h
            obtain ⟨X1, hX_⟩ : ∃ X, X = (onE el ⟨on, ot, ov⟩) := ⟨_, rfl⟩
            replace HV1 := Lib.hid (hX_.trans HV1.out)
            rw [← hX_] at HS1 HNj
            clear hX_
            obtain ⟨g7, hg7⟩ : ∃ g, rj.heap.size = g := ⟨_, rfl⟩
            obtain ⟨W7, hW7, HK7, a7_⟩ : ∃ W, rj.alloc (.cells #[.string on, .int .i64 ot, .int .i64 ov] 91) = W ∧ Hid (∀ U : World, After W U → U.cell? ⟨g7, 0, none⟩ = some (.string on) ∧ U.cell? ⟨g7, 1, none⟩ = some (.int .i64 ot) ∧ U.cell? ⟨g7, 2, none⟩ = some (.int .i64 ov) ∧ Le (g7 + 1) U ∧ U.cell? ⟨gb, 0, none⟩ = some (.string nm) ∧ U.cell? ⟨gb, 1, none⟩ = some (.int .i64 ty) ∧ U.cell? ⟨gb, 2, none⟩ = some (.slice (some ⟨bj, pj, none⟩) cl.length cc) ∧ Le (gb + 1) U) ∧ After rj W := by
              refine ⟨_, rfl, fun U hU => ?_, inferInstance⟩
              have y0 := (Blk.new rj 91 #[.string on, .int .i64 ot, .int .i64 ov]).after (w' := U)
              rw [hg7] at y0
              have q0 : After w0 U := after_after hw (after_after drj (after_after inferInstance hU))
              have q1 : After W1 U := after_after (arj) (after_after inferInstance hU)
              exact ⟨by rw [y0.cell]; rfl, by rw [y0.cell]; rfl, by rw [y0.cell]; rfl, y0.is_le, (HK.out U q1).1, (HK.out U q1).2.1, (HK.out U q1).2.2.1, (HK.out U q1).2.2.2⟩
            have d7 : After w W7 := after_after drj a7_
            obtain ⟨f0, f1, f2, m7_, o0_, o1_, o2_, o3_⟩ := HK7.out W7 (after_refl _)
            go_wp2_with fail
            try rw [hW7]
            try rw [hg7]
            clear hW7 hg7
            clear k0 k1 k2 kl
            obtain ⟨_, _, _, _, k0, k1, k2, kl⟩ := HK7.out W7 (after_refl _)
            clear o0_ o1_ o2_ o3_
            replace HV1 := Lib.hid (HV1.out.trans (congrArg (fun z => ore z _) (show identE on = limE (identB on) 6 from rfl)))
            obtain ⟨b8, hb8⟩ : ∃ b, (identB on) = b := ⟨_, rfl⟩
            have G8 : Gives W7 31 #[.string on] (.bool b8) := fun U hU => (hb8 ▸ rident_any on hon U).mono fun e w' h => ⟨h.1, @After.is_more _ _ h.2⟩
            rw [hb8] at HV1
            clear hb8
            go_wp2_with fail
            refine (Gives.on G8 _ inferInstance).mono ?_
            rintro e w9 ⟨rfl, hy_⟩
            have c9_ : After W7 w9 := after_of_more hy_ inferInstance
            clear hy_
            have d9 : After w w9 := after_after d7 c9_
            have b9 : After W7 w9 := after_after (after_refl W7) c9_
            clear f0 f1 f2 m7_ k0 k1 k2 kl
            obtain ⟨f0, f1, f2, m7_, k0, k1, k2, kl⟩ := HK7.out w9 (b9)
            cases b8 with
            | false =>
              have HX : Hid (X1 = 6) := Lib.hid (HV1.out.trans (ore_no (by decide)))
              have HE : Hid (R = 6) := Lib.hid ((HS1.out (by rw [HX.out]; decide)).trans HX.out)
              go_wp2_with fail
              go_ret
              exact ⟨by rw [HE.out] <;> rfl, d9⟩
            | true =>
              replace HV1 := Lib.hid (HV1.out.trans (ore_yes rfl))
              clear G8
              by_cases hot : ot = 2
              · subst hot
                have HX : Hid (X1 = 5) := Lib.hid (HV1.out.trans (ore_no (show limE (!((2 : Int) == 2) && hasV el 2 ov) 5 ≠ 0 from (by show (5 : Int) ≠ 0; decide))))
                have HE : Hid (R = 5) := Lib.hid ((HS1.out (by rw [HX.out]; decide)).trans HX.out)
                go_wp2_with fail
                go_ret
                exact ⟨by rw [HE.out] <;> rfl, d9⟩
              have hob : (ot == 2) = false := by rw [beq_eq_false_iff_ne]; exact hot
              replace HV1 : Hid (X1 = ore (limE (hasV el ot ov) 5) 0) := Lib.hid (HV1.out.trans (by rw [hob]; rfl))
              obtain ⟨b10, hb10⟩ : ∃ b, (hasV el ot ov) = b := ⟨_, rfl⟩
              have G10 : Gives w9 76 #[.slice eA el.length ec, .int .i64 ot, .int .i64 ov] (.bool b10) := fun U hU => (hb10 ▸ rvhas_any (x := ⟨eA, ec, el⟩) HEN.out U (after_after (after_after hw d9) hU) ot ov hob2).mono fun e w' h => ⟨h.1, @After.is_more _ _ h.2⟩
              rw [hb10] at HV1
              clear hb10
              go_wp2_with fail
              refine (Gives.on G10 _ inferInstance).mono ?_
              rintro e w11 ⟨rfl, hy_⟩
              have c11_ : After w9 w11 := after_of_more hy_ inferInstance
              clear hy_
              have d11 : After w w11 := after_after d9 c11_
              have b11 : After W7 w11 := after_after (b9) c11_
              clear f0 f1 f2 m7_ k0 k1 k2 kl
              obtain ⟨f0, f1, f2, m7_, k0, k1, k2, kl⟩ := HK7.out w11 (b11)
              cases b10 with
              | false =>
                have HX : Hid (X1 = 5) := Lib.hid (HV1.out.trans (ore_no (by decide)))
                have HE : Hid (R = 5) := Lib.hid ((HS1.out (by rw [HX.out]; decide)).trans HX.out)
                go_wp2_with fail
                go_ret
                exact ⟨by rw [HE.out] <;> rfl, d11⟩
              | true =>
                replace HV1 := Lib.hid (HV1.out.trans (ore_yes rfl))
                clear G10
                go_wp2_with fail
                go_roundw
                case rel => exact ⟨j + 1, by omega, by go_num, Lib.hid (HNj.out HV1.out), after_after (arj) (after_after a7_ (b11))⟩
                case measure => simp only [intOf]; omega
          · replace HV0 := Lib.hid (HV0.out.trans (ore_yes (firstE_all (onE el) hltj HJj.out)))
            have HE : Hid (R = 0) := HV0
            go_wp2_with fail
            go_ret
            exact ⟨by rw [HE.out] <;> rfl, drj⟩
      | true =>
        replace HV0 := Lib.hid (HV0.out.trans (congrArg (fun z => ore z _) (show limE (!true || (cl.length : Int) == 0) 11 = limE (decide ((cl.length : Int) ≤ 0)) 11 from congrArg (fun b => limE b 11) (Bool.eq_iff_iff.2 (by simp)))))
        by_cases hc12 : (cl.length : Int) ≤ 0
        rotate_left
        · have hy_ : (0 : Int) < (cl.length : Int) := by omega
          have hy2_ : 0 < cl.length := by omega
          have HX : Hid (R = 11) := Lib.hid (HV0.out.trans ((congrArg (fun b => ore (limE b 11) _) (decide_eq_false hc12)).trans (ore_no (show limE false 11 ≠ 0 by decide))))
          have HE : Hid (R = 11) := HX
          go_wp2_with fail
          go_ret
          exact ⟨by rw [HE.out] <;> rfl, d5⟩
        replace HV0 := Lib.hid (HV0.out.trans ((congrArg (fun b => ore (limE b 11) _) (decide_eq_true hc12)).trans (ore_yes (show limE true 11 = 0 from rfl))))
        have hy_ : ¬ (0 : Int) < (cl.length : Int) := by omega
        have hy2_ : ¬ 0 < cl.length := by omega
        have hcs : (cl.length : Int) ≤ 4 := by omega
        replace HV0 := Lib.hid (HV0.out.trans ((congrArg (fun b => ore (limE b 3) _) (decide_eq_true hcs)).trans (ore_yes (show limE true 3 = 0 from rfl))))
        have hw_ : ¬ (4 : Int) < (cl.length : Int) := by omega
        have hw2_ : ¬ 4 < cl.length := by omega
        go_wp2_with fail
        go_loopw [7] (fun i wr => ∃ j : Nat, j ≤ cl.length ∧ i = .int .i64 (j : Nat) ∧ Hid (firstE (onE el) (cl.take j) = 0) ∧ After W1 wr) (fun i _ => cl.length - (intOf i).toNat)
        case atStart => exact ⟨0, by omega, rfl, Lib.hid (by simp [firstE]), b5⟩
        case round =>
          obtain ⟨j, hj, rfl, HJj, arj⟩ := hrel
          have drj : After w wr := after_after dBW1 arj
          obtain ⟨rj, hrj⟩ : ∃ r, wr = r := ⟨_, rfl⟩
          rw [hrj] at arj drj ⊢
          clear hrj wr
          clear k0 k1 k2 kl
          obtain ⟨k0, k1, k2, kl⟩ := HK.out rj (arj)
          by_cases hltj : j < cl.length
          · have hltjI : (j : Int) < (cl.length : Int) := by omega
            obtain ⟨bj, pj, yj, rfl, hlej, HYj, hPj⟩ := (HX0.out.ons rj (k := after_after hw drj)).part (i := j) hltj
            obtain ⟨on, ot, ov⟩ := yj
            obtain ⟨hob2, z0, z1, z2, hon⟩ := hPj
            simp only [] at hob2 z0 z1 z2 hon
            have HS1 : Hid ((onE el ⟨on, ot, ov⟩) ≠ 0 → R = (onE el ⟨on, ot, ov⟩)) := Lib.hid fun h => by
              have h1 := firstE_stop (onE el) HYj.out HJj.out h
              have h2 : R = (onE el ⟨on, ot, ov⟩) := HV0.out.trans ((ore_no (by rw [h1]; exact h)).trans h1)
              exact h2
            have HV1 : Hid ((onE el ⟨on, ot, ov⟩) = ore (identE on) (ore (limE (!(ot == 2) && hasV el ot ov) 5) 0)) := by show _ = _; rw [ore_zero]; rfl
            have HNj : Hid ((onE el ⟨on, ot, ov⟩) = 0 → firstE (onE el) (cl.take (j + 1)) = 0) := Lib.hid fun h => (firstE_take (onE el) HYj.out HJj.out).trans h
            obtain ⟨X1, hX_⟩ : ∃ X, X = (onE el ⟨on, ot, ov⟩) := ⟨_, rfl⟩
            replace HV1 := Lib.hid (hX_.trans HV1.out)
            rw [← hX_] at HS1 HNj
            clear hX_
            exfalso; omega
          · replace HV0 := Lib.hid (HV0.out.trans (ore_yes (firstE_all (onE el) hltj HJj.out)))
            have HE : Hid (R = 0) := HV0
            go_wp2_with fail
            go_ret
            exact ⟨by rw [HE.out] <;> rfl, drj⟩
set_option maxRecDepth 100000 in
set_option maxHeartbeats 3200000 in
theorem rdecls_e {w0 : World} {eA : Option Addr} {ec : Nat} {el : List EnD} (hen : RowOf 2 PEn w0 ⟨eA, ec, el⟩) {dA : Option Addr} {dc : Nat} {dl : List DeclD} {port : Bool} (hx : RowOf 3 PDecl w0 ⟨dA, dc, dl⟩) (w : World) (hw : After w0 w) :
    Calls Tryz.prog 32 #[.slice eA el.length ec, .slice dA dl.length dc, .bool port] w fun e w' => e = .returned (.int .i64 (firstE (declE el port) dl)) ∧ After w w' := by
  obtain ⟨R, hR⟩ : ∃ R, firstE (declE el port) dl = R := ⟨_, rfl⟩
  have HV0 : Hid (R = ore (firstE (declE el port) dl) 0) := by
    show _ = _
    rw [← hR]
    rw [ore_zero]
  rw [hR]
  clear hR
  have HEN := Lib.hid hen
  have hel := hen.len
  simp only [] at hel
  clear hen
  have HX0 := Lib.hid hx
  have hbl := hx.len
  simp only [] at hbl
  clear hx
  have dBw := after_refl w
  go_enter Tryz.func32, Tryz.ntmps32
  go_wp2_with fail
  go_loopw [7] (fun i wr => ∃ j : Nat, j ≤ dl.length ∧ i = .int .i64 (j : Nat) ∧ Hid (firstE (declE el port) (dl.take j) = 0) ∧ After w wr) (fun i _ => dl.length - (intOf i).toNat)
  case atStart => exact ⟨0, by omega, rfl, Lib.hid (by simp [firstE]), after_refl w⟩
  case round =>
    obtain ⟨j, hj, rfl, HJj, arj⟩ := hrel
    have drj : After w wr := after_after dBw arj
    obtain ⟨rj, hrj⟩ : ∃ r, wr = r := ⟨_, rfl⟩
    rw [hrj] at arj drj ⊢
    clear hrj wr
    by_cases hltj : j < dl.length
    · have hltjI : (j : Int) < (dl.length : Int) := by omega
      obtain ⟨bj, pj, yj, rfl, hlej, HYj, hPj⟩ := (HX0.out.decls rj (k := after_after hw drj)).part (i := j) hltj
      obtain ⟨nm, ty, ⟨cA, cc, cl⟩⟩ := yj
      obtain ⟨_, _, HP0_⟩ := HX0.out.elem (i := j) HYj.out
      have HP0 := Lib.hid HP0_
      obtain ⟨z0, z1, z2⟩ : rj.cell? ⟨bj, pj + j * 3, none⟩ = some (.string nm) ∧ rj.cell? ⟨bj, pj + j * 3 + 1, none⟩ = some (.int .i64 ty) ∧ rj.cell? ⟨bj, pj + j * 3 + 2, none⟩ = some (.slice cA cl.length cc) := ⟨hPj.c0, hPj.c1, hPj.c2⟩
      clear hPj HP0_
      have HS1 : Hid (declE el port ⟨nm, ty, ⟨cA, cc, cl⟩⟩ ≠ 0 → R = declE el port ⟨nm, ty, ⟨cA, cc, cl⟩⟩) := Lib.hid fun h => by
        have h1 := firstE_stop (declE el port) HYj.out HJj.out h
        have h2 : R = declE el port ⟨nm, ty, ⟨cA, cc, cl⟩⟩ := HV0.out.trans ((ore_no (by rw [h1]; exact h)).trans h1)
        exact h2
      have HV1 : Hid (declE el port ⟨nm, ty, ⟨cA, cc, cl⟩⟩ = ore (declE el port ⟨nm, ty, ⟨cA, cc, cl⟩⟩) 0) := Lib.hid (ore_zero _).symm
      have HNj : Hid (declE el port ⟨nm, ty, ⟨cA, cc, cl⟩⟩ = 0 → firstE (declE el port) (dl.take (j + 1)) = 0) := Lib.hid fun h => (firstE_take (declE el port) HYj.out HJj.out).trans h
      obtain ⟨X1, hX_⟩ : ∃ X, X = declE el port ⟨nm, ty, ⟨cA, cc, cl⟩⟩ := ⟨_, rfl⟩
      replace HV1 := Lib.hid (hX_.trans HV1.out)
      rw [← hX_] at HS1 HNj
      clear hX_
      obtain ⟨x2, hx2⟩ : ∃ x, declE el port ⟨nm, ty, ⟨cA, cc, cl⟩⟩ = x := ⟨_, rfl⟩
      have G2 : Gives rj 49 #[.slice eA el.length ec, .agg #[.string nm, .int .i64 ty, .slice cA cl.length cc], .bool port] (.int .i64 x2) := fun U hU => (hx2 ▸ rdecl_any HEN.out HP0.out.nm HP0.out.tb HP0.out.cl U (after_after (after_after hw drj) hU)).mono fun e w' h => ⟨h.1, @After.is_more _ _ h.2⟩
      rw [hx2] at HV1
      clear hx2
      go_wp2_with fail
      refine (Gives.on G2 _ inferInstance).mono ?_
      rintro e w3 ⟨rfl, hy_⟩
      have c3_ : After rj w3 := after_of_more hy_ inferInstance
      clear hy_
      have d3 : After w w3 := after_after drj c3_
      have b3 : After w w3 := after_after (arj) c3_
      by_cases hE : x2 = 0
      rotate_left
      · have z1 : (x2 == 0) = false := by rw [beq_eq_false_iff_ne]; exact hE
        have z2 : (x2 != 0) = true := by rw [bne, z1]; rfl
        have HX : Hid (X1 = x2) := Lib.hid (HV1.out.trans (ore_no hE))
        have HE : Hid (R = x2) := Lib.hid ((HS1.out (by rw [HX.out]; exact hE)).trans HX.out)
        go_wp2_with fail
        go_ret
        exact ⟨by rw [HE.out] <;> rfl, d3⟩
      subst hE
      replace HV1 := Lib.hid (HV1.out.trans (ore_yes rfl))
      clear G2
      go_wp2_with fail
      go_roundw
      case rel => exact ⟨j + 1, by omega, by go_num, Lib.hid (HNj.out HV1.out), b3⟩
      case measure => simp only [intOf]; omega
    · replace HV0 := Lib.hid (HV0.out.trans (ore_yes (firstE_all (declE el port) hltj HJj.out)))
      have HE : Hid (R = 0) := HV0
      go_wp2_with fail
      go_ret
      exact ⟨by rw [HE.out] <;> rfl, drj⟩
set_option maxRecDepth 100000 in
set_option maxHeartbeats 3200000 in
theorem req_any {w0 : World} {eA : Option Addr} {ec : Nat} {el : List EnD} (hen : RowOf 2 PEn w0 ⟨eA, ec, el⟩) {qA : Option Addr} {qc : Nat} {ql : List ByteArray} {k o t v : Int} {s : ByteArray} {A : Option Addr} {c : Nat} {xs : List Tx} (hx : RowOf 1 PStr w0 ⟨qA, qc, ql⟩) (hs : (Tx.mk k o t v s A c xs).size ≤ 2000000) (hX : RX w0 (.mk k o t v s A c xs)) (hB : TxB (.mk k o t v s A c xs)) (w : World) (hw : After w0 w) :
    Calls Tryz.prog 17 #[.slice eA el.length ec, .agg #[.slice qA ql.length qc, .int .i64 k, .int .i64 o, .int .i64 t, .int .i64 v, .string s, .slice A xs.length c]] w fun e w' => e = .returned (.int .i64 (eqE el ⟨⟨qA, qc, ql⟩, .mk k o t v s A c xs⟩)) ∧ After w w' := by
  obtain ⟨R, hR⟩ : ∃ R, eqE el ⟨⟨qA, qc, ql⟩, .mk k o t v s A c xs⟩ = R := ⟨_, rfl⟩
  have HV0 : Hid (R = ore (limE (decide ((0 : Int) < (ql.length : Int))) 8) (ore (limE (decide ((ql.length : Int) ≤ 64)) 3) (ore (firstE identE ql) (ore (exE el (.mk k o t v s A c xs)) (ore (limE ((ql.length : Int) == 1 || k == 10) 5) 0))))) := by
    show _ = _
    rw [← hR]
    rw [ore_zero]; rfl
  rw [hR]
  clear hR
  have HEN := Lib.hid hen
  have hel := hen.len
  simp only [] at hel
  clear hen
  have HX0 := Lib.hid hx
  have HXX := Lib.hid hX
  have hbl := hx.len
  simp only [] at hbl
  clear hx hX
  obtain ⟨gb, hgb⟩ : ∃ g, w.heap.size = g := ⟨_, rfl⟩
  obtain ⟨W1, hW1, a1, HK⟩ : ∃ W, w.alloc (.cells #[.slice qA ql.length qc, .int .i64 k, .int .i64 o, .int .i64 t, .int .i64 v, .string s, .slice A xs.length c] 60) = W ∧ After w W ∧ Hid (∀ U : World, After W U → U.cell? ⟨gb, 0, none⟩ = some (.slice qA ql.length qc) ∧ U.cell? ⟨gb, 1, none⟩ = some (.int .i64 k) ∧ U.cell? ⟨gb, 2, none⟩ = some (.int .i64 o) ∧ U.cell? ⟨gb, 3, none⟩ = some (.int .i64 t) ∧ U.cell? ⟨gb, 4, none⟩ = some (.int .i64 v) ∧ U.cell? ⟨gb, 5, none⟩ = some (.string s) ∧ U.cell? ⟨gb, 6, none⟩ = some (.slice A xs.length c) ∧ Le (gb + 1) U) := by
    refine ⟨_, rfl, inferInstance, fun U hU => ?_⟩
    have y0 := (Blk.new w 60 #[.slice qA ql.length qc, .int .i64 k, .int .i64 o, .int .i64 t, .int .i64 v, .string s, .slice A xs.length c]).after (w' := U)
    rw [hgb] at y0
    exact ⟨(y0.cell 0).trans rfl, (y0.cell 1).trans rfl, (y0.cell 2).trans rfl, (y0.cell 3).trans rfl, (y0.cell 4).trans rfl, (y0.cell 5).trans rfl, (y0.cell 6).trans rfl, y0.is_le⟩
  obtain ⟨k0, k1, k2, k3, k4, k5, k6, kl⟩ := HK.out W1 (after_refl _)
  have dBW1 := a1
  go_enter Tryz.func17, Tryz.ntmps17
  by_cases hc2 : (0 : Int) < (ql.length : Int)
  rotate_left
  · have hzB_ : ((ql.length : Int) == 0) = true := by rw [beq_iff_eq]; omega
    have HX : Hid (R = 8) := Lib.hid (HV0.out.trans ((congrArg (fun b => ore (limE b 8) _) (decide_eq_false hc2)).trans (ore_no (show limE false 8 ≠ 0 by decide))))
    have HE : Hid (R = 8) := HX
    go_wp2_with fail
    try rw [hW1]
    try rw [hgb]
    clear hW1 hgb
    go_ret
    exact ⟨by rw [HE.out] <;> rfl, a1⟩
  replace HV0 := Lib.hid (HV0.out.trans ((congrArg (fun b => ore (limE b 8) _) (decide_eq_true hc2)).trans (ore_yes (show limE true 8 = 0 from rfl))))
  have hzB_ : ((ql.length : Int) == 0) = false := by rw [beq_eq_false_iff_ne]; omega
  by_cases hc3 : (ql.length : Int) ≤ 64
  rotate_left
  · have hy_ : (64 : Int) < (ql.length : Int) := by omega
    have hy2_ : 64 < ql.length := by omega
    have HX : Hid (R = 3) := Lib.hid (HV0.out.trans ((congrArg (fun b => ore (limE b 3) _) (decide_eq_false hc3)).trans (ore_no (show limE false 3 ≠ 0 by decide))))
    have HE : Hid (R = 3) := HX
    go_wp2_with fail
    go_ret
    exact ⟨by rw [HE.out] <;> rfl, a1⟩
  replace HV0 := Lib.hid (HV0.out.trans ((congrArg (fun b => ore (limE b 3) _) (decide_eq_true hc3)).trans (ore_yes (show limE true 3 = 0 from rfl))))
  have hy_ : ¬ (64 : Int) < (ql.length : Int) := by omega
  have hy2_ : ¬ 64 < ql.length := by omega
  go_wp2_with fail
  go_loopw [5] (fun i wr => ∃ j : Nat, j ≤ ql.length ∧ i = .int .i64 (j : Nat) ∧ Hid (firstE identE (ql.take j) = 0) ∧ After W1 wr) (fun i _ => ql.length - (intOf i).toNat)
  case atStart => exact ⟨0, by omega, rfl, Lib.hid (by simp [firstE]), after_refl W1⟩
  case round =>
    obtain ⟨j, hj, rfl, HJj, arj⟩ := hrel
    have drj : After w wr := after_after dBW1 arj
    obtain ⟨rj, hrj⟩ : ∃ r, wr = r := ⟨_, rfl⟩
    rw [hrj] at arj drj ⊢
    clear hrj wr
    clear k0 k1 k2 k3 k4 k5 k6 kl
    obtain ⟨k0, k1, k2, k3, k4, k5, k6, kl⟩ := HK.out rj (arj)
    by_cases hltj : j < ql.length
    · have hltjI : (j : Int) < (ql.length : Int) := by omega
      obtain ⟨bj, pj, yj, rfl, hlej, HYj, hPj⟩ := (HX0.out.strs rj (k := after_after hw drj)).part (i := j) hltj
      have y0 : rj.cell? ⟨bj, pj + j, none⟩ = some (.string yj) := by have := hPj.1; rwa [Nat.mul_one] at this
      have hys := hPj.2
      clear hPj
      have HS1 : Hid ((identE yj) ≠ 0 → R = (identE yj)) := Lib.hid fun h => by
        have h1 := firstE_stop identE HYj.out HJj.out h
        have h2 : R = (identE yj) := HV0.out.trans ((ore_no (by rw [h1]; exact h)).trans h1)
        exact h2
      have HV1 : Hid ((identE yj) = ore (identE yj) 0) := Lib.hid (ore_zero _).symm
      have HNj : Hid ((identE yj) = 0 → firstE identE (ql.take (j + 1)) = 0) := Lib.hid fun h => (firstE_take identE HYj.out HJj.out).trans h
      obtain ⟨X1, hX_⟩ : ∃ X, X = (identE yj) := ⟨_, rfl⟩
      replace HV1 := Lib.hid (hX_.trans HV1.out)
      rw [← hX_] at HS1 HNj
      clear hX_
      replace HV1 := Lib.hid (HV1.out.trans (congrArg (fun z => ore z _) (show identE yj = limE (identB yj) 6 from rfl)))
      obtain ⟨b4, hb4⟩ : ∃ b, (identB yj) = b := ⟨_, rfl⟩
      have G4 : Gives rj 31 #[.string yj] (.bool b4) := fun U hU => (hb4 ▸ rident_any yj hys U).mono fun e w' h => ⟨h.1, @After.is_more _ _ h.2⟩
      rw [hb4] at HV1
      clear hb4
      go_wp2_with fail
      refine (Gives.on G4 _ inferInstance).mono ?_
      rintro e w5 ⟨rfl, hy_⟩
      have c5_ : After rj w5 := after_of_more hy_ inferInstance
      clear hy_
      have d5 : After w w5 := after_after drj c5_
      have b5 : After W1 w5 := after_after (arj) c5_
      clear k0 k1 k2 k3 k4 k5 k6 kl
      obtain ⟨k0, k1, k2, k3, k4, k5, k6, kl⟩ := HK.out w5 (b5)
      cases b4 with
      | false =>
        have HX : Hid (X1 = 6) := Lib.hid (HV1.out.trans (ore_no (by decide)))
        have HE : Hid (R = 6) := Lib.hid ((HS1.out (by rw [HX.out]; decide)).trans HX.out)
        go_wp2_with fail
        go_ret
        exact ⟨by rw [HE.out] <;> rfl, d5⟩
      | true =>
        replace HV1 := Lib.hid (HV1.out.trans (ore_yes rfl))
        clear G4
        go_wp2_with fail
        go_roundw
        case rel => exact ⟨j + 1, by omega, by go_num, Lib.hid (HNj.out HV1.out), b5⟩
        case measure => simp only [intOf]; omega
    · replace HV0 := Lib.hid (HV0.out.trans (ore_yes (firstE_all identE hltj HJj.out)))
      obtain ⟨x6, hx6⟩ : ∃ x, exE el (.mk k o t v s A c xs) = x := ⟨_, rfl⟩
      have G6 : Gives rj 33 #[.slice eA el.length ec, .agg #[.int .i64 k, .int .i64 o, .int .i64 t, .int .i64 v, .string s, .slice A xs.length c]] (.int .i64 x6) := fun U hU => (hx6 ▸ rexpr_any (x := ⟨eA, ec, el⟩) HEN.out hs HXX.out hB U (after_after (after_after hw drj) hU)).mono fun e w' h => ⟨h.1, @After.is_more _ _ h.2⟩
      rw [hx6] at HV0
      clear hx6
      go_wp2_with fail
      refine (Gives.on G6 _ inferInstance).mono ?_
      rintro e w7 ⟨rfl, hy_⟩
      have c7_ : After rj w7 := after_of_more hy_ inferInstance
      clear hy_
      have d7 : After w w7 := after_after drj c7_
      have b7 : After W1 w7 := after_after (arj) c7_
      clear k0 k1 k2 k3 k4 k5 k6 kl
      obtain ⟨k0, k1, k2, k3, k4, k5, k6, kl⟩ := HK.out w7 (b7)
      by_cases hE : x6 = 0
      rotate_left
      · have z1 : (x6 == 0) = false := by rw [beq_eq_false_iff_ne]; exact hE
        have z2 : (x6 != 0) = true := by rw [bne, z1]; rfl
        have HX : Hid (R = x6) := Lib.hid (HV0.out.trans (ore_no hE))
        have HE : Hid (R = x6) := HX
        go_wp2_with fail
        go_ret
        exact ⟨by rw [HE.out] <;> rfl, d7⟩
      subst hE
      replace HV0 := Lib.hid (HV0.out.trans (ore_yes rfl))
      clear G6
      by_cases h1 : (ql.length : Int) = 1
      · have h1n : ¬ (1 : Int) < (ql.length : Int) := by omega
        have h1m : ¬ 1 < ql.length := by omega
        have HE : Hid (R = 0) := Lib.hid (HV0.out.trans (by rw [show (((ql.length : Int) == 1) = true) from by rw [beq_iff_eq]; exact h1]; rfl))
        go_wp2_with fail
        go_ret
        exact ⟨by rw [HE.out] <;> rfl, d7⟩
      have h1b : ((ql.length : Int) == 1) = false := by rw [beq_eq_false_iff_ne]; exact h1
      have h1n : (1 : Int) < (ql.length : Int) := by omega
      have h1m : 1 < ql.length := by omega
      by_cases h10 : k = 10
      · subst h10
        have HE : Hid (R = 0) := Lib.hid (HV0.out.trans (by rw [h1b]; rfl))
        go_wp2_with fail
        go_ret
        exact ⟨by rw [HE.out] <;> rfl, d7⟩
      have hkb : (k == 10) = false := by rw [beq_eq_false_iff_ne]; exact h10
      have hkn : (k != 10) = true := by rw [bne, hkb]; rfl
      have HE : Hid (R = 5) := Lib.hid (HV0.out.trans (by rw [h1b]; show ore (limE (false || k == 10) 5) 0 = 5; rw [hkb]; rfl))
      go_wp2_with fail
      go_ret
      exact ⟨by rw [HE.out] <;> rfl, d7⟩
set_option maxRecDepth 100000 in
set_option maxHeartbeats 3200000 in
theorem rtrans_any {w0 : World} {eA : Option Addr} {ec : Nat} {el : List EnD} (hen : RowOf 2 PEn w0 ⟨eA, ec, el⟩) {tA : Option Addr} {tc : Nat} {tl : List TrD} {n : Nat} {strong : Bool} (hx : RowOf 8 (PTr True) w0 ⟨tA, tc, tl⟩) (w : World) (hw : After w0 w) :
    Calls Tryz.prog 83 #[.slice eA el.length ec, .slice tA tl.length tc, .int .i64 (n : Nat), .bool strong] w fun e w' => e = .returned (.int .i64 (firstE (trE el n strong) tl)) ∧ After w w' := by
  obtain ⟨R, hR⟩ : ∃ R, firstE (trE el n strong) tl = R := ⟨_, rfl⟩
  have HV0 : Hid (R = ore (firstE (trE el n strong) tl) 0) := by
    show _ = _
    rw [← hR]
    rw [ore_zero]
  rw [hR]
  clear hR
  have HEN := Lib.hid hen
  have hel := hen.len
  simp only [] at hel
  clear hen
  have HX0 := Lib.hid hx
  have hbl := hx.len
  simp only [] at hbl
  clear hx
  have dBw := after_refl w
  go_enter Tryz.func83, Tryz.ntmps83
  go_wp2_with fail
  go_loopw [9] (fun i wr => ∃ j : Nat, j ≤ tl.length ∧ i = .int .i64 (j : Nat) ∧ Hid (firstE (trE el n strong) (tl.take j) = 0) ∧ After w wr) (fun i _ => tl.length - (intOf i).toNat)
  case atStart => exact ⟨0, by omega, rfl, Lib.hid (by simp [firstE]), after_refl w⟩
  case round =>
    obtain ⟨j, hj, rfl, HJj, arj⟩ := hrel
    have drj : After w wr := after_after dBw arj
    obtain ⟨rj, hrj⟩ : ∃ r, wr = r := ⟨_, rfl⟩
    rw [hrj] at arj drj ⊢
    clear hrj wr
    by_cases hltj : j < tl.length
    · have hltjI : (j : Int) < (tl.length : Int) := by omega
      obtain ⟨bj, pj, yj, rfl, hlej, HYj, hPj⟩ := (HX0.out.trs rj (k := after_after hw drj)).part (i := j) hltj
      obtain ⟨⟨k, o, t, v, s, A, c, xs⟩, ds, re⟩ := yj
      obtain ⟨_, _, HP0_⟩ := HX0.out.elem (i := j) HYj.out
      have HP0 := Lib.hid HP0_
      obtain ⟨z0, z1, z2, z3, z4, z5⟩ := hPj.six
      have z6 := hPj.c6
      have z7 := hPj.c7
      simp only [Tx.kind, Tx.op, Tx.ty, Tx.va, Tx.name, Tx.ad, Tx.args, Tx.cap] at z0 z1 z2 z3 z4 z5 z6 z7
      clear hPj HP0_
      have HS1 : Hid ((trE el n strong ⟨.mk k o t v s A c xs, ds, re⟩) ≠ 0 → R = (trE el n strong ⟨.mk k o t v s A c xs, ds, re⟩)) := Lib.hid fun h => by
        have h1 := firstE_stop (trE el n strong) HYj.out HJj.out h
        have h2 : R = (trE el n strong ⟨.mk k o t v s A c xs, ds, re⟩) := HV0.out.trans ((ore_no (by rw [h1]; exact h)).trans h1)
        exact h2
      have HV1 : Hid ((trE el n strong ⟨.mk k o t v s A c xs, ds, re⟩) = ore (limE (decide (0 ≤ ds) && decide (ds < (n : Int))) 14) (ore (exE el (.mk k o t v s A c xs)) (ore (limE (!strong || stateless (Tx.mk k o t v s A c xs).list) 5) 0))) := by show _ = _; rw [ore_zero]; rfl
      have HNj : Hid ((trE el n strong ⟨.mk k o t v s A c xs, ds, re⟩) = 0 → firstE (trE el n strong) (tl.take (j + 1)) = 0) := Lib.hid fun h => (firstE_take (trE el n strong) HYj.out HJj.out).trans h
      obtain ⟨X1, hX_⟩ : ∃ X, X = (trE el n strong ⟨.mk k o t v s A c xs, ds, re⟩) := ⟨_, rfl⟩
      replace HV1 := Lib.hid (hX_.trans HV1.out)
      rw [← hX_] at HS1 HNj
      clear hX_
      by_cases hd0 : 0 ≤ ds
      rotate_left
      · have hd1 : ds < 0 := by omega
        have HX : Hid (X1 = 14) := Lib.hid (HV1.out.trans ((congrArg (fun b => ore (limE (b && _) 14) _) (decide_eq_false hd0)).trans (ore_no (show limE (false && decide (ds < (n : Int))) 14 ≠ 0 from (by show (14 : Int) ≠ 0; decide)))))
        have HE : Hid (R = 14) := Lib.hid ((HS1.out (by rw [HX.out]; decide)).trans HX.out)
        go_wp2_with fail
        go_ret
        exact ⟨by rw [HE.out] <;> rfl, drj⟩
      have hd1 : ¬ ds < 0 := by omega
      by_cases hd2 : ds < (n : Int)
      rotate_left
      · have hd3 : (n : Int) ≤ ds := by omega
        have HX : Hid (X1 = 14) := Lib.hid (HV1.out.trans (by rw [decide_eq_true hd0, decide_eq_false hd2]; rfl))
        have HE : Hid (R = 14) := Lib.hid ((HS1.out (by rw [HX.out]; decide)).trans HX.out)
        go_wp2_with fail
        go_ret
        exact ⟨by rw [HE.out] <;> rfl, drj⟩
      have hd3 : ¬ (n : Int) ≤ ds := by omega
      replace HV1 := Lib.hid (HV1.out.trans (show _ = ore (exE el (.mk k o t v s A c xs)) (ore (limE (!strong || stateless (Tx.mk k o t v s A c xs).list) 5) 0) by rw [decide_eq_true hd0, decide_eq_true hd2]; rfl))
      obtain ⟨x2, hx2⟩ : ∃ x, exE el (.mk k o t v s A c xs) = x := ⟨_, rfl⟩
      have G2 : Gives rj 33 #[.slice eA el.length ec, .agg #[.int .i64 k, .int .i64 o, .int .i64 t, .int .i64 v, .string s, .slice A xs.length c]] (.int .i64 x2) := fun U hU => (hx2 ▸ rexpr_any (x := ⟨eA, ec, el⟩) HEN.out (HP0.out.sz trivial) HP0.out.co HP0.out.tb U (after_after (after_after hw drj) hU)).mono fun e w' h => ⟨h.1, @After.is_more _ _ h.2⟩
      rw [hx2] at HV1
      clear hx2
      go_wp2_with fail
      refine (Gives.on G2 _ inferInstance).mono ?_
      rintro e w3 ⟨rfl, hy_⟩
      have c3_ : After rj w3 := after_of_more hy_ inferInstance
      clear hy_
      have d3 : After w w3 := after_after drj c3_
      have b3 : After w w3 := after_after (arj) c3_
      by_cases hE : x2 = 0
      rotate_left
      · have z1 : (x2 == 0) = false := by rw [beq_eq_false_iff_ne]; exact hE
        have z2 : (x2 != 0) = true := by rw [bne, z1]; rfl
        have HX : Hid (X1 = x2) := Lib.hid (HV1.out.trans (ore_no hE))
        have HE : Hid (R = x2) := Lib.hid ((HS1.out (by rw [HX.out]; exact hE)).trans HX.out)
        go_wp2_with fail
        go_ret
        exact ⟨by rw [HE.out] <;> rfl, d3⟩
      subst hE
      replace HV1 := Lib.hid (HV1.out.trans (ore_yes rfl))
      clear G2
      replace z0 := cell_keep c3_ z0
      replace z1 := cell_keep c3_ z1
      replace z2 := cell_keep c3_ z2
      replace z3 := cell_keep c3_ z3
      replace z4 := cell_keep c3_ z4
      replace z5 := cell_keep c3_ z5
      have hlk_ : Le (bj + 1) w3 := le_keep c3_
      cases strong with
      | false =>
        replace HV1 := Lib.hid (HV1.out.trans (ore_yes (show limE (!false || stateless (Tx.mk k o t v s A c xs).list) 5 = 0 from rfl)))
        go_wp2_with fail
        go_roundw
        case rel => exact ⟨j + 1, by omega, by go_num, Lib.hid (HNj.out HV1.out), b3⟩
        case measure => simp only [intOf]; omega
      | true =>
        replace HV1 := Lib.hid (HV1.out.trans (congrArg (fun z => ore z _) (show limE (!true || stateless (Tx.mk k o t v s A c xs).list) 5 = limE (stateless (Tx.mk k o t v s A c xs).list) 5 from rfl)))
        obtain ⟨b4, hb4⟩ : ∃ b, (stateless (Tx.mk k o t v s A c xs).list) = b := ⟨_, rfl⟩
        have G4 : Gives w3 94 #[.agg #[.int .i64 k, .int .i64 o, .int .i64 t, .int .i64 v, .string s, .slice A xs.length c]] (.bool b4) := fun U hU => (hb4 ▸ rstateless_any (HP0.out.sz trivial) (HP0.out.co.here U (k := (after_after (after_after hw d3) hU))) U (after_refl U)).mono fun e w' h => ⟨h.1, @After.is_more _ _ h.2⟩
        rw [hb4] at HV1
        clear hb4
        go_wp2_with fail
        refine (Gives.on G4 _ inferInstance).mono ?_
        rintro e w5 ⟨rfl, hy_⟩
        have c5_ : After w3 w5 := after_of_more hy_ inferInstance
        clear hy_
        have d5 : After w w5 := after_after d3 c5_
        have b5 : After w w5 := after_after (b3) c5_
        cases b4 with
        | false =>
          have HX : Hid (X1 = 5) := Lib.hid (HV1.out.trans (ore_no (by decide)))
          have HE : Hid (R = 5) := Lib.hid ((HS1.out (by rw [HX.out]; decide)).trans HX.out)
          go_wp2_with fail
          go_ret
          exact ⟨by rw [HE.out] <;> rfl, d5⟩
        | true =>
          replace HV1 := Lib.hid (HV1.out.trans (ore_yes rfl))
          clear G4
          go_wp2_with fail
          go_roundw
          case rel => exact ⟨j + 1, by omega, by go_num, Lib.hid (HNj.out HV1.out), b5⟩
          case measure => simp only [intOf]; omega
    · replace HV0 := Lib.hid (HV0.out.trans (ore_yes (firstE_all (trE el n strong) hltj HJj.out)))
      have HE : Hid (R = 0) := HV0
      go_wp2_with fail
      go_ret
      exact ⟨by rw [HE.out] <;> rfl, drj⟩
end Go.Proofs.YtdghfhnkacfahaaGreat
