/-
  Contracts: names, Names, Instant of the program and of the reference.
-/
import Derived.Test.YtfoddappedcplaaENm
set_option linter.unusedVariables false
set_option linter.unusedSimpArgs false
namespace Go.Proofs.Ytfoddappedcplaa
open Go.RowKit Go.BigFrame

theorem strInfo : (Try.prog.info? 9).map (fun i => (i.zero, i.size, i.bytes)) = some (some (.string ByteArray.empty), 1, 16) := by kernel_rfl
theorem sv_app (l : List ByteArray) (s : ByteArray) : sv (l ++ [s]) = sv l ++ [.string s] := by simp [sv]

set_option maxRecDepth 100000 in
set_option maxHeartbeats 3200000 in
theorem rnames_n (inst : Bool) (N : Nat) (hN : N ≤ 1000000) : ∀ (k o t v : Int) (s : ByteArray) (A : Option Addr) (c : Nat) (xs : List Tx) (w0 : World) (B : Nat) (r : Value) (l : List ByteArray), (Tx.mk k o t v s A c xs).size ≤ N → RX w0 (.mk k o t v s A c xs) → w0.heap.size ≤ B → ∀ w : World, After w0 w → B ≤ w.heap.size → w.ownsRow B 9 1 r (l).length (sv (l)) → l.length + (Tx.mk k o t v s A c xs).size ≤ 1000000 →
    Calls Try.prog 43 #[.agg #[.int .i64 k, .int .i64 o, .int .i64 t, .int .i64 v, .string s, .slice A xs.length c], .bool inst, r] w fun e w' => ∃ r', e = .returned r' ∧ w'.ownsRow B 9 1 r' (Tx.nms inst (Tx.mk k o t v s A c xs) l).length (sv (Tx.nms inst (Tx.mk k o t v s A c xs) l)) ∧ RowTo w w' r r' := by
  induction N with
  | zero =>
    intro k o t v s A c xs w0 B r l hs
    simp [Tx.size] at hs
  | succ N ih =>
    intro k o t v s A c xs w0 B r l hs x hB w aft hBw own hn
    replace x := Lib.hid x
    replace ih := Lib.hid (ih (by omega))
    rw [Tx.size] at hs hn
    rw [Tx.nms]
    have hbd := x.out.bounds
    simp only [Tx.args, Tx.cap, Tx.name] at hbd
    obtain ⟨hb1_, hb2_, hb3_, hb4_⟩ := hbd
    obtain ⟨i0, hi0, hz0, hz1, hz2⟩ := info_parts strInfo
    have hne : some w.heap.size ≠ r.ownBlock := by intro e; have := (own.lt _ e.symm).2; omega
    obtain ⟨AR, cR, hR, HR⟩ := RSt.of_row own (by omega)
    subst hR
    have HV : Hid (∀ U : World, Calls Try.prog 55 #[.agg #[.int .i64 k, .int .i64 o, .int .i64 t, .int .i64 v, .string s, .slice A xs.length c]] U fun e w' => e = .returned (.bool (varB k)) ∧ After U w') := Lib.hid fun U => rvariable_any U
    have HH : Hid (∀ U : World, After w U → Calls Try.prog 24 #[.slice AR l.length cR, .string s] U fun e w' => e = .returned (.bool (hasB l s)) ∧ U = w') := Lib.hid fun U hU => has_any (w0 := U) (HR U hU) s U inferInstance
    clear HR
    obtain ⟨l1, hl1⟩ : ∃ l1, (if varB k && !hasB l s then l ++ [s] else l) = l1 := ⟨_, rfl⟩
    rw [hl1]
    obtain ⟨vb, hvb⟩ : ∃ vb, varB k = vb := ⟨_, rfl⟩
    obtain ⟨hb, hhb⟩ : ∃ hb, hasB l s = hb := ⟨_, rfl⟩
    rw [hvb] at HV hl1
    rw [hhb] at HH hl1
    clear hvb hhb
    have hl1n : l1.length ≤ l.length + 1 := by rw [← hl1]; split <;> simp
    replace hl1 := Lib.hid hl1
    obtain ⟨nl, hnl⟩ : ∃ nl, l.length = nl := ⟨_, rfl⟩
    rw [hnl] at HH own hn hl1n hne
    have own0 := Lib.hid own
    clear own
    rw [hnl]
    go_enter Try.func43, Try.ntmps43
    go_wp2_with fail
    refine (HV.out _).mono ?_
    rintro _ V ⟨rfl, aV⟩
    have HBV := Lib.hid ((Blk.new w 24 #[.int .i64 k, .int .i64 o, .int .i64 t, .int .i64 v, .string s, .slice A xs.length c]).after (k := aV))
    have awV : After w V := after_after inferInstance aV
    clear HV
    have lB_V : Le (w.heap.size + 1) V := HBV.out.is_le
    have h0_V : V.cell? ⟨w.heap.size, 0, none⟩ = some (.int .i64 k) := by rw [HBV.out.cell]; rfl
    have h1_V : V.cell? ⟨w.heap.size, 1, none⟩ = some (.int .i64 o) := by rw [HBV.out.cell]; rfl
    have h2_V : V.cell? ⟨w.heap.size, 2, none⟩ = some (.int .i64 t) := by rw [HBV.out.cell]; rfl
    have h3_V : V.cell? ⟨w.heap.size, 3, none⟩ = some (.int .i64 v) := by rw [HBV.out.cell]; rfl
    have h4_V : V.cell? ⟨w.heap.size, 4, none⟩ = some (.string s) := by rw [HBV.out.cell]; rfl
    have h5_V : V.cell? ⟨w.heap.size, 5, none⟩ = some (.slice A xs.length c) := by rw [HBV.out.cell]; rfl
    cases vb with
    | false =>
      have hl2 : l1 = l := by have h_ := hl1.out; simpa using h_.symm
      go_wp2_with fail
      have own1 : Hid (V.ownsRow B 9 1 (.slice AR nl cR) (l1).length (sv (l1))) := Lib.hid (by rw [hl2, hnl]; exact own_after own0.out awV)
      have rt1 : Hid (RowTo V V (.slice AR nl cR) (.slice AR nl cR)) := Lib.hid (RowTo.refl _ _)
      have HB1 := HBV
      have ownW0 := own0
      have a0V : After w0 V := after_after aft awV
      clear h0_V h1_V h2_V h3_V h4_V h5_V
      go_loopw [2, 7] (fun q i wr => ∃ (j : Nat) (rj : Value) (lj : List ByteArray), j ≤ xs.length ∧ i = .int .i64 (j : Nat) ∧ rj = q ∧ Hid (Tx.nmss inst k 0 (xs.take j) l1 = lj) ∧ Hid (wr.ownsRow B 9 1 rj (lj).length (sv (lj))) ∧ Hid (RowTo V wr (.slice AR nl cR) rj) ∧ Hid (Blk wr w.heap.size 24 #[.int .i64 k, .int .i64 o, .int .i64 t, .int .i64 v, .string s, .slice A xs.length c]) ∧ lj.length ≤ l1.length + Tx.sizes (xs.take j)) (fun _ i _ => xs.length - (intOf i).toNat)
      case atStart => exact ⟨0, _, l1, by omega, rfl, rfl, Lib.hid (by simp [Tx.nmss]), own1, rt1, HB1, by simp [Tx.sizes]⟩
      case round =>
        obtain ⟨j, rj, lj, hj, rfl, rfl, HLJ, ownj, rtj, HBj, hlj⟩ := hrel
        have lB_wr : Le (w.heap.size + 1) wr := HBj.out.is_le
        have a0_wr : After w0 wr := rtj.out.aft a0V (own_after own0.out awV) hB
        have hnej : some w.heap.size ≠ rj.ownBlock := rtj.out.old (by have := lB_V.le; omega) hne
        have h0_wr : wr.cell? ⟨w.heap.size, 0, none⟩ = some (.int .i64 k) := by rw [HBj.out.cell]; rfl
        have h1_wr : wr.cell? ⟨w.heap.size, 1, none⟩ = some (.int .i64 o) := by rw [HBj.out.cell]; rfl
        have h2_wr : wr.cell? ⟨w.heap.size, 2, none⟩ = some (.int .i64 t) := by rw [HBj.out.cell]; rfl
        have h3_wr : wr.cell? ⟨w.heap.size, 3, none⟩ = some (.int .i64 v) := by rw [HBj.out.cell]; rfl
        have h4_wr : wr.cell? ⟨w.heap.size, 4, none⟩ = some (.string s) := by rw [HBj.out.cell]; rfl
        have h5_wr : wr.cell? ⟨w.heap.size, 5, none⟩ = some (.slice A xs.length c) := by rw [HBj.out.cell]; rfl
        have htl := Tx.sizes_take_le xs j
        by_cases hlt : j < xs.length
        · have hltI : (j : Int) < (xs.length : Int) := by omega
          obtain ⟨b, p, k1, o1, t1, v1, s1, A1, c1, xs1, rfl, hb1, HX1, HR1, e0, e1, e2, e3, e4, e5⟩ := (x.out.here wr).part (i := j) hlt
          have x1_ := Lib.hid (x.out.all (.mk k1 o1 t1 v1 s1 A1 c1 xs1) (List.mem_of_getElem? HX1.out))
          have hst := Tx.sizes_take HX1.out
          have HLT := Lib.hid (Tx.nmss_take (inst := inst) (k := k) HX1.out l1)
          have hnl2 := Tx.nms_length inst (.mk k1 o1 t1 v1 s1 A1 c1 xs1) lj
          have htl1 := Tx.sizes_take_le xs (j + 1)
          have hle1 : Tx.sizes (xs.take (j + 1)) ≤ N := by omega
          have HC : Hid (∀ U, After wr U → Calls Try.prog 43 #[.agg #[.int .i64 k1, .int .i64 o1, .int .i64 t1, .int .i64 v1, .string s1, .slice A1 xs1.length c1], .bool inst, rj] U fun e w' => ∃ r', e = .returned r' ∧ w'.ownsRow B 9 1 r' (Tx.nms inst (Tx.mk k1 o1 t1 v1 s1 A1 c1 xs1) lj).length (sv (Tx.nms inst (Tx.mk k1 o1 t1 v1 s1 A1 c1 xs1) lj)) ∧ RowTo U w' rj r') := Lib.hid fun U hU => ih.out _ _ _ _ _ _ _ _ w0 B _ _ (by omega) x1_.out hB U (after_after a0_wr hU) (by have := rtj.out.size; have := hU.below.size; have := awV.below.size; omega) (own_after ownj.out hU) (by omega)
          have hlj2 : (Tx.nms inst (.mk k1 o1 t1 v1 s1 A1 c1 xs1) lj).length ≤ l1.length + Tx.sizes (xs.take (j + 1)) := by omega
          have hlj3 : lj.length ≤ l1.length + Tx.sizes (xs.take (j + 1)) := by omega
          replace hst := Lib.hid hst
          clear hle1 htl htl1 hnl2
          obtain ⟨eC, heC⟩ : ∃ eC, Tx.mk k1 o1 t1 v1 s1 A1 c1 xs1 = eC := ⟨_, rfl⟩
          rw [heC] at HC HLT hlj2
          replace heC := Lib.hid heC
          by_cases hi : inst = true
          · subst hi
            by_cases h5 : k = 5
            · have h5B : (k == 5) = true := by simpa using h5
              replace h5 := Lib.hid h5
              have HLN : Hid (Tx.nmss true k 0 (xs.take (j + 1)) l1 = lj) := Lib.hid (by rw [HLT.out, if_pos (by unfold skipB; simp [h5.out]), HLJ.out])
              go_wp2_with fail
              go_roundw
              case rel => exact ⟨j + 1, _, lj, by omega, by go_num, rfl, HLN, ownj, rtj, HBj, hlj3⟩
              case measure => simp [intOf]; omega
            · have h5B : (k == 5) = false := by simpa using h5
              replace h5 := Lib.hid h5
              by_cases h7 : k = 7
              · have h7B : (k == 7) = true := by simpa using h7
                replace h7 := Lib.hid h7
                by_cases hj0 : 0 < j
                · have hj0B : decide ((0 : Int) < (j : Int)) = true := decide_eq_true (by omega)
                  replace hj0 := Lib.hid hj0
                  have HLN : Hid (Tx.nmss true k 0 (xs.take (j + 1)) l1 = lj) := Lib.hid (by rw [HLT.out, if_pos (by unfold skipB; simp [h7.out, hj0.out]), HLJ.out])
                  go_wp2_with fail
                  go_roundw
                  case rel => exact ⟨j + 1, _, lj, by omega, by go_num, rfl, HLN, ownj, rtj, HBj, hlj3⟩
                  case measure => simp [intOf]; omega
                · have hj0B : decide ((0 : Int) < (j : Int)) = false := decide_eq_false (by omega)
                  replace hj0 := Lib.hid hj0
                  have HLN : Hid (Tx.nmss true k 0 (xs.take (j + 1)) l1 = Tx.nms true eC lj) := Lib.hid (by rw [HLT.out, if_neg (by unfold skipB; simp [h7.out, hj0.out]), HLJ.out])
                  go_wp2_with fail
                  have aU : After wr wr := inferInstance
                  refine (HC.out wr aU).mono ?_
                  rintro e w2 ⟨r2, rfl, own2, rt2⟩
                  replace own2 := Lib.hid own2
                  replace rt2 := Lib.hid (RowTo.pre aU rt2)
                  have HB2 := Lib.hid (rt2.out.blk HBj.out hnej)
                  go_wp2_with fail
                  go_roundw
                  case rel => exact ⟨j + 1, r2, _, by omega, by go_num, rfl, HLN, own2, Lib.hid (rtj.out.trans rt2.out), HB2, hlj2⟩
                  case measure => simp [intOf]; omega
              · have h7B : (k == 7) = false := by simpa using h7
                replace h7 := Lib.hid h7
                have HLN : Hid (Tx.nmss true k 0 (xs.take (j + 1)) l1 = Tx.nms true eC lj) := Lib.hid (by rw [HLT.out, if_neg (by unfold skipB; simp [h5.out, h7.out]), HLJ.out])
                go_wp2_with fail
                have aU : After wr wr := inferInstance
                refine (HC.out wr aU).mono ?_
                rintro e w2 ⟨r2, rfl, own2, rt2⟩
                replace own2 := Lib.hid own2
                replace rt2 := Lib.hid (RowTo.pre aU rt2)
                have HB2 := Lib.hid (rt2.out.blk HBj.out hnej)
                go_wp2_with fail
                go_roundw
                case rel => exact ⟨j + 1, r2, _, by omega, by go_num, rfl, HLN, own2, Lib.hid (rtj.out.trans rt2.out), HB2, hlj2⟩
                case measure => simp [intOf]; omega
          · have hi2 : inst = false := by simpa using hi
            subst hi2
            have HLN : Hid (Tx.nmss false k 0 (xs.take (j + 1)) l1 = Tx.nms false eC lj) := Lib.hid (by rw [HLT.out, if_neg (by unfold skipB; simp), HLJ.out])
            go_wp2_with fail
            have aU : After wr wr := inferInstance
            refine (HC.out wr aU).mono ?_
            rintro e w2 ⟨r2, rfl, own2, rt2⟩
            replace own2 := Lib.hid own2
            replace rt2 := Lib.hid (RowTo.pre aU rt2)
            have HB2 := Lib.hid (rt2.out.blk HBj.out hnej)
            go_wp2_with fail
            go_roundw
            case rel => exact ⟨j + 1, r2, _, by omega, by go_num, rfl, HLN, own2, Lib.hid (rtj.out.trans rt2.out), HB2, hlj2⟩
            case measure => simp [intOf]; omega
        · obtain rfl : j = xs.length := by omega
          rw [List.take_length] at HLJ
          go_wp2_with fail
          go_ret
          refine ⟨_, rfl, ?_, rtj.out.pre awV⟩
          rw [HLJ.out]
          exact ownj.out
    | true =>
      go_wp2_with fail
      refine (HH.out _ awV).mono ?_
      rintro _ _ ⟨rfl, rfl⟩
      cases hb with
      | true =>
        have hl2 : l1 = l := by have h_ := hl1.out; simpa using h_.symm
        go_wp2_with fail
        have own1 : Hid (V.ownsRow B 9 1 (.slice AR nl cR) (l1).length (sv (l1))) := Lib.hid (by rw [hl2, hnl]; exact own_after own0.out awV)
        have rt1 : Hid (RowTo V V (.slice AR nl cR) (.slice AR nl cR)) := Lib.hid (RowTo.refl _ _)
        have HB1 := HBV
        have ownW0 := own0
        have a0V : After w0 V := after_after aft awV
        clear h0_V h1_V h2_V h3_V h4_V h5_V
        go_loopw [2, 7] (fun q i wr => ∃ (j : Nat) (rj : Value) (lj : List ByteArray), j ≤ xs.length ∧ i = .int .i64 (j : Nat) ∧ rj = q ∧ Hid (Tx.nmss inst k 0 (xs.take j) l1 = lj) ∧ Hid (wr.ownsRow B 9 1 rj (lj).length (sv (lj))) ∧ Hid (RowTo V wr (.slice AR nl cR) rj) ∧ Hid (Blk wr w.heap.size 24 #[.int .i64 k, .int .i64 o, .int .i64 t, .int .i64 v, .string s, .slice A xs.length c]) ∧ lj.length ≤ l1.length + Tx.sizes (xs.take j)) (fun _ i _ => xs.length - (intOf i).toNat)
        case atStart => exact ⟨0, _, l1, by omega, rfl, rfl, Lib.hid (by simp [Tx.nmss]), own1, rt1, HB1, by simp [Tx.sizes]⟩
        case round =>
          obtain ⟨j, rj, lj, hj, rfl, rfl, HLJ, ownj, rtj, HBj, hlj⟩ := hrel
          have lB_wr : Le (w.heap.size + 1) wr := HBj.out.is_le
          have a0_wr : After w0 wr := rtj.out.aft a0V (own_after own0.out awV) hB
          have hnej : some w.heap.size ≠ rj.ownBlock := rtj.out.old (by have := lB_V.le; omega) hne
          have h0_wr : wr.cell? ⟨w.heap.size, 0, none⟩ = some (.int .i64 k) := by rw [HBj.out.cell]; rfl
          have h1_wr : wr.cell? ⟨w.heap.size, 1, none⟩ = some (.int .i64 o) := by rw [HBj.out.cell]; rfl
          have h2_wr : wr.cell? ⟨w.heap.size, 2, none⟩ = some (.int .i64 t) := by rw [HBj.out.cell]; rfl
          have h3_wr : wr.cell? ⟨w.heap.size, 3, none⟩ = some (.int .i64 v) := by rw [HBj.out.cell]; rfl
          have h4_wr : wr.cell? ⟨w.heap.size, 4, none⟩ = some (.string s) := by rw [HBj.out.cell]; rfl
          have h5_wr : wr.cell? ⟨w.heap.size, 5, none⟩ = some (.slice A xs.length c) := by rw [HBj.out.cell]; rfl
          have htl := Tx.sizes_take_le xs j
          by_cases hlt : j < xs.length
          · have hltI : (j : Int) < (xs.length : Int) := by omega
            obtain ⟨b, p, k1, o1, t1, v1, s1, A1, c1, xs1, rfl, hb1, HX1, HR1, e0, e1, e2, e3, e4, e5⟩ := (x.out.here wr).part (i := j) hlt
            have x1_ := Lib.hid (x.out.all (.mk k1 o1 t1 v1 s1 A1 c1 xs1) (List.mem_of_getElem? HX1.out))
            have hst := Tx.sizes_take HX1.out
            have HLT := Lib.hid (Tx.nmss_take (inst := inst) (k := k) HX1.out l1)
            have hnl2 := Tx.nms_length inst (.mk k1 o1 t1 v1 s1 A1 c1 xs1) lj
            have htl1 := Tx.sizes_take_le xs (j + 1)
            have hle1 : Tx.sizes (xs.take (j + 1)) ≤ N := by omega
            have HC : Hid (∀ U, After wr U → Calls Try.prog 43 #[.agg #[.int .i64 k1, .int .i64 o1, .int .i64 t1, .int .i64 v1, .string s1, .slice A1 xs1.length c1], .bool inst, rj] U fun e w' => ∃ r', e = .returned r' ∧ w'.ownsRow B 9 1 r' (Tx.nms inst (Tx.mk k1 o1 t1 v1 s1 A1 c1 xs1) lj).length (sv (Tx.nms inst (Tx.mk k1 o1 t1 v1 s1 A1 c1 xs1) lj)) ∧ RowTo U w' rj r') := Lib.hid fun U hU => ih.out _ _ _ _ _ _ _ _ w0 B _ _ (by omega) x1_.out hB U (after_after a0_wr hU) (by have := rtj.out.size; have := hU.below.size; have := awV.below.size; omega) (own_after ownj.out hU) (by omega)
            have hlj2 : (Tx.nms inst (.mk k1 o1 t1 v1 s1 A1 c1 xs1) lj).length ≤ l1.length + Tx.sizes (xs.take (j + 1)) := by omega
            have hlj3 : lj.length ≤ l1.length + Tx.sizes (xs.take (j + 1)) := by omega
            replace hst := Lib.hid hst
            clear hle1 htl htl1 hnl2
            obtain ⟨eC, heC⟩ : ∃ eC, Tx.mk k1 o1 t1 v1 s1 A1 c1 xs1 = eC := ⟨_, rfl⟩
            rw [heC] at HC HLT hlj2
            replace heC := Lib.hid heC
            by_cases hi : inst = true
            · subst hi
              by_cases h5 : k = 5
              · have h5B : (k == 5) = true := by simpa using h5
                replace h5 := Lib.hid h5
                have HLN : Hid (Tx.nmss true k 0 (xs.take (j + 1)) l1 = lj) := Lib.hid (by rw [HLT.out, if_pos (by unfold skipB; simp [h5.out]), HLJ.out])
                go_wp2_with fail
                go_roundw
                case rel => exact ⟨j + 1, _, lj, by omega, by go_num, rfl, HLN, ownj, rtj, HBj, hlj3⟩
                case measure => simp [intOf]; omega
              · have h5B : (k == 5) = false := by simpa using h5
                replace h5 := Lib.hid h5
                by_cases h7 : k = 7
                · have h7B : (k == 7) = true := by simpa using h7
                  replace h7 := Lib.hid h7
                  by_cases hj0 : 0 < j
                  · have hj0B : decide ((0 : Int) < (j : Int)) = true := decide_eq_true (by omega)
                    replace hj0 := Lib.hid hj0
                    have HLN : Hid (Tx.nmss true k 0 (xs.take (j + 1)) l1 = lj) := Lib.hid (by rw [HLT.out, if_pos (by unfold skipB; simp [h7.out, hj0.out]), HLJ.out])
                    go_wp2_with fail
                    go_roundw
                    case rel => exact ⟨j + 1, _, lj, by omega, by go_num, rfl, HLN, ownj, rtj, HBj, hlj3⟩
                    case measure => simp [intOf]; omega
                  · have hj0B : decide ((0 : Int) < (j : Int)) = false := decide_eq_false (by omega)
                    replace hj0 := Lib.hid hj0
                    have HLN : Hid (Tx.nmss true k 0 (xs.take (j + 1)) l1 = Tx.nms true eC lj) := Lib.hid (by rw [HLT.out, if_neg (by unfold skipB; simp [h7.out, hj0.out]), HLJ.out])
                    go_wp2_with fail
                    have aU : After wr wr := inferInstance
                    refine (HC.out wr aU).mono ?_
                    rintro e w2 ⟨r2, rfl, own2, rt2⟩
                    replace own2 := Lib.hid own2
                    replace rt2 := Lib.hid (RowTo.pre aU rt2)
                    have HB2 := Lib.hid (rt2.out.blk HBj.out hnej)
                    go_wp2_with fail
                    go_roundw
                    case rel => exact ⟨j + 1, r2, _, by omega, by go_num, rfl, HLN, own2, Lib.hid (rtj.out.trans rt2.out), HB2, hlj2⟩
                    case measure => simp [intOf]; omega
                · have h7B : (k == 7) = false := by simpa using h7
                  replace h7 := Lib.hid h7
                  have HLN : Hid (Tx.nmss true k 0 (xs.take (j + 1)) l1 = Tx.nms true eC lj) := Lib.hid (by rw [HLT.out, if_neg (by unfold skipB; simp [h5.out, h7.out]), HLJ.out])
                  go_wp2_with fail
                  have aU : After wr wr := inferInstance
                  refine (HC.out wr aU).mono ?_
                  rintro e w2 ⟨r2, rfl, own2, rt2⟩
                  replace own2 := Lib.hid own2
                  replace rt2 := Lib.hid (RowTo.pre aU rt2)
                  have HB2 := Lib.hid (rt2.out.blk HBj.out hnej)
                  go_wp2_with fail
                  go_roundw
                  case rel => exact ⟨j + 1, r2, _, by omega, by go_num, rfl, HLN, own2, Lib.hid (rtj.out.trans rt2.out), HB2, hlj2⟩
                  case measure => simp [intOf]; omega
            · have hi2 : inst = false := by simpa using hi
              subst hi2
              have HLN : Hid (Tx.nmss false k 0 (xs.take (j + 1)) l1 = Tx.nms false eC lj) := Lib.hid (by rw [HLT.out, if_neg (by unfold skipB; simp), HLJ.out])
              go_wp2_with fail
              have aU : After wr wr := inferInstance
              refine (HC.out wr aU).mono ?_
              rintro e w2 ⟨r2, rfl, own2, rt2⟩
              replace own2 := Lib.hid own2
              replace rt2 := Lib.hid (RowTo.pre aU rt2)
              have HB2 := Lib.hid (rt2.out.blk HBj.out hnej)
              go_wp2_with fail
              go_roundw
              case rel => exact ⟨j + 1, r2, _, by omega, by go_num, rfl, HLN, own2, Lib.hid (rtj.out.trans rt2.out), HB2, hlj2⟩
              case measure => simp [intOf]; omega
          · obtain rfl : j = xs.length := by omega
            rw [List.take_length] at HLJ
            go_wp2_with fail
            go_ret
            refine ⟨_, rfl, ?_, rtj.out.pre awV⟩
            rw [HLJ.out]
            exact ownj.out
      | false =>
        have hl2 : l1 = l ++ [s] := by have h_ := hl1.out; simpa using h_.symm
        have ownV := own_after own0.out awV
        go_wp2_with (at_builtin; refine wpList_append_any (V.alloc (.cells #[.string s] 9)) rfl (.tmp 17) (.tmp 20) 32 rfl B 9 i0 _ 1 16 Try.underlying32 hi0 hz0 hz1 hz2 rfl (by decide) (.slice AR nl cR) nl (sv l) rfl (own_after ownV (w' := V.alloc (.cells #[.string s] 9)) inferInstance) _ _ 1 1 [.string s] rfl (cells_flat (w := V) rfl #[.string s] 9 _ rfl 1 1 rfl) (by intro u hu; simp only [List.mem_cons, List.not_mem_nil, or_false] at hu; subst hu; rfl) (by unfold maxLen; omega) (by omega) (by have := awV.below.size; simp only [size_alloc_]; omega) ?_; intro r1 W1 own1 hg1 hnx1; have HB1 := Lib.hid ((HBV.out.alloc _).grown hg1 hne); have lB_W1 := HB1.out.is_le; have h5_W1 : W1.cell? ⟨w.heap.size, 5, none⟩ = some (.slice A xs.length c) := (HB1.out.cell 5).trans rfl; have rt1 := Lib.hid (RowTo.pre (inferInstance : After V (V.alloc (.cells #[.string s] 9))) (RowTo.of_app hg1 hnx1)); clear hg1 hnx1; replace own1 : Hid (W1.ownsRow B 9 1 r1 (l1).length (sv (l1))) := Lib.hid (by rw [hl2, List.length_append, List.length_singleton, hnl, sv_app]; exact own1))
        have ownW0 := own0
        have a0V : After w0 V := after_after aft awV
        clear h0_V h1_V h2_V h3_V h4_V h5_V
        go_loopw [2, 7] (fun q i wr => ∃ (j : Nat) (rj : Value) (lj : List ByteArray), j ≤ xs.length ∧ i = .int .i64 (j : Nat) ∧ rj = q ∧ Hid (Tx.nmss inst k 0 (xs.take j) l1 = lj) ∧ Hid (wr.ownsRow B 9 1 rj (lj).length (sv (lj))) ∧ Hid (RowTo V wr (.slice AR nl cR) rj) ∧ Hid (Blk wr w.heap.size 24 #[.int .i64 k, .int .i64 o, .int .i64 t, .int .i64 v, .string s, .slice A xs.length c]) ∧ lj.length ≤ l1.length + Tx.sizes (xs.take j)) (fun _ i _ => xs.length - (intOf i).toNat)
        case atStart => exact ⟨0, _, l1, by omega, rfl, rfl, Lib.hid (by simp [Tx.nmss]), own1, rt1, HB1, by simp [Tx.sizes]⟩
        case round =>
          obtain ⟨j, rj, lj, hj, rfl, rfl, HLJ, ownj, rtj, HBj, hlj⟩ := hrel
          have lB_wr : Le (w.heap.size + 1) wr := HBj.out.is_le
          have a0_wr : After w0 wr := rtj.out.aft a0V (own_after own0.out awV) hB
          have hnej : some w.heap.size ≠ rj.ownBlock := rtj.out.old (by have := lB_V.le; omega) hne
          have h0_wr : wr.cell? ⟨w.heap.size, 0, none⟩ = some (.int .i64 k) := by rw [HBj.out.cell]; rfl
          have h1_wr : wr.cell? ⟨w.heap.size, 1, none⟩ = some (.int .i64 o) := by rw [HBj.out.cell]; rfl
          have h2_wr : wr.cell? ⟨w.heap.size, 2, none⟩ = some (.int .i64 t) := by rw [HBj.out.cell]; rfl
          have h3_wr : wr.cell? ⟨w.heap.size, 3, none⟩ = some (.int .i64 v) := by rw [HBj.out.cell]; rfl
          have h4_wr : wr.cell? ⟨w.heap.size, 4, none⟩ = some (.string s) := by rw [HBj.out.cell]; rfl
          have h5_wr : wr.cell? ⟨w.heap.size, 5, none⟩ = some (.slice A xs.length c) := by rw [HBj.out.cell]; rfl
          have htl := Tx.sizes_take_le xs j
          by_cases hlt : j < xs.length
          · have hltI : (j : Int) < (xs.length : Int) := by omega
            obtain ⟨b, p, k1, o1, t1, v1, s1, A1, c1, xs1, rfl, hb1, HX1, HR1, e0, e1, e2, e3, e4, e5⟩ := (x.out.here wr).part (i := j) hlt
            have x1_ := Lib.hid (x.out.all (.mk k1 o1 t1 v1 s1 A1 c1 xs1) (List.mem_of_getElem? HX1.out))
            have hst := Tx.sizes_take HX1.out
            have HLT := Lib.hid (Tx.nmss_take (inst := inst) (k := k) HX1.out l1)
            have hnl2 := Tx.nms_length inst (.mk k1 o1 t1 v1 s1 A1 c1 xs1) lj
            have htl1 := Tx.sizes_take_le xs (j + 1)
            have hle1 : Tx.sizes (xs.take (j + 1)) ≤ N := by omega
            have HC : Hid (∀ U, After wr U → Calls Try.prog 43 #[.agg #[.int .i64 k1, .int .i64 o1, .int .i64 t1, .int .i64 v1, .string s1, .slice A1 xs1.length c1], .bool inst, rj] U fun e w' => ∃ r', e = .returned r' ∧ w'.ownsRow B 9 1 r' (Tx.nms inst (Tx.mk k1 o1 t1 v1 s1 A1 c1 xs1) lj).length (sv (Tx.nms inst (Tx.mk k1 o1 t1 v1 s1 A1 c1 xs1) lj)) ∧ RowTo U w' rj r') := Lib.hid fun U hU => ih.out _ _ _ _ _ _ _ _ w0 B _ _ (by omega) x1_.out hB U (after_after a0_wr hU) (by have := rtj.out.size; have := hU.below.size; have := awV.below.size; omega) (own_after ownj.out hU) (by omega)
            have hlj2 : (Tx.nms inst (.mk k1 o1 t1 v1 s1 A1 c1 xs1) lj).length ≤ l1.length + Tx.sizes (xs.take (j + 1)) := by omega
            have hlj3 : lj.length ≤ l1.length + Tx.sizes (xs.take (j + 1)) := by omega
            replace hst := Lib.hid hst
            clear hle1 htl htl1 hnl2
            obtain ⟨eC, heC⟩ : ∃ eC, Tx.mk k1 o1 t1 v1 s1 A1 c1 xs1 = eC := ⟨_, rfl⟩
            rw [heC] at HC HLT hlj2
            replace heC := Lib.hid heC
            by_cases hi : inst = true
            · subst hi
              by_cases h5 : k = 5
              · have h5B : (k == 5) = true := by simpa using h5
                replace h5 := Lib.hid h5
                have HLN : Hid (Tx.nmss true k 0 (xs.take (j + 1)) l1 = lj) := Lib.hid (by rw [HLT.out, if_pos (by unfold skipB; simp [h5.out]), HLJ.out])
                go_wp2_with fail
                go_roundw
                case rel => exact ⟨j + 1, _, lj, by omega, by go_num, rfl, HLN, ownj, rtj, HBj, hlj3⟩
                case measure => simp [intOf]; omega
              · have h5B : (k == 5) = false := by simpa using h5
                replace h5 := Lib.hid h5
                by_cases h7 : k = 7
                · have h7B : (k == 7) = true := by simpa using h7
                  replace h7 := Lib.hid h7
                  by_cases hj0 : 0 < j
                  · have hj0B : decide ((0 : Int) < (j : Int)) = true := decide_eq_true (by omega)
                    replace hj0 := Lib.hid hj0
                    have HLN : Hid (Tx.nmss true k 0 (xs.take (j + 1)) l1 = lj) := Lib.hid (by rw [HLT.out, if_pos (by unfold skipB; simp [h7.out, hj0.out]), HLJ.out])
                    go_wp2_with fail
                    go_roundw
                    case rel => exact ⟨j + 1, _, lj, by omega, by go_num, rfl, HLN, ownj, rtj, HBj, hlj3⟩
                    case measure => simp [intOf]; omega
                  · have hj0B : decide ((0 : Int) < (j : Int)) = false := decide_eq_false (by omega)
                    replace hj0 := Lib.hid hj0
                    have HLN : Hid (Tx.nmss true k 0 (xs.take (j + 1)) l1 = Tx.nms true eC lj) := Lib.hid (by rw [HLT.out, if_neg (by unfold skipB; simp [h7.out, hj0.out]), HLJ.out])
                    go_wp2_with fail
                    have aU : After wr wr := inferInstance
                    refine (HC.out wr aU).mono ?_
                    rintro e w2 ⟨r2, rfl, own2, rt2⟩
                    replace own2 := Lib.hid own2
                    replace rt2 := Lib.hid (RowTo.pre aU rt2)
                    have HB2 := Lib.hid (rt2.out.blk HBj.out hnej)
                    go_wp2_with fail
                    go_roundw
                    case rel => exact ⟨j + 1, r2, _, by omega, by go_num, rfl, HLN, own2, Lib.hid (rtj.out.trans rt2.out), HB2, hlj2⟩
                    case measure => simp [intOf]; omega
                · have h7B : (k == 7) = false := by simpa using h7
                  replace h7 := Lib.hid h7
                  have HLN : Hid (Tx.nmss true k 0 (xs.take (j + 1)) l1 = Tx.nms true eC lj) := Lib.hid (by rw [HLT.out, if_neg (by unfold skipB; simp [h5.out, h7.out]), HLJ.out])
                  go_wp2_with fail
                  have aU : After wr wr := inferInstance
                  refine (HC.out wr aU).mono ?_
                  rintro e w2 ⟨r2, rfl, own2, rt2⟩
                  replace own2 := Lib.hid own2
                  replace rt2 := Lib.hid (RowTo.pre aU rt2)
                  have HB2 := Lib.hid (rt2.out.blk HBj.out hnej)
                  go_wp2_with fail
                  go_roundw
                  case rel => exact ⟨j + 1, r2, _, by omega, by go_num, rfl, HLN, own2, Lib.hid (rtj.out.trans rt2.out), HB2, hlj2⟩
                  case measure => simp [intOf]; omega
            · have hi2 : inst = false := by simpa using hi
              subst hi2
              have HLN : Hid (Tx.nmss false k 0 (xs.take (j + 1)) l1 = Tx.nms false eC lj) := Lib.hid (by rw [HLT.out, if_neg (by unfold skipB; simp), HLJ.out])
              go_wp2_with fail
              have aU : After wr wr := inferInstance
              refine (HC.out wr aU).mono ?_
              rintro e w2 ⟨r2, rfl, own2, rt2⟩
              replace own2 := Lib.hid own2
              replace rt2 := Lib.hid (RowTo.pre aU rt2)
              have HB2 := Lib.hid (rt2.out.blk HBj.out hnej)
              go_wp2_with fail
              go_roundw
              case rel => exact ⟨j + 1, r2, _, by omega, by go_num, rfl, HLN, own2, Lib.hid (rtj.out.trans rt2.out), HB2, hlj2⟩
              case measure => simp [intOf]; omega
          · obtain rfl : j = xs.length := by omega
            rw [List.take_length] at HLJ
            go_wp2_with fail
            go_ret
            refine ⟨_, rfl, ?_, rtj.out.pre awV⟩
            rw [HLJ.out]
            exact ownj.out

set_option maxRecDepth 100000 in
set_option maxHeartbeats 3200000 in
theorem names_n (inst : Bool) (N : Nat) (hN : N ≤ 1000000) : ∀ (k o t v : Int) (s : ByteArray) (A : Option Addr) (c : Nat) (xs : List Tx) (w0 : World) (B : Nat) (r : Value) (l : List ByteArray), (Tx.mk k o t v s A c xs).size ≤ N → RX w0 (.mk k o t v s A c xs) → w0.heap.size ≤ B → ∀ w : World, After w0 w → B ≤ w.heap.size → w.ownsRow B 9 1 r (l).length (sv (l)) → l.length + (Tx.mk k o t v s A c xs).size ≤ 1000000 →
    Calls Try.prog 42 #[r, .agg #[.int .i64 k, .int .i64 o, .int .i64 t, .int .i64 v, .string s, .slice A xs.length c], .bool inst] w fun e w' => ∃ r', e = .returned r' ∧ w'.ownsRow B 9 1 r' (Tx.nms inst (Tx.mk k o t v s A c xs) l).length (sv (Tx.nms inst (Tx.mk k o t v s A c xs) l)) ∧ RowTo w w' r r' := by
  induction N with
  | zero =>
    intro k o t v s A c xs w0 B r l hs
    simp [Tx.size] at hs
  | succ N ih =>
    intro k o t v s A c xs w0 B r l hs x hB w aft hBw own hn
    replace x := Lib.hid x
    replace ih := Lib.hid (ih (by omega))
    rw [Tx.size] at hs hn
    rw [Tx.nms]
    have hbd := x.out.bounds
    simp only [Tx.args, Tx.cap, Tx.name] at hbd
    obtain ⟨hb1_, hb2_, hb3_, hb4_⟩ := hbd
    obtain ⟨i0, hi0, hz0, hz1, hz2⟩ := info_parts strInfo
    have hne : some w.heap.size ≠ r.ownBlock := by intro e; have := (own.lt _ e.symm).2; omega
    obtain ⟨AR, cR, hR, HR⟩ := RSt.of_row own (by omega)
    subst hR
    have HV : Hid (∀ U : World, Calls Try.prog 54 #[.agg #[.int .i64 k, .int .i64 o, .int .i64 t, .int .i64 v, .string s, .slice A xs.length c]] U fun e w' => e = .returned (.bool (varB k)) ∧ After U w') := Lib.hid fun U => variable_any U
    have HH : Hid (∀ U : World, After w U → Calls Try.prog 64 #[.slice AR l.length cR, .string s] U fun e w' => e = .returned (.bool (hasB l s)) ∧ U = w') := Lib.hid fun U hU => contains_any (w0 := U) (HR U hU) s U inferInstance
    clear HR
    obtain ⟨l1, hl1⟩ : ∃ l1, (if varB k && !hasB l s then l ++ [s] else l) = l1 := ⟨_, rfl⟩
    rw [hl1]
    obtain ⟨vb, hvb⟩ : ∃ vb, varB k = vb := ⟨_, rfl⟩
    obtain ⟨hb, hhb⟩ : ∃ hb, hasB l s = hb := ⟨_, rfl⟩
    rw [hvb] at HV hl1
    rw [hhb] at HH hl1
    clear hvb hhb
    have hl1n : l1.length ≤ l.length + 1 := by rw [← hl1]; split <;> simp
    replace hl1 := Lib.hid hl1
    obtain ⟨nl, hnl⟩ : ∃ nl, l.length = nl := ⟨_, rfl⟩
    rw [hnl] at HH own hn hl1n hne
    have own0 := Lib.hid own
    clear own
    rw [hnl]
    go_enter Try.func42, Try.ntmps42
    go_wp2_with fail
    refine (HV.out _).mono ?_
    rintro _ V ⟨rfl, aV⟩
    have HBV := Lib.hid ((Blk.new w 24 #[.int .i64 k, .int .i64 o, .int .i64 t, .int .i64 v, .string s, .slice A xs.length c]).after (k := aV))
    have awV : After w V := after_after inferInstance aV
    clear HV
    have lB_V : Le (w.heap.size + 1) V := HBV.out.is_le
    have h0_V : V.cell? ⟨w.heap.size, 0, none⟩ = some (.int .i64 k) := by rw [HBV.out.cell]; rfl
    have h1_V : V.cell? ⟨w.heap.size, 1, none⟩ = some (.int .i64 o) := by rw [HBV.out.cell]; rfl
    have h2_V : V.cell? ⟨w.heap.size, 2, none⟩ = some (.int .i64 t) := by rw [HBV.out.cell]; rfl
    have h3_V : V.cell? ⟨w.heap.size, 3, none⟩ = some (.int .i64 v) := by rw [HBV.out.cell]; rfl
    have h4_V : V.cell? ⟨w.heap.size, 4, none⟩ = some (.string s) := by rw [HBV.out.cell]; rfl
    have h5_V : V.cell? ⟨w.heap.size, 5, none⟩ = some (.slice A xs.length c) := by rw [HBV.out.cell]; rfl
    cases vb with
    | false =>
      have hl2 : l1 = l := by have h_ := hl1.out; simpa using h_.symm
      go_wp2_with fail
      have own1 : Hid (V.ownsRow B 9 1 (.slice AR nl cR) (l1).length (sv (l1))) := Lib.hid (by rw [hl2, hnl]; exact own_after own0.out awV)
      have rt1 : Hid (RowTo V V (.slice AR nl cR) (.slice AR nl cR)) := Lib.hid (RowTo.refl _ _)
      have HB1 := HBV
      have ownW0 := own0
      have a0V : After w0 V := after_after aft awV
      clear h0_V h1_V h2_V h3_V h4_V h5_V
      go_loopw [0, 26] (fun q i wr => ∃ (j : Nat) (rj : Value) (lj : List ByteArray), j ≤ xs.length ∧ i = .int .i64 (j : Nat) ∧ rj = q ∧ Hid (Tx.nmss inst k 0 (xs.take j) l1 = lj) ∧ Hid (wr.ownsRow B 9 1 rj (lj).length (sv (lj))) ∧ Hid (RowTo V wr (.slice AR nl cR) rj) ∧ Hid (Blk wr w.heap.size 24 #[.int .i64 k, .int .i64 o, .int .i64 t, .int .i64 v, .string s, .slice A xs.length c]) ∧ lj.length ≤ l1.length + Tx.sizes (xs.take j)) (fun _ i _ => xs.length - (intOf i).toNat)
      case atStart => exact ⟨0, _, l1, by omega, rfl, rfl, Lib.hid (by simp [Tx.nmss]), own1, rt1, HB1, by simp [Tx.sizes]⟩
      case round =>
        obtain ⟨j, rj, lj, hj, rfl, rfl, HLJ, ownj, rtj, HBj, hlj⟩ := hrel
        have lB_wr : Le (w.heap.size + 1) wr := HBj.out.is_le
        have a0_wr : After w0 wr := rtj.out.aft a0V (own_after own0.out awV) hB
        have hnej : some w.heap.size ≠ rj.ownBlock := rtj.out.old (by have := lB_V.le; omega) hne
        have h0_wr : wr.cell? ⟨w.heap.size, 0, none⟩ = some (.int .i64 k) := by rw [HBj.out.cell]; rfl
        have h1_wr : wr.cell? ⟨w.heap.size, 1, none⟩ = some (.int .i64 o) := by rw [HBj.out.cell]; rfl
        have h2_wr : wr.cell? ⟨w.heap.size, 2, none⟩ = some (.int .i64 t) := by rw [HBj.out.cell]; rfl
        have h3_wr : wr.cell? ⟨w.heap.size, 3, none⟩ = some (.int .i64 v) := by rw [HBj.out.cell]; rfl
        have h4_wr : wr.cell? ⟨w.heap.size, 4, none⟩ = some (.string s) := by rw [HBj.out.cell]; rfl
        have h5_wr : wr.cell? ⟨w.heap.size, 5, none⟩ = some (.slice A xs.length c) := by rw [HBj.out.cell]; rfl
        have htl := Tx.sizes_take_le xs j
        by_cases hlt : j < xs.length
        · have hltI : (j : Int) < (xs.length : Int) := by omega
          obtain ⟨b, p, k1, o1, t1, v1, s1, A1, c1, xs1, rfl, hb1, HX1, HR1, e0, e1, e2, e3, e4, e5⟩ := (x.out.here wr).part (i := j) hlt
          have x1_ := Lib.hid (x.out.all (.mk k1 o1 t1 v1 s1 A1 c1 xs1) (List.mem_of_getElem? HX1.out))
          have hst := Tx.sizes_take HX1.out
          have HLT := Lib.hid (Tx.nmss_take (inst := inst) (k := k) HX1.out l1)
          have hnl2 := Tx.nms_length inst (.mk k1 o1 t1 v1 s1 A1 c1 xs1) lj
          have htl1 := Tx.sizes_take_le xs (j + 1)
          have hle1 : Tx.sizes (xs.take (j + 1)) ≤ N := by omega
          have HC : Hid (∀ U, After wr U → Calls Try.prog 42 #[rj, .agg #[.int .i64 k1, .int .i64 o1, .int .i64 t1, .int .i64 v1, .string s1, .slice A1 xs1.length c1], .bool inst] U fun e w' => ∃ r', e = .returned r' ∧ w'.ownsRow B 9 1 r' (Tx.nms inst (Tx.mk k1 o1 t1 v1 s1 A1 c1 xs1) lj).length (sv (Tx.nms inst (Tx.mk k1 o1 t1 v1 s1 A1 c1 xs1) lj)) ∧ RowTo U w' rj r') := Lib.hid fun U hU => ih.out _ _ _ _ _ _ _ _ w0 B _ _ (by omega) x1_.out hB U (after_after a0_wr hU) (by have := rtj.out.size; have := hU.below.size; have := awV.below.size; omega) (own_after ownj.out hU) (by omega)
          have hlj2 : (Tx.nms inst (.mk k1 o1 t1 v1 s1 A1 c1 xs1) lj).length ≤ l1.length + Tx.sizes (xs.take (j + 1)) := by omega
          have hlj3 : lj.length ≤ l1.length + Tx.sizes (xs.take (j + 1)) := by omega
          replace hst := Lib.hid hst
          clear hle1 htl htl1 hnl2
          obtain ⟨eC, heC⟩ : ∃ eC, Tx.mk k1 o1 t1 v1 s1 A1 c1 xs1 = eC := ⟨_, rfl⟩
          rw [heC] at HC HLT hlj2
          replace heC := Lib.hid heC
          by_cases hi : inst = true
          · subst hi
            by_cases h5 : k = 5
            · have h5B : (k == 5) = true := by simpa using h5
              replace h5 := Lib.hid h5
              have HLN : Hid (Tx.nmss true k 0 xs l1 = lj) := Lib.hid (by rw [Tx.nmss_rest hj (by unfold skipB; simp [h5.out]), HLJ.out])
              have aU : After wr (wr.alloc (.cells #[.int .i64 k1, .int .i64 o1, .int .i64 t1, .int .i64 v1, .string s1, .slice A1 xs1.length c1] 24)) := inferInstance
              go_wp2_with fail
              go_ret
              refine ⟨_, rfl, ?_, (rtj.out.after aU).pre awV⟩
              rw [HLN.out]
              exact own_after ownj.out aU
            · have h5B : (k == 5) = false := by simpa using h5
              replace h5 := Lib.hid h5
              by_cases h7 : k = 7
              · have h7B : (k == 7) = true := by simpa using h7
                replace h7 := Lib.hid h7
                by_cases hj0 : 0 < j
                · have hj0B : decide ((0 : Int) < (j : Int)) = true := decide_eq_true (by omega)
                  replace hj0 := Lib.hid hj0
                  have HLN : Hid (Tx.nmss true k 0 xs l1 = lj) := Lib.hid (by rw [Tx.nmss_rest hj (by unfold skipB; simp [h7.out, hj0.out]), HLJ.out])
                  have aU : After wr (wr.alloc (.cells #[.int .i64 k1, .int .i64 o1, .int .i64 t1, .int .i64 v1, .string s1, .slice A1 xs1.length c1] 24)) := inferInstance
                  go_wp2_with fail
                  go_ret
                  refine ⟨_, rfl, ?_, (rtj.out.after aU).pre awV⟩
                  rw [HLN.out]
                  exact own_after ownj.out aU
                · have hj0B : decide ((0 : Int) < (j : Int)) = false := decide_eq_false (by omega)
                  replace hj0 := Lib.hid hj0
                  have HLN : Hid (Tx.nmss true k 0 (xs.take (j + 1)) l1 = Tx.nms true eC lj) := Lib.hid (by rw [HLT.out, if_neg (by unfold skipB; simp [h7.out, hj0.out]), HLJ.out])
                  go_wp2_with fail
                  have aU : After wr (wr.alloc (.cells #[.int .i64 k1, .int .i64 o1, .int .i64 t1, .int .i64 v1, .string s1, .slice A1 xs1.length c1] 24)) := inferInstance
                  refine (HC.out _ aU).mono ?_
                  rintro e w2 ⟨r2, rfl, own2, rt2⟩
                  replace own2 := Lib.hid own2
                  replace rt2 := Lib.hid (RowTo.pre aU rt2)
                  have HB2 := Lib.hid (rt2.out.blk HBj.out hnej)
                  go_wp2_with fail
                  go_roundw
                  case rel => exact ⟨j + 1, r2, _, by omega, by go_num, rfl, HLN, own2, Lib.hid (rtj.out.trans rt2.out), HB2, hlj2⟩
                  case measure => simp [intOf]; omega
              · have h7B : (k == 7) = false := by simpa using h7
                replace h7 := Lib.hid h7
                have HLN : Hid (Tx.nmss true k 0 (xs.take (j + 1)) l1 = Tx.nms true eC lj) := Lib.hid (by rw [HLT.out, if_neg (by unfold skipB; simp [h5.out, h7.out]), HLJ.out])
                go_wp2_with fail
                have aU : After wr (wr.alloc (.cells #[.int .i64 k1, .int .i64 o1, .int .i64 t1, .int .i64 v1, .string s1, .slice A1 xs1.length c1] 24)) := inferInstance
                refine (HC.out _ aU).mono ?_
                rintro e w2 ⟨r2, rfl, own2, rt2⟩
                replace own2 := Lib.hid own2
                replace rt2 := Lib.hid (RowTo.pre aU rt2)
                have HB2 := Lib.hid (rt2.out.blk HBj.out hnej)
                go_wp2_with fail
                go_roundw
                case rel => exact ⟨j + 1, r2, _, by omega, by go_num, rfl, HLN, own2, Lib.hid (rtj.out.trans rt2.out), HB2, hlj2⟩
                case measure => simp [intOf]; omega
          · have hi2 : inst = false := by simpa using hi
            subst hi2
            have HLN : Hid (Tx.nmss false k 0 (xs.take (j + 1)) l1 = Tx.nms false eC lj) := Lib.hid (by rw [HLT.out, if_neg (by unfold skipB; simp), HLJ.out])
            go_wp2_with fail
            have aU : After wr (wr.alloc (.cells #[.int .i64 k1, .int .i64 o1, .int .i64 t1, .int .i64 v1, .string s1, .slice A1 xs1.length c1] 24)) := inferInstance
            refine (HC.out _ aU).mono ?_
            rintro e w2 ⟨r2, rfl, own2, rt2⟩
            replace own2 := Lib.hid own2
            replace rt2 := Lib.hid (RowTo.pre aU rt2)
            have HB2 := Lib.hid (rt2.out.blk HBj.out hnej)
            go_wp2_with fail
            go_roundw
            case rel => exact ⟨j + 1, r2, _, by omega, by go_num, rfl, HLN, own2, Lib.hid (rtj.out.trans rt2.out), HB2, hlj2⟩
            case measure => simp [intOf]; omega
        · obtain rfl : j = xs.length := by omega
          rw [List.take_length] at HLJ
          go_wp2_with fail
          go_ret
          refine ⟨_, rfl, ?_, rtj.out.pre awV⟩
          rw [HLJ.out]
          exact ownj.out
    | true =>
      go_wp2_with fail
      refine (HH.out _ awV).mono ?_
      rintro _ _ ⟨rfl, rfl⟩
      cases hb with
      | true =>
        have hl2 : l1 = l := by have h_ := hl1.out; simpa using h_.symm
        go_wp2_with fail
        have own1 : Hid (V.ownsRow B 9 1 (.slice AR nl cR) (l1).length (sv (l1))) := Lib.hid (by rw [hl2, hnl]; exact own_after own0.out awV)
        have rt1 : Hid (RowTo V V (.slice AR nl cR) (.slice AR nl cR)) := Lib.hid (RowTo.refl _ _)
        have HB1 := HBV
        have ownW0 := own0
        have a0V : After w0 V := after_after aft awV
        clear h0_V h1_V h2_V h3_V h4_V h5_V
        go_loopw [0, 26] (fun q i wr => ∃ (j : Nat) (rj : Value) (lj : List ByteArray), j ≤ xs.length ∧ i = .int .i64 (j : Nat) ∧ rj = q ∧ Hid (Tx.nmss inst k 0 (xs.take j) l1 = lj) ∧ Hid (wr.ownsRow B 9 1 rj (lj).length (sv (lj))) ∧ Hid (RowTo V wr (.slice AR nl cR) rj) ∧ Hid (Blk wr w.heap.size 24 #[.int .i64 k, .int .i64 o, .int .i64 t, .int .i64 v, .string s, .slice A xs.length c]) ∧ lj.length ≤ l1.length + Tx.sizes (xs.take j)) (fun _ i _ => xs.length - (intOf i).toNat)
        case atStart => exact ⟨0, _, l1, by omega, rfl, rfl, Lib.hid (by simp [Tx.nmss]), own1, rt1, HB1, by simp [Tx.sizes]⟩
        case round =>
          obtain ⟨j, rj, lj, hj, rfl, rfl, HLJ, ownj, rtj, HBj, hlj⟩ := hrel
          have lB_wr : Le (w.heap.size + 1) wr := HBj.out.is_le
          have a0_wr : After w0 wr := rtj.out.aft a0V (own_after own0.out awV) hB
          have hnej : some w.heap.size ≠ rj.ownBlock := rtj.out.old (by have := lB_V.le; omega) hne
          have h0_wr : wr.cell? ⟨w.heap.size, 0, none⟩ = some (.int .i64 k) := by rw [HBj.out.cell]; rfl
          have h1_wr : wr.cell? ⟨w.heap.size, 1, none⟩ = some (.int .i64 o) := by rw [HBj.out.cell]; rfl
          have h2_wr : wr.cell? ⟨w.heap.size, 2, none⟩ = some (.int .i64 t) := by rw [HBj.out.cell]; rfl
          have h3_wr : wr.cell? ⟨w.heap.size, 3, none⟩ = some (.int .i64 v) := by rw [HBj.out.cell]; rfl
          have h4_wr : wr.cell? ⟨w.heap.size, 4, none⟩ = some (.string s) := by rw [HBj.out.cell]; rfl
          have h5_wr : wr.cell? ⟨w.heap.size, 5, none⟩ = some (.slice A xs.length c) := by rw [HBj.out.cell]; rfl
          have htl := Tx.sizes_take_le xs j
          by_cases hlt : j < xs.length
          · have hltI : (j : Int) < (xs.length : Int) := by omega
            obtain ⟨b, p, k1, o1, t1, v1, s1, A1, c1, xs1, rfl, hb1, HX1, HR1, e0, e1, e2, e3, e4, e5⟩ := (x.out.here wr).part (i := j) hlt
            have x1_ := Lib.hid (x.out.all (.mk k1 o1 t1 v1 s1 A1 c1 xs1) (List.mem_of_getElem? HX1.out))
            have hst := Tx.sizes_take HX1.out
            have HLT := Lib.hid (Tx.nmss_take (inst := inst) (k := k) HX1.out l1)
            have hnl2 := Tx.nms_length inst (.mk k1 o1 t1 v1 s1 A1 c1 xs1) lj
            have htl1 := Tx.sizes_take_le xs (j + 1)
            have hle1 : Tx.sizes (xs.take (j + 1)) ≤ N := by omega
            have HC : Hid (∀ U, After wr U → Calls Try.prog 42 #[rj, .agg #[.int .i64 k1, .int .i64 o1, .int .i64 t1, .int .i64 v1, .string s1, .slice A1 xs1.length c1], .bool inst] U fun e w' => ∃ r', e = .returned r' ∧ w'.ownsRow B 9 1 r' (Tx.nms inst (Tx.mk k1 o1 t1 v1 s1 A1 c1 xs1) lj).length (sv (Tx.nms inst (Tx.mk k1 o1 t1 v1 s1 A1 c1 xs1) lj)) ∧ RowTo U w' rj r') := Lib.hid fun U hU => ih.out _ _ _ _ _ _ _ _ w0 B _ _ (by omega) x1_.out hB U (after_after a0_wr hU) (by have := rtj.out.size; have := hU.below.size; have := awV.below.size; omega) (own_after ownj.out hU) (by omega)
            have hlj2 : (Tx.nms inst (.mk k1 o1 t1 v1 s1 A1 c1 xs1) lj).length ≤ l1.length + Tx.sizes (xs.take (j + 1)) := by omega
            have hlj3 : lj.length ≤ l1.length + Tx.sizes (xs.take (j + 1)) := by omega
            replace hst := Lib.hid hst
            clear hle1 htl htl1 hnl2
            obtain ⟨eC, heC⟩ : ∃ eC, Tx.mk k1 o1 t1 v1 s1 A1 c1 xs1 = eC := ⟨_, rfl⟩
            rw [heC] at HC HLT hlj2
            replace heC := Lib.hid heC
            by_cases hi : inst = true
            · subst hi
              by_cases h5 : k = 5
              · have h5B : (k == 5) = true := by simpa using h5
                replace h5 := Lib.hid h5
                have HLN : Hid (Tx.nmss true k 0 xs l1 = lj) := Lib.hid (by rw [Tx.nmss_rest hj (by unfold skipB; simp [h5.out]), HLJ.out])
                have aU : After wr (wr.alloc (.cells #[.int .i64 k1, .int .i64 o1, .int .i64 t1, .int .i64 v1, .string s1, .slice A1 xs1.length c1] 24)) := inferInstance
                go_wp2_with fail
                go_ret
                refine ⟨_, rfl, ?_, (rtj.out.after aU).pre awV⟩
                rw [HLN.out]
                exact own_after ownj.out aU
              · have h5B : (k == 5) = false := by simpa using h5
                replace h5 := Lib.hid h5
                by_cases h7 : k = 7
                · have h7B : (k == 7) = true := by simpa using h7
                  replace h7 := Lib.hid h7
                  by_cases hj0 : 0 < j
                  · have hj0B : decide ((0 : Int) < (j : Int)) = true := decide_eq_true (by omega)
                    replace hj0 := Lib.hid hj0
                    have HLN : Hid (Tx.nmss true k 0 xs l1 = lj) := Lib.hid (by rw [Tx.nmss_rest hj (by unfold skipB; simp [h7.out, hj0.out]), HLJ.out])
                    have aU : After wr (wr.alloc (.cells #[.int .i64 k1, .int .i64 o1, .int .i64 t1, .int .i64 v1, .string s1, .slice A1 xs1.length c1] 24)) := inferInstance
                    go_wp2_with fail
                    go_ret
                    refine ⟨_, rfl, ?_, (rtj.out.after aU).pre awV⟩
                    rw [HLN.out]
                    exact own_after ownj.out aU
                  · have hj0B : decide ((0 : Int) < (j : Int)) = false := decide_eq_false (by omega)
                    replace hj0 := Lib.hid hj0
                    have HLN : Hid (Tx.nmss true k 0 (xs.take (j + 1)) l1 = Tx.nms true eC lj) := Lib.hid (by rw [HLT.out, if_neg (by unfold skipB; simp [h7.out, hj0.out]), HLJ.out])
                    go_wp2_with fail
                    have aU : After wr (wr.alloc (.cells #[.int .i64 k1, .int .i64 o1, .int .i64 t1, .int .i64 v1, .string s1, .slice A1 xs1.length c1] 24)) := inferInstance
                    refine (HC.out _ aU).mono ?_
                    rintro e w2 ⟨r2, rfl, own2, rt2⟩
                    replace own2 := Lib.hid own2
                    replace rt2 := Lib.hid (RowTo.pre aU rt2)
                    have HB2 := Lib.hid (rt2.out.blk HBj.out hnej)
                    go_wp2_with fail
                    go_roundw
                    case rel => exact ⟨j + 1, r2, _, by omega, by go_num, rfl, HLN, own2, Lib.hid (rtj.out.trans rt2.out), HB2, hlj2⟩
                    case measure => simp [intOf]; omega
                · have h7B : (k == 7) = false := by simpa using h7
                  replace h7 := Lib.hid h7
                  have HLN : Hid (Tx.nmss true k 0 (xs.take (j + 1)) l1 = Tx.nms true eC lj) := Lib.hid (by rw [HLT.out, if_neg (by unfold skipB; simp [h5.out, h7.out]), HLJ.out])
                  go_wp2_with fail
                  have aU : After wr (wr.alloc (.cells #[.int .i64 k1, .int .i64 o1, .int .i64 t1, .int .i64 v1, .string s1, .slice A1 xs1.length c1] 24)) := inferInstance
                  refine (HC.out _ aU).mono ?_
                  rintro e w2 ⟨r2, rfl, own2, rt2⟩
                  replace own2 := Lib.hid own2
                  replace rt2 := Lib.hid (RowTo.pre aU rt2)
                  have HB2 := Lib.hid (rt2.out.blk HBj.out hnej)
                  go_wp2_with fail
                  go_roundw
                  case rel => exact ⟨j + 1, r2, _, by omega, by go_num, rfl, HLN, own2, Lib.hid (rtj.out.trans rt2.out), HB2, hlj2⟩
                  case measure => simp [intOf]; omega
            · have hi2 : inst = false := by simpa using hi
              subst hi2
              have HLN : Hid (Tx.nmss false k 0 (xs.take (j + 1)) l1 = Tx.nms false eC lj) := Lib.hid (by rw [HLT.out, if_neg (by unfold skipB; simp), HLJ.out])
              go_wp2_with fail
              have aU : After wr (wr.alloc (.cells #[.int .i64 k1, .int .i64 o1, .int .i64 t1, .int .i64 v1, .string s1, .slice A1 xs1.length c1] 24)) := inferInstance
              refine (HC.out _ aU).mono ?_
              rintro e w2 ⟨r2, rfl, own2, rt2⟩
              replace own2 := Lib.hid own2
              replace rt2 := Lib.hid (RowTo.pre aU rt2)
              have HB2 := Lib.hid (rt2.out.blk HBj.out hnej)
              go_wp2_with fail
              go_roundw
              case rel => exact ⟨j + 1, r2, _, by omega, by go_num, rfl, HLN, own2, Lib.hid (rtj.out.trans rt2.out), HB2, hlj2⟩
              case measure => simp [intOf]; omega
          · obtain rfl : j = xs.length := by omega
            rw [List.take_length] at HLJ
            go_wp2_with fail
            go_ret
            refine ⟨_, rfl, ?_, rtj.out.pre awV⟩
            rw [HLJ.out]
            exact ownj.out
      | false =>
        have hl2 : l1 = l ++ [s] := by have h_ := hl1.out; simpa using h_.symm
        have ownV := own_after own0.out awV
        go_wp2_with (at_builtin; refine wpList_append_any (V.alloc (.cells #[.string s] 9)) rfl (.tmp 18) (.tmp 21) 32 rfl B 9 i0 _ 1 16 Try.underlying32 hi0 hz0 hz1 hz2 rfl (by decide) (.slice AR nl cR) nl (sv l) rfl (own_after ownV (w' := V.alloc (.cells #[.string s] 9)) inferInstance) _ _ 1 1 [.string s] rfl (cells_flat (w := V) rfl #[.string s] 9 _ rfl 1 1 rfl) (by intro u hu; simp only [List.mem_cons, List.not_mem_nil, or_false] at hu; subst hu; rfl) (by unfold maxLen; omega) (by omega) (by have := awV.below.size; simp only [size_alloc_]; omega) ?_; intro r1 W1 own1 hg1 hnx1; have HB1 := Lib.hid ((HBV.out.alloc _).grown hg1 hne); have lB_W1 := HB1.out.is_le; have h5_W1 : W1.cell? ⟨w.heap.size, 5, none⟩ = some (.slice A xs.length c) := (HB1.out.cell 5).trans rfl; have rt1 := Lib.hid (RowTo.pre (inferInstance : After V (V.alloc (.cells #[.string s] 9))) (RowTo.of_app hg1 hnx1)); clear hg1 hnx1; replace own1 : Hid (W1.ownsRow B 9 1 r1 (l1).length (sv (l1))) := Lib.hid (by rw [hl2, List.length_append, List.length_singleton, hnl, sv_app]; exact own1))
        have ownW0 := own0
        have a0V : After w0 V := after_after aft awV
        clear h0_V h1_V h2_V h3_V h4_V h5_V
        go_loopw [0, 26] (fun q i wr => ∃ (j : Nat) (rj : Value) (lj : List ByteArray), j ≤ xs.length ∧ i = .int .i64 (j : Nat) ∧ rj = q ∧ Hid (Tx.nmss inst k 0 (xs.take j) l1 = lj) ∧ Hid (wr.ownsRow B 9 1 rj (lj).length (sv (lj))) ∧ Hid (RowTo V wr (.slice AR nl cR) rj) ∧ Hid (Blk wr w.heap.size 24 #[.int .i64 k, .int .i64 o, .int .i64 t, .int .i64 v, .string s, .slice A xs.length c]) ∧ lj.length ≤ l1.length + Tx.sizes (xs.take j)) (fun _ i _ => xs.length - (intOf i).toNat)
        case atStart => exact ⟨0, _, l1, by omega, rfl, rfl, Lib.hid (by simp [Tx.nmss]), own1, rt1, HB1, by simp [Tx.sizes]⟩
        case round =>
          obtain ⟨j, rj, lj, hj, rfl, rfl, HLJ, ownj, rtj, HBj, hlj⟩ := hrel
          have lB_wr : Le (w.heap.size + 1) wr := HBj.out.is_le
          have a0_wr : After w0 wr := rtj.out.aft a0V (own_after own0.out awV) hB
          have hnej : some w.heap.size ≠ rj.ownBlock := rtj.out.old (by have := lB_V.le; omega) hne
          have h0_wr : wr.cell? ⟨w.heap.size, 0, none⟩ = some (.int .i64 k) := by rw [HBj.out.cell]; rfl
          have h1_wr : wr.cell? ⟨w.heap.size, 1, none⟩ = some (.int .i64 o) := by rw [HBj.out.cell]; rfl
          have h2_wr : wr.cell? ⟨w.heap.size, 2, none⟩ = some (.int .i64 t) := by rw [HBj.out.cell]; rfl
          have h3_wr : wr.cell? ⟨w.heap.size, 3, none⟩ = some (.int .i64 v) := by rw [HBj.out.cell]; rfl
          have h4_wr : wr.cell? ⟨w.heap.size, 4, none⟩ = some (.string s) := by rw [HBj.out.cell]; rfl
          have h5_wr : wr.cell? ⟨w.heap.size, 5, none⟩ = some (.slice A xs.length c) := by rw [HBj.out.cell]; rfl
          have htl := Tx.sizes_take_le xs j
          by_cases hlt : j < xs.length
          · have hltI : (j : Int) < (xs.length : Int) := by omega
            obtain ⟨b, p, k1, o1, t1, v1, s1, A1, c1, xs1, rfl, hb1, HX1, HR1, e0, e1, e2, e3, e4, e5⟩ := (x.out.here wr).part (i := j) hlt
            have x1_ := Lib.hid (x.out.all (.mk k1 o1 t1 v1 s1 A1 c1 xs1) (List.mem_of_getElem? HX1.out))
            have hst := Tx.sizes_take HX1.out
            have HLT := Lib.hid (Tx.nmss_take (inst := inst) (k := k) HX1.out l1)
            have hnl2 := Tx.nms_length inst (.mk k1 o1 t1 v1 s1 A1 c1 xs1) lj
            have htl1 := Tx.sizes_take_le xs (j + 1)
            have hle1 : Tx.sizes (xs.take (j + 1)) ≤ N := by omega
            have HC : Hid (∀ U, After wr U → Calls Try.prog 42 #[rj, .agg #[.int .i64 k1, .int .i64 o1, .int .i64 t1, .int .i64 v1, .string s1, .slice A1 xs1.length c1], .bool inst] U fun e w' => ∃ r', e = .returned r' ∧ w'.ownsRow B 9 1 r' (Tx.nms inst (Tx.mk k1 o1 t1 v1 s1 A1 c1 xs1) lj).length (sv (Tx.nms inst (Tx.mk k1 o1 t1 v1 s1 A1 c1 xs1) lj)) ∧ RowTo U w' rj r') := Lib.hid fun U hU => ih.out _ _ _ _ _ _ _ _ w0 B _ _ (by omega) x1_.out hB U (after_after a0_wr hU) (by have := rtj.out.size; have := hU.below.size; have := awV.below.size; omega) (own_after ownj.out hU) (by omega)
            have hlj2 : (Tx.nms inst (.mk k1 o1 t1 v1 s1 A1 c1 xs1) lj).length ≤ l1.length + Tx.sizes (xs.take (j + 1)) := by omega
            have hlj3 : lj.length ≤ l1.length + Tx.sizes (xs.take (j + 1)) := by omega
            replace hst := Lib.hid hst
            clear hle1 htl htl1 hnl2
            obtain ⟨eC, heC⟩ : ∃ eC, Tx.mk k1 o1 t1 v1 s1 A1 c1 xs1 = eC := ⟨_, rfl⟩
            rw [heC] at HC HLT hlj2
            replace heC := Lib.hid heC
            by_cases hi : inst = true
            · subst hi
              by_cases h5 : k = 5
              · have h5B : (k == 5) = true := by simpa using h5
                replace h5 := Lib.hid h5
                have HLN : Hid (Tx.nmss true k 0 xs l1 = lj) := Lib.hid (by rw [Tx.nmss_rest hj (by unfold skipB; simp [h5.out]), HLJ.out])
                have aU : After wr (wr.alloc (.cells #[.int .i64 k1, .int .i64 o1, .int .i64 t1, .int .i64 v1, .string s1, .slice A1 xs1.length c1] 24)) := inferInstance
                go_wp2_with fail
                go_ret
                refine ⟨_, rfl, ?_, (rtj.out.after aU).pre awV⟩
                rw [HLN.out]
                exact own_after ownj.out aU
              · have h5B : (k == 5) = false := by simpa using h5
                replace h5 := Lib.hid h5
                by_cases h7 : k = 7
                · have h7B : (k == 7) = true := by simpa using h7
                  replace h7 := Lib.hid h7
                  by_cases hj0 : 0 < j
                  · have hj0B : decide ((0 : Int) < (j : Int)) = true := decide_eq_true (by omega)
                    replace hj0 := Lib.hid hj0
                    have HLN : Hid (Tx.nmss true k 0 xs l1 = lj) := Lib.hid (by rw [Tx.nmss_rest hj (by unfold skipB; simp [h7.out, hj0.out]), HLJ.out])
                    have aU : After wr (wr.alloc (.cells #[.int .i64 k1, .int .i64 o1, .int .i64 t1, .int .i64 v1, .string s1, .slice A1 xs1.length c1] 24)) := inferInstance
                    go_wp2_with fail
                    go_ret
                    refine ⟨_, rfl, ?_, (rtj.out.after aU).pre awV⟩
                    rw [HLN.out]
                    exact own_after ownj.out aU
                  · have hj0B : decide ((0 : Int) < (j : Int)) = false := decide_eq_false (by omega)
                    replace hj0 := Lib.hid hj0
                    have HLN : Hid (Tx.nmss true k 0 (xs.take (j + 1)) l1 = Tx.nms true eC lj) := Lib.hid (by rw [HLT.out, if_neg (by unfold skipB; simp [h7.out, hj0.out]), HLJ.out])
                    go_wp2_with fail
                    have aU : After wr (wr.alloc (.cells #[.int .i64 k1, .int .i64 o1, .int .i64 t1, .int .i64 v1, .string s1, .slice A1 xs1.length c1] 24)) := inferInstance
                    refine (HC.out _ aU).mono ?_
                    rintro e w2 ⟨r2, rfl, own2, rt2⟩
                    replace own2 := Lib.hid own2
                    replace rt2 := Lib.hid (RowTo.pre aU rt2)
                    have HB2 := Lib.hid (rt2.out.blk HBj.out hnej)
                    go_wp2_with fail
                    go_roundw
                    case rel => exact ⟨j + 1, r2, _, by omega, by go_num, rfl, HLN, own2, Lib.hid (rtj.out.trans rt2.out), HB2, hlj2⟩
                    case measure => simp [intOf]; omega
                · have h7B : (k == 7) = false := by simpa using h7
                  replace h7 := Lib.hid h7
                  have HLN : Hid (Tx.nmss true k 0 (xs.take (j + 1)) l1 = Tx.nms true eC lj) := Lib.hid (by rw [HLT.out, if_neg (by unfold skipB; simp [h5.out, h7.out]), HLJ.out])
                  go_wp2_with fail
                  have aU : After wr (wr.alloc (.cells #[.int .i64 k1, .int .i64 o1, .int .i64 t1, .int .i64 v1, .string s1, .slice A1 xs1.length c1] 24)) := inferInstance
                  refine (HC.out _ aU).mono ?_
                  rintro e w2 ⟨r2, rfl, own2, rt2⟩
                  replace own2 := Lib.hid own2
                  replace rt2 := Lib.hid (RowTo.pre aU rt2)
                  have HB2 := Lib.hid (rt2.out.blk HBj.out hnej)
                  go_wp2_with fail
                  go_roundw
                  case rel => exact ⟨j + 1, r2, _, by omega, by go_num, rfl, HLN, own2, Lib.hid (rtj.out.trans rt2.out), HB2, hlj2⟩
                  case measure => simp [intOf]; omega
            · have hi2 : inst = false := by simpa using hi
              subst hi2
              have HLN : Hid (Tx.nmss false k 0 (xs.take (j + 1)) l1 = Tx.nms false eC lj) := Lib.hid (by rw [HLT.out, if_neg (by unfold skipB; simp), HLJ.out])
              go_wp2_with fail
              have aU : After wr (wr.alloc (.cells #[.int .i64 k1, .int .i64 o1, .int .i64 t1, .int .i64 v1, .string s1, .slice A1 xs1.length c1] 24)) := inferInstance
              refine (HC.out _ aU).mono ?_
              rintro e w2 ⟨r2, rfl, own2, rt2⟩
              replace own2 := Lib.hid own2
              replace rt2 := Lib.hid (RowTo.pre aU rt2)
              have HB2 := Lib.hid (rt2.out.blk HBj.out hnej)
              go_wp2_with fail
              go_roundw
              case rel => exact ⟨j + 1, r2, _, by omega, by go_num, rfl, HLN, own2, Lib.hid (rtj.out.trans rt2.out), HB2, hlj2⟩
              case measure => simp [intOf]; omega
          · obtain rfl : j = xs.length := by omega
            rw [List.take_length] at HLJ
            go_wp2_with fail
            go_ret
            refine ⟨_, rfl, ?_, rtj.out.pre awV⟩
            rw [HLJ.out]
            exact ownj.out

theorem rNames_any {k o t v : Int} {s : ByteArray} {A : Option Addr} {c : Nat} {xs : List Tx} {w0 : World} (hs : (Tx.mk k o t v s A c xs).size ≤ 1000000) (x : RX w0 (.mk k o t v s A c xs)) (w : World) (aft : After w0 w) :
    Calls Try.prog 26 #[.agg #[.int .i64 k, .int .i64 o, .int .i64 t, .int .i64 v, .string s, .slice A xs.length c]] w fun e w' => ∃ A' c', e = .returned (.slice A' (Tx.nms false (Tx.mk k o t v s A c xs) []).length c') ∧ RSt w' A' c' (Tx.nms false (Tx.mk k o t v s A c xs) []) ∧ After w w' := by
  have HC : Hid (∀ U, After w U → Calls Try.prog 43 #[.agg #[.int .i64 k, .int .i64 o, .int .i64 t, .int .i64 v, .string s, .slice A xs.length c], .bool false, .slice none 0 0] U fun e w' => ∃ A' c', e = .returned (.slice A' (Tx.nms false (Tx.mk k o t v s A c xs) []).length c') ∧ RSt w' A' c' (Tx.nms false (Tx.mk k o t v s A c xs) []) ∧ After w w') := Lib.hid fun U hU => by
    have own0 := World.ownsRow_nil U w.heap.size 9 1
    have aU := after_after aft hU
    have hl0 := Tx.nms_length false (Tx.mk k o t v s A c xs) []
    rw [List.length_nil, Nat.zero_add] at hl0
    refine (rnames_n false _ (by omega) _ _ _ _ _ _ _ _ w0 w.heap.size _ [] (Nat.le_refl _) x aft.below.size U aU hU.below.size own0 (by simpa using hs)).mono ?_
    rintro e w' ⟨r', rfl, own, rt⟩
    have a1 : After w w' := rt.aft hU own0 (Nat.le_refl _)
    obtain ⟨A', c', rfl, h⟩ := RSt.of_own own (by omega)
    exact ⟨A', c', rfl, h, a1⟩
  obtain ⟨l, hl⟩ : ∃ l, (Tx.nms false (Tx.mk k o t v s A c xs) []) = l := ⟨_, rfl⟩
  rw [hl] at HC ⊢
  clear hl
  go_enter Try.func26, Try.ntmps26
  go_wp2_with fail
  refine (HC.out _ inferInstance).mono ?_
  rintro e w1 ⟨A1, c1, rfl, h1, a1⟩
  replace h1 := Lib.hid h1
  go_wp2_with fail
  go_ret
  exact ⟨A1, c1, rfl, h1.out, a1⟩

theorem rInstant_any {k o t v : Int} {s : ByteArray} {A : Option Addr} {c : Nat} {xs : List Tx} {w0 : World} (hs : (Tx.mk k o t v s A c xs).size ≤ 1000000) (x : RX w0 (.mk k o t v s A c xs)) (w : World) (aft : After w0 w) :
    Calls Try.prog 27 #[.agg #[.int .i64 k, .int .i64 o, .int .i64 t, .int .i64 v, .string s, .slice A xs.length c]] w fun e w' => ∃ A' c', e = .returned (.slice A' (Tx.nms true (Tx.mk k o t v s A c xs) []).length c') ∧ RSt w' A' c' (Tx.nms true (Tx.mk k o t v s A c xs) []) ∧ After w w' := by
  have HC : Hid (∀ U, After w U → Calls Try.prog 43 #[.agg #[.int .i64 k, .int .i64 o, .int .i64 t, .int .i64 v, .string s, .slice A xs.length c], .bool true, .slice none 0 0] U fun e w' => ∃ A' c', e = .returned (.slice A' (Tx.nms true (Tx.mk k o t v s A c xs) []).length c') ∧ RSt w' A' c' (Tx.nms true (Tx.mk k o t v s A c xs) []) ∧ After w w') := Lib.hid fun U hU => by
    have own0 := World.ownsRow_nil U w.heap.size 9 1
    have aU := after_after aft hU
    have hl0 := Tx.nms_length true (Tx.mk k o t v s A c xs) []
    rw [List.length_nil, Nat.zero_add] at hl0
    refine (rnames_n true _ (by omega) _ _ _ _ _ _ _ _ w0 w.heap.size _ [] (Nat.le_refl _) x aft.below.size U aU hU.below.size own0 (by simpa using hs)).mono ?_
    rintro e w' ⟨r', rfl, own, rt⟩
    have a1 : After w w' := rt.aft hU own0 (Nat.le_refl _)
    obtain ⟨A', c', rfl, h⟩ := RSt.of_own own (by omega)
    exact ⟨A', c', rfl, h, a1⟩
  obtain ⟨l, hl⟩ : ∃ l, (Tx.nms true (Tx.mk k o t v s A c xs) []) = l := ⟨_, rfl⟩
  rw [hl] at HC ⊢
  clear hl
  go_enter Try.func27, Try.ntmps27
  go_wp2_with fail
  refine (HC.out _ inferInstance).mono ?_
  rintro e w1 ⟨A1, c1, rfl, h1, a1⟩
  replace h1 := Lib.hid h1
  go_wp2_with fail
  go_ret
  exact ⟨A1, c1, rfl, h1.out, a1⟩

theorem Names_any {k o t v : Int} {s : ByteArray} {A : Option Addr} {c : Nat} {xs : List Tx} {w0 : World} (hs : (Tx.mk k o t v s A c xs).size ≤ 1000000) (x : RX w0 (.mk k o t v s A c xs)) (w : World) (aft : After w0 w) :
    Calls Try.prog 22 #[.agg #[.int .i64 k, .int .i64 o, .int .i64 t, .int .i64 v, .string s, .slice A xs.length c]] w fun e w' => ∃ A' c', e = .returned (.slice A' (Tx.nms false (Tx.mk k o t v s A c xs) []).length c') ∧ RSt w' A' c' (Tx.nms false (Tx.mk k o t v s A c xs) []) ∧ After w w' := by
  have HC : Hid (∀ U, After w U → Calls Try.prog 42 #[.slice none 0 0, .agg #[.int .i64 k, .int .i64 o, .int .i64 t, .int .i64 v, .string s, .slice A xs.length c], .bool false] U fun e w' => ∃ A' c', e = .returned (.slice A' (Tx.nms false (Tx.mk k o t v s A c xs) []).length c') ∧ RSt w' A' c' (Tx.nms false (Tx.mk k o t v s A c xs) []) ∧ After w w') := Lib.hid fun U hU => by
    have own0 := World.ownsRow_nil U w.heap.size 9 1
    have aU := after_after aft hU
    have hl0 := Tx.nms_length false (Tx.mk k o t v s A c xs) []
    rw [List.length_nil, Nat.zero_add] at hl0
    refine (names_n false _ (by omega) _ _ _ _ _ _ _ _ w0 w.heap.size _ [] (Nat.le_refl _) x aft.below.size U aU hU.below.size own0 (by simpa using hs)).mono ?_
    rintro e w' ⟨r', rfl, own, rt⟩
    have a1 : After w w' := rt.aft hU own0 (Nat.le_refl _)
    obtain ⟨A', c', rfl, h⟩ := RSt.of_own own (by omega)
    exact ⟨A', c', rfl, h, a1⟩
  obtain ⟨l, hl⟩ : ∃ l, (Tx.nms false (Tx.mk k o t v s A c xs) []) = l := ⟨_, rfl⟩
  rw [hl] at HC ⊢
  clear hl
  go_enter Try.func22, Try.ntmps22
  go_wp2_with fail
  refine (HC.out _ inferInstance).mono ?_
  rintro e w1 ⟨A1, c1, rfl, h1, a1⟩
  replace h1 := Lib.hid h1
  go_wp2_with fail
  go_ret
  exact ⟨A1, c1, rfl, h1.out, a1⟩

theorem Instant_any {k o t v : Int} {s : ByteArray} {A : Option Addr} {c : Nat} {xs : List Tx} {w0 : World} (hs : (Tx.mk k o t v s A c xs).size ≤ 1000000) (x : RX w0 (.mk k o t v s A c xs)) (w : World) (aft : After w0 w) :
    Calls Try.prog 23 #[.agg #[.int .i64 k, .int .i64 o, .int .i64 t, .int .i64 v, .string s, .slice A xs.length c]] w fun e w' => ∃ A' c', e = .returned (.slice A' (Tx.nms true (Tx.mk k o t v s A c xs) []).length c') ∧ RSt w' A' c' (Tx.nms true (Tx.mk k o t v s A c xs) []) ∧ After w w' := by
  have HC : Hid (∀ U, After w U → Calls Try.prog 42 #[.slice none 0 0, .agg #[.int .i64 k, .int .i64 o, .int .i64 t, .int .i64 v, .string s, .slice A xs.length c], .bool true] U fun e w' => ∃ A' c', e = .returned (.slice A' (Tx.nms true (Tx.mk k o t v s A c xs) []).length c') ∧ RSt w' A' c' (Tx.nms true (Tx.mk k o t v s A c xs) []) ∧ After w w') := Lib.hid fun U hU => by
    have own0 := World.ownsRow_nil U w.heap.size 9 1
    have aU := after_after aft hU
    have hl0 := Tx.nms_length true (Tx.mk k o t v s A c xs) []
    rw [List.length_nil, Nat.zero_add] at hl0
    refine (names_n true _ (by omega) _ _ _ _ _ _ _ _ w0 w.heap.size _ [] (Nat.le_refl _) x aft.below.size U aU hU.below.size own0 (by simpa using hs)).mono ?_
    rintro e w' ⟨r', rfl, own, rt⟩
    have a1 : After w w' := rt.aft hU own0 (Nat.le_refl _)
    obtain ⟨A', c', rfl, h⟩ := RSt.of_own own (by omega)
    exact ⟨A', c', rfl, h, a1⟩
  obtain ⟨l, hl⟩ : ∃ l, (Tx.nms true (Tx.mk k o t v s A c xs) []) = l := ⟨_, rfl⟩
  rw [hl] at HC ⊢
  clear hl
  go_enter Try.func23, Try.ntmps23
  go_wp2_with fail
  refine (HC.out _ inferInstance).mono ?_
  rintro e w1 ⟨A1, c1, rfl, h1, a1⟩
  replace h1 := Lib.hid h1
  go_wp2_with fail
  go_ret
  exact ⟨A1, c1, rfl, h1.out, a1⟩
end Go.Proofs.Ytfoddappedcplaa
