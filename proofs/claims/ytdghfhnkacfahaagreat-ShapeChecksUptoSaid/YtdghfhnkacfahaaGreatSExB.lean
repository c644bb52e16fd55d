/-
  Contracts of the reference: inside, Expr (printed by gen_srin.py).
-/
import Derived.Test.YtdghfhnkacfahaaGreatSExA
set_option linter.unusedVariables false
set_option linter.unusedSimpArgs false
namespace Go.Proofs.YtdghfhnkacfahaaGreat
open Go.RowKit Go.BigFrame

theorem TxB.arg {k o t v : Int} {s : ByteArray} {A : Option Addr} {c : Nat} {xs : List Tx} (h : TxB (.mk k o t v s A c xs)) {i : Nat} {e : Tx} (hi : xs[i]? = some e) : TxB e := fun x hx => h x (by
  rw [Tx.list, List.mem_cons]
  refine .inr ?_
  have hm := List.mem_of_getElem? hi
  clear h hi
  induction xs with
  | nil => cases hm
  | cons a l ih =>
    rw [Tx.lists, List.mem_append]
    rcases List.mem_cons.1 hm with rfl | hm
    · exact .inl hx
    · exact .inr (ih hm))
theorem TxB.here {k o t v : Int} {s : ByteArray} {A : Option Addr} {c : Nat} {xs : List Tx} (h : TxB (.mk k o t v s A c xs)) : t ≤ 9223372036854775807 := h (.mk k o t v s A c xs) (by rw [Tx.list]; simp)
set_option maxRecDepth 100000 in
set_option maxHeartbeats 8000000 in
theorem rinside_n (N : Nat) : ∀ (k o t v : Int) (s : ByteArray) (A : Option Addr) (c : Nat) (xs : List Tx) (w0 : World) (x : Lst EnD), (Tx.mk k o t v s A c xs).size ≤ N → RX w0 (.mk k o t v s A c xs) → TxB (.mk k o t v s A c xs) → RowOf 2 PEn w0 x → ∀ w : World, After w0 w →
    Calls Tryz.prog 51 #[.slice x.A x.l.length x.c, .agg #[.int .i64 k, .int .i64 o, .int .i64 t, .int .i64 v, .string s, .slice A xs.length c]] w fun e w' => e = .returned (.int .i64 (firstX x.l (Tx.mk k o t v s A c xs).list)) ∧ After w w' := by
  induction N with
  | zero => intro k o t v s A c xs w0 x h; have := Tx.size_pos (.mk k o t v s A c xs); omega
  | succ N ih =>
    intro k o t v s A c xs w0 x hN hX hB h w hw
    have ht := hB.here
    have hbd := hX.bounds
    have hxl : xs.length ≤ 140737488355328 := hbd.2.2.2
    have hsz := sizeV_le h t
    have HS := Lib.hid (fun (U : World) (hU : After w0 U) => rvsize_any h U hU t ht)
    have HL := Lib.hid (fun (U : World) (hU : After w0 U) => rvalid_any h U hU t ht)
    have HH := Lib.hid (fun (U : World) (hU : After w0 U) => rvhas_any h U hU t v ht)
    have HI : Hid (∀ (i : Nat) (k1 o1 t1 v1 : Int) (s1 : ByteArray) (A1 : Option Addr) (c1 : Nat) (xs1 : List Tx), xs[i]? = some (.mk k1 o1 t1 v1 s1 A1 c1 xs1) → ∀ U : World, After w0 U → Calls Tryz.prog 51 #[.slice x.A x.l.length x.c, .agg #[.int .i64 k1, .int .i64 o1, .int .i64 t1, .int .i64 v1, .string s1, .slice A1 xs1.length c1]] U fun e w' => e = .returned (.int .i64 (firstX x.l (Tx.mk k1 o1 t1 v1 s1 A1 c1 xs1).list)) ∧ After U w') := fun i k1 o1 t1 v1 s1 A1 c1 xs1 hi U hU => by
      have hs := Tx.sizes_mem hi
      rw [Tx.size_eq] at hN
      have hN' : Tx.sizes xs + 1 ≤ N + 1 := hN
      exact ih k1 o1 t1 v1 s1 A1 c1 xs1 w0 x (by omega) (hX.all _ (List.mem_of_getElem? hi)) (hB.arg hi) h U hU
    obtain ⟨R, hR⟩ : ∃ R, firstX x.l (Tx.mk k o t v s A c xs).list = R := ⟨_, rfl⟩
    rw [hR]
    obtain ⟨m, hm⟩ : ∃ m, sizeV x.l t = m := ⟨_, rfl⟩
    obtain ⟨q, hq⟩ : ∃ q, hasV x.l t v = q := ⟨_, rfl⟩
    obtain ⟨D, hD⟩ : ∃ D, insE x.l k t v xs.length = D := ⟨_, rfl⟩
    have HV : Hid (R = if D = 0 then firstX x.l (Tx.lists xs) else D) := by
      show _ = _
      rw [← hR, Tx.list, firstX]
      show (if insE x.l k t v xs.length = 0 then _ else insE x.l k t v xs.length) = _
      rw [hD]
    have HD : Hid (D = if k = 1 ∨ k = 8 then (if m = 0 then 10 else if q then 0 else 14) else if k = 9 then (if m = 0 then 10 else if xs.length = m then 0 else 9) else 0) := by
      show _ = _
      rw [← hD]; unfold insE; rw [hm, hq]
    have HR0 : Hid (D = 0 → R = firstX x.l (Tx.lists xs)) := fun h => by rw [HV.out, if_pos h]
    have HR1 : Hid (D ≠ 0 → R = D) := fun h => by rw [HV.out, if_neg h]
    clear hD HV
    rw [hm] at HS HL hsz
    rw [hq] at HH
    have XX := Lib.hid hX
    obtain ⟨enl, hen⟩ : ∃ enl, x.l = enl := ⟨_, rfl⟩
    obtain ⟨nen, hnen⟩ : ∃ nen, x.l.length = nen := ⟨_, rfl⟩
    obtain ⟨Aen, hAen⟩ : ∃ Aen, x.A = Aen := ⟨_, rfl⟩
    obtain ⟨cen, hcen⟩ : ∃ cen, x.c = cen := ⟨_, rfl⟩
    rw [hnen, hAen, hcen] at HS HL HH HI ⊢
    rw [hen] at HI HR0
    clear hR hm hq h hX hB hbd ih hN hen hnen hAen hcen
    obtain ⟨g1, hg1⟩ : ∃ g1, w.heap.size = g1 := ⟨_, rfl⟩
    obtain ⟨W1, hW1, HK, a1⟩ : ∃ W1, w.alloc (.cells #[.int .i64 k, .int .i64 o, .int .i64 t, .int .i64 v, .string s, .slice A xs.length c] 58) = W1 ∧ Hid (∀ U : World, After W1 U → U.cell? ⟨g1, 0, none⟩ = some (.int .i64 k) ∧ U.cell? ⟨g1, 2, none⟩ = some (.int .i64 t) ∧ U.cell? ⟨g1, 3, none⟩ = some (.int .i64 v) ∧ U.cell? ⟨g1, 5, none⟩ = some (.slice A xs.length c) ∧ Le (g1 + 1) U) ∧ After w W1 := by
      refine ⟨_, rfl, fun U hU => ?_, inferInstance⟩
      have y0 := (Blk.new w 58 #[.int .i64 k, .int .i64 o, .int .i64 t, .int .i64 v, .string s, .slice A xs.length c]).after (w' := U)
      rw [hg1] at y0
      exact ⟨by rw [y0.cell]; rfl, by rw [y0.cell]; rfl, by rw [y0.cell]; rfl, by rw [y0.cell]; rfl, y0.is_le⟩
    obtain ⟨k0, k2, k3, k5, kl⟩ := HK.out W1 inferInstance
    have loop0 : ∀ (V : World), After W1 V → True := fun _ _ => trivial
    by_cases h18 : k = 1 ∨ k = 8
    · have b9 : (k == 9) = false := by rw [beq_eq_false_iff_ne]; omega
      have b9' : (k != 9) = true := by rw [bne, b9]; rfl
      have h9' : ¬ k = 9 := by omega
      replace HD := Lib.hid (HD.out.trans (if_pos h18))
      by_cases hm0 : m = 0
      · have hd_ : D = 10 := HD.out.trans (if_pos hm0)
        have HE : Hid (R = 10) := (HR1.out (by rw [hd_]; decide)).trans hd_
        clear hd_
        have hd : decide (0 < m) = false := by simp [hm0]
        rw [hd] at HL
        rcases h18 with rfl | rfl
        all_goals
          go_enter Tryz.func51, Tryz.ntmps51
          go_wp2_with fail
          try rw [hW1]
          try rw [hg1]
          clear hW1 hg1
          refine (HL.out W1 (after_after hw a1)).mono ?_
          rintro e w2 ⟨rfl, a2⟩
          go_wp2_with fail
          go_ret
          exact ⟨by rw [HE.out]; rfl, after_after a1 a2⟩
      have hd : decide (0 < m) = true := by simp; omega
      rw [hd] at HL
      replace HD := Lib.hid (HD.out.trans (if_neg hm0))
      cases q with
      | false =>
        have hd_ : D = 14 := HD.out
        have HE : Hid (R = 14) := (HR1.out (by rw [hd_]; decide)).trans hd_
        clear hd_
        rcases h18 with rfl | rfl
        all_goals
          go_enter Tryz.func51, Tryz.ntmps51
          go_wp2_with fail
          try rw [hW1]
          try rw [hg1]
          clear hW1 hg1
          refine (HL.out W1 (after_after hw a1)).mono ?_
          rintro e w2 ⟨rfl, a2⟩
          have d2 : After w w2 := after_after a1 a2
          clear k0 k2 k3 k5 kl
          obtain ⟨k0, k2, k3, k5, kl⟩ := HK.out w2 a2
          go_wp2_with fail
          refine (HH.out w2 (after_after hw d2)).mono ?_
          rintro e w3 ⟨rfl, a3⟩
          go_wp2_with fail
          go_ret
          exact ⟨by rw [HE.out]; rfl, after_after d2 a3⟩
      | true =>
        have HRs : Hid (R = firstX enl (Tx.lists xs)) := HR0.out HD.out
        rcases h18 with rfl | rfl
        all_goals
          go_enter Tryz.func51, Tryz.ntmps51
          go_wp2_with fail
          try rw [hW1]
          try rw [hg1]
          clear hW1 hg1
          refine (HL.out W1 (after_after hw a1)).mono ?_
          rintro e w2 ⟨rfl, a2⟩
          have d2 : After w w2 := after_after a1 a2
          clear k0 k2 k3 k5 kl
          obtain ⟨k0, k2, k3, k5, kl⟩ := HK.out w2 a2
          go_wp2_with fail
          refine (HH.out w2 (after_after hw d2)).mono ?_
          rintro e w3 ⟨rfl, a3⟩
          have b3 : After W1 w3 := after_after a2 a3
          clear k0 k2 k3 k5 kl
          obtain ⟨k0, k2, k3, k5, kl⟩ := HK.out w3 b3
          go_wp2_with fail
          go_quiet (fail)
          go_wp2_with fail
          clear k0 k2 k3 k5 kl
          go_loopw [5] (fun i wr => ∃ j : Nat, j ≤ xs.length ∧ i = .int .i64 (j : Nat) ∧ Hid (firstX enl (Tx.lists (xs.take j)) = 0) ∧ After W1 wr) (fun i _ => xs.length - (intOf i).toNat)
          case atStart => exact ⟨0, by omega, rfl, Lib.hid (by simp [Tx.lists, firstX]), after_after b3 inferInstance⟩
          case round =>
            obtain ⟨j, hj, rfl, HJ, ar⟩ := hrel
            have dr : After w wr := after_after a1 ar
            obtain ⟨k0, k2, k3, k5, kl⟩ := HK.out wr ar
            by_cases hlt : j < xs.length
            · have hltI : (j : Int) < (xs.length : Int) := by omega
              obtain ⟨b, p, e1, o1, t1, v1, s1, A1, c1, xs1, rfl, hle, HX1, HR1, y0, y1, y2, y3, y4, y5⟩ := (XX.out.here wr (k := after_after hw dr)).part (i := j) hlt
              have HC := Lib.hid (HI.out j e1 o1 t1 v1 s1 A1 c1 xs1 HX1.out wr (after_after hw dr))
              have HT := Lib.hid (Tx.lists_take HX1.out)
              obtain ⟨f, hf⟩ : ∃ f, firstX enl (Tx.mk e1 o1 t1 v1 s1 A1 c1 xs1).list = f := ⟨_, rfl⟩
              have HFX : Hid (firstX enl (Tx.lists (xs.take (j + 1))) = f) := by show _ = _; rw [HT.out, firstX_append, if_pos HJ.out, hf]
              rw [hf] at HC
              clear hf HX1 HR1
              go_wp2_with fail
              refine HC.out.mono ?_
              rintro e w7 ⟨rfl, a7⟩
              have d7 : After w w7 := after_after dr a7
              by_cases hf0 : f = 0
              · have z1 : (f == 0) = true := by rw [beq_iff_eq]; exact hf0
                have z2 : (f != 0) = false := by rw [bne, z1]; rfl
                have HN2 : Hid (firstX enl (Tx.lists (xs.take (j + 1))) = 0) := HFX.out.trans hf0
                go_wp2_with fail
                go_roundw
                case rel => exact ⟨j + 1, by omega, by go_num, HN2, after_after ar a7⟩
                case measure => simp only [intOf]; omega
              · have z1 : (f == 0) = false := by rw [beq_eq_false_iff_ne]; exact hf0
                have z2 : (f != 0) = true := by rw [bne, z1]; rfl
                have HE : Hid (R = f) := by
                  show _ = _
                  rw [HRs.out]
                  have hp : Tx.lists (xs.take (j + 1)) <+: Tx.lists xs := ⟨Tx.lists (xs.drop (j + 1)), by rw [← Tx.lists_append, List.take_append_drop]⟩
                  rw [firstX_pre enl hp (by rw [HFX.out]; exact hf0), HFX.out]
                go_wp2_with fail
                go_ret
                exact ⟨by rw [HE.out]; rfl, d7⟩
            · have HE : Hid (R = 0) := by
                show _ = _
                have h1 := HJ.out
                rw [List.take_of_length_le (by omega)] at h1
                rw [HRs.out, h1]
              go_wp2_with fail
              go_ret
              exact ⟨by rw [HE.out]; rfl, dr⟩
    replace HD := Lib.hid (HD.out.trans (if_neg h18))
    have b1 : (k == 1) = false := by rw [beq_eq_false_iff_ne]; omega
    have b8 : (k == 8) = false := by rw [beq_eq_false_iff_ne]; omega
    by_cases h9 : k = 9
    · subst h9
      replace HD := Lib.hid (HD.out.trans (if_pos rfl))
      by_cases hm0 : m = 0
      · have hd_ : D = 10 := HD.out.trans (if_pos hm0)
        have HE : Hid (R = 10) := (HR1.out (by rw [hd_]; decide)).trans hd_
        clear hd_
        have hd : decide (0 < m) = false := by simp [hm0]
        rw [hd] at HL
        go_enter Tryz.func51, Tryz.ntmps51
        go_wp2_with fail
        try rw [hW1]
        try rw [hg1]
        clear hW1 hg1
        refine (HL.out W1 (after_after hw a1)).mono ?_
        rintro e w2 ⟨rfl, a2⟩
        go_wp2_with fail
        go_ret
        exact ⟨by rw [HE.out]; rfl, after_after a1 a2⟩
      have hd : decide (0 < m) = true := by simp; omega
      rw [hd] at HL
      replace HD := Lib.hid (HD.out.trans (if_neg hm0))
      have HSm : Hid (∀ U : World, After w0 U → Calls Tryz.prog 82 #[.slice Aen nen cen, .int .i64 t] U fun e w' => e = .returned (.int .i64 (m : Nat)) ∧ ∃ z, w' = U.more z) := fun U hU => (HS.out U hU).mono fun e w_ h_ => ⟨h_.1, have := h_.2; After.is_more _ _⟩
      by_cases hxm : xs.length = m
      rotate_left
      · have hd_ : D = 9 := HD.out.trans (if_neg hxm)
        have HE : Hid (R = 9) := (HR1.out (by rw [hd_]; decide)).trans hd_
        clear hd_
        have hx1 : ((xs.length : Int) == (m : Int)) = false := by rw [beq_eq_false_iff_ne]; omega
        have hx2 : ((xs.length : Int) != (m : Int)) = true := by rw [bne, hx1]; rfl
        go_enter Tryz.func51, Tryz.ntmps51
        go_wp2_with fail
        try rw [hW1]
        try rw [hg1]
        clear hW1 hg1
        refine (HL.out W1 (after_after hw a1)).mono ?_
        rintro e w2 ⟨rfl, a2⟩
        have d2 : After w w2 := after_after a1 a2
        have d02 : After w0 w2 := after_after hw d2
        clear k0 k2 k3 k5 kl
        obtain ⟨k0, k2, k3, k5, kl⟩ := HK.out w2 a2
        go_wp2_with fail
        refine wp_region_more (by kernel_rfl) (by kernel_rfl) ?_
        repeat (go_big_quiet_step ((go_at_call 82; exact Calls.more_of (HSm.out _ inferInstance))))
        refine wpQuiet_nil ?_
        rintro _ ⟨y5, rfl⟩
        obtain ⟨v5, hv5⟩ : ∃ v, w2.more y5 = v := ⟨_, rfl⟩
        have av5 : After w2 v5 := by rw [← hv5]; infer_instance
        rw [hv5]
        clear hv5
        have b5 : After W1 v5 := after_after a2 av5
        clear k0 k2 k3 k5 kl
        obtain ⟨k0, k2, k3, k5, kl⟩ := HK.out v5 b5
        go_wp2_with fail
        go_ret
        exact ⟨by rw [HE.out]; rfl, after_after a1 b5⟩
      have HRs : Hid (R = firstX enl (Tx.lists xs)) := HR0.out (HD.out.trans (if_pos hxm))
      have hx1 : ((xs.length : Int) == (m : Int)) = true := by rw [beq_iff_eq]; omega
      have hx2 : ((xs.length : Int) != (m : Int)) = false := by rw [bne, hx1]; rfl
      clear hxm
      go_enter Tryz.func51, Tryz.ntmps51
      go_wp2_with fail
      try rw [hW1]
      try rw [hg1]
      clear hW1 hg1
      refine (HL.out W1 (after_after hw a1)).mono ?_
      rintro e w2 ⟨rfl, a2⟩
      have d2 : After w w2 := after_after a1 a2
      have d02 : After w0 w2 := after_after hw d2
      clear k0 k2 k3 k5 kl
      obtain ⟨k0, k2, k3, k5, kl⟩ := HK.out w2 a2
      go_wp2_with fail
      refine wp_region_more (by kernel_rfl) (by kernel_rfl) ?_
      repeat (go_big_quiet_step ((go_at_call 82; exact Calls.more_of (HSm.out _ inferInstance))))
      refine wpQuiet_nil ?_
      rintro _ ⟨y5, rfl⟩
      obtain ⟨v5, hv5⟩ : ∃ v, w2.more y5 = v := ⟨_, rfl⟩
      have av5 : After w2 v5 := by rw [← hv5]; infer_instance
      rw [hv5]
      clear hv5
      have b5 : After W1 v5 := after_after a2 av5
      clear k0 k2 k3 k5 kl
      obtain ⟨k0, k2, k3, k5, kl⟩ := HK.out v5 b5
      go_wp2_with fail
      clear k0 k2 k3 k5 kl
      go_loopw [5] (fun i wr => ∃ j : Nat, j ≤ xs.length ∧ i = .int .i64 (j : Nat) ∧ Hid (firstX enl (Tx.lists (xs.take j)) = 0) ∧ After W1 wr) (fun i _ => xs.length - (intOf i).toNat)
      case atStart => exact ⟨0, by omega, rfl, Lib.hid (by simp [Tx.lists, firstX]), b5⟩
      case round =>
        obtain ⟨j, hj, rfl, HJ, ar⟩ := hrel
        have dr : After w wr := after_after a1 ar
        obtain ⟨k0, k2, k3, k5, kl⟩ := HK.out wr ar
        by_cases hlt : j < xs.length
        · have hltI : (j : Int) < (xs.length : Int) := by omega
          obtain ⟨b, p, e1, o1, t1, v1, s1, A1, c1, xs1, rfl, hle, HX1, HR1, y0, y1, y2, y3, y4, y5⟩ := (XX.out.here wr (k := after_after hw dr)).part (i := j) hlt
          have HC := Lib.hid (HI.out j e1 o1 t1 v1 s1 A1 c1 xs1 HX1.out wr (after_after hw dr))
          have HT := Lib.hid (Tx.lists_take HX1.out)
          obtain ⟨f, hf⟩ : ∃ f, firstX enl (Tx.mk e1 o1 t1 v1 s1 A1 c1 xs1).list = f := ⟨_, rfl⟩
          have HFX : Hid (firstX enl (Tx.lists (xs.take (j + 1))) = f) := by show _ = _; rw [HT.out, firstX_append, if_pos HJ.out, hf]
          rw [hf] at HC
          clear hf HX1 HR1
          go_wp2_with fail
          refine HC.out.mono ?_
          rintro e w7 ⟨rfl, a7⟩
          have d7 : After w w7 := after_after dr a7
          by_cases hf0 : f = 0
          · have z1 : (f == 0) = true := by rw [beq_iff_eq]; exact hf0
            have z2 : (f != 0) = false := by rw [bne, z1]; rfl
            have HN2 : Hid (firstX enl (Tx.lists (xs.take (j + 1))) = 0) := HFX.out.trans hf0
            go_wp2_with fail
            go_roundw
            case rel => exact ⟨j + 1, by omega, by go_num, HN2, after_after ar a7⟩
            case measure => simp only [intOf]; omega
          · have z1 : (f == 0) = false := by rw [beq_eq_false_iff_ne]; exact hf0
            have z2 : (f != 0) = true := by rw [bne, z1]; rfl
            have HE : Hid (R = f) := by
              show _ = _
              rw [HRs.out]
              have hp : Tx.lists (xs.take (j + 1)) <+: Tx.lists xs := ⟨Tx.lists (xs.drop (j + 1)), by rw [← Tx.lists_append, List.take_append_drop]⟩
              rw [firstX_pre enl hp (by rw [HFX.out]; exact hf0), HFX.out]
            go_wp2_with fail
            go_ret
            exact ⟨by rw [HE.out]; rfl, d7⟩
        · have HE : Hid (R = 0) := by
            show _ = _
            have h1 := HJ.out
            rw [List.take_of_length_le (by omega)] at h1
            rw [HRs.out, h1]
          go_wp2_with fail
          go_ret
          exact ⟨by rw [HE.out]; rfl, dr⟩
    have b9 : (k == 9) = false := by rw [beq_eq_false_iff_ne]; exact h9
    have HRs : Hid (R = firstX enl (Tx.lists xs)) := HR0.out (HD.out.trans (if_neg h9))
    go_enter Tryz.func51, Tryz.ntmps51
    go_wp2_with fail
    try rw [hW1]
    try rw [hg1]
    clear hW1 hg1
    clear k0 k2 k3 k5 kl
    go_loopw [5] (fun i wr => ∃ j : Nat, j ≤ xs.length ∧ i = .int .i64 (j : Nat) ∧ Hid (firstX enl (Tx.lists (xs.take j)) = 0) ∧ After W1 wr) (fun i _ => xs.length - (intOf i).toNat)
    case atStart => exact ⟨0, by omega, rfl, Lib.hid (by simp [Tx.lists, firstX]), inferInstance⟩
    case round =>
      obtain ⟨j, hj, rfl, HJ, ar⟩ := hrel
      have dr : After w wr := after_after a1 ar
      obtain ⟨k0, k2, k3, k5, kl⟩ := HK.out wr ar
      by_cases hlt : j < xs.length
      · have hltI : (j : Int) < (xs.length : Int) := by omega
        obtain ⟨b, p, e1, o1, t1, v1, s1, A1, c1, xs1, rfl, hle, HX1, HR1, y0, y1, y2, y3, y4, y5⟩ := (XX.out.here wr (k := after_after hw dr)).part (i := j) hlt
        have HC := Lib.hid (HI.out j e1 o1 t1 v1 s1 A1 c1 xs1 HX1.out wr (after_after hw dr))
        have HT := Lib.hid (Tx.lists_take HX1.out)
        obtain ⟨f, hf⟩ : ∃ f, firstX enl (Tx.mk e1 o1 t1 v1 s1 A1 c1 xs1).list = f := ⟨_, rfl⟩
        have HFX : Hid (firstX enl (Tx.lists (xs.take (j + 1))) = f) := by show _ = _; rw [HT.out, firstX_append, if_pos HJ.out, hf]
        rw [hf] at HC
        clear hf HX1 HR1
        go_wp2_with fail
        refine HC.out.mono ?_
        rintro e w7 ⟨rfl, a7⟩
        have d7 : After w w7 := after_after dr a7
        by_cases hf0 : f = 0
        · have z1 : (f == 0) = true := by rw [beq_iff_eq]; exact hf0
          have z2 : (f != 0) = false := by rw [bne, z1]; rfl
          have HN2 : Hid (firstX enl (Tx.lists (xs.take (j + 1))) = 0) := HFX.out.trans hf0
          go_wp2_with fail
          go_roundw
          case rel => exact ⟨j + 1, by omega, by go_num, HN2, after_after ar a7⟩
          case measure => simp only [intOf]; omega
        · have z1 : (f == 0) = false := by rw [beq_eq_false_iff_ne]; exact hf0
          have z2 : (f != 0) = true := by rw [bne, z1]; rfl
          have HE : Hid (R = f) := by
            show _ = _
            rw [HRs.out]
            have hp : Tx.lists (xs.take (j + 1)) <+: Tx.lists xs := ⟨Tx.lists (xs.drop (j + 1)), by rw [← Tx.lists_append, List.take_append_drop]⟩
            rw [firstX_pre enl hp (by rw [HFX.out]; exact hf0), HFX.out]
          go_wp2_with fail
          go_ret
          exact ⟨by rw [HE.out]; rfl, d7⟩
      · have HE : Hid (R = 0) := by
          show _ = _
          have h1 := HJ.out
          rw [List.take_of_length_le (by omega)] at h1
          rw [HRs.out, h1]
        go_wp2_with fail
        go_ret
        exact ⟨by rw [HE.out]; rfl, dr⟩
set_option maxRecDepth 100000 in
set_option maxHeartbeats 1600000 in
theorem rexpr_any {w0 : World} {x : Lst EnD} (h : RowOf 2 PEn w0 x) {k o t v : Int} {s : ByteArray} {A : Option Addr} {c : Nat} {xs : List Tx} (hs : (Tx.mk k o t v s A c xs).size ≤ 2000000) (hX : RX w0 (.mk k o t v s A c xs)) (hB : TxB (.mk k o t v s A c xs)) (w : World) (hw : After w0 w) :
    Calls Tryz.prog 33 #[.slice x.A x.l.length x.c, .agg #[.int .i64 k, .int .i64 o, .int .i64 t, .int .i64 v, .string s, .slice A xs.length c]] w fun e w' => e = .returned (.int .i64 (exE x.l (.mk k o t v s A c xs))) ∧ After w w' := by
  have HC := Lib.hid (fun (U : World) (hU : After w0 U) => rchk_any hs hX U hU)
  have HI := Lib.hid (fun (U : World) (hU : After w0 U) => rinside_n _ k o t v s A c xs w0 x (Nat.le_refl _) hX hB h U hU)
  have HV : Hid (exE x.l (.mk k o t v s A c xs) = if chkI (.mk k o t v s A c xs) = 0 then firstX x.l (Tx.mk k o t v s A c xs).list else chkI (.mk k o t v s A c xs)) := rfl
  obtain ⟨R, hR⟩ : ∃ R, exE x.l (.mk k o t v s A c xs) = R := ⟨_, rfl⟩
  obtain ⟨f, hf⟩ : ∃ f, firstX x.l (Tx.mk k o t v s A c xs).list = f := ⟨_, rfl⟩
  obtain ⟨q, hq⟩ : ∃ q, chkI (.mk k o t v s A c xs) = q := ⟨_, rfl⟩
  rw [hR, hf, hq] at HV
  rw [hq] at HC
  rw [hf] at HI
  rw [hR]
  clear hR hf hq h hX hB hs
  obtain ⟨g1, hg1⟩ : ∃ g1, w.heap.size = g1 := ⟨_, rfl⟩
  obtain ⟨W1, hW1, HK, a1⟩ : ∃ W1, w.alloc (.cells #[.int .i64 k, .int .i64 o, .int .i64 t, .int .i64 v, .string s, .slice A xs.length c] 58) = W1 ∧ Hid (∀ U : World, After W1 U → U.cell? ⟨g1, 0, none⟩ = some (.int .i64 k) ∧ U.cell? ⟨g1, 1, none⟩ = some (.int .i64 o) ∧ U.cell? ⟨g1, 2, none⟩ = some (.int .i64 t) ∧ U.cell? ⟨g1, 3, none⟩ = some (.int .i64 v) ∧ U.cell? ⟨g1, 4, none⟩ = some (.string s) ∧ U.cell? ⟨g1, 5, none⟩ = some (.slice A xs.length c) ∧ Le (g1 + 1) U) ∧ After w W1 := by
    refine ⟨_, rfl, fun U hU => ?_, inferInstance⟩
    have y0 := (Blk.new w 58 #[.int .i64 k, .int .i64 o, .int .i64 t, .int .i64 v, .string s, .slice A xs.length c]).after (w' := U)
    rw [hg1] at y0
    exact ⟨by rw [y0.cell]; rfl, by rw [y0.cell]; rfl, by rw [y0.cell]; rfl, by rw [y0.cell]; rfl, by rw [y0.cell]; rfl, by rw [y0.cell]; rfl, y0.is_le⟩
  obtain ⟨k0, k1, k2, k3, k4, k5, kl⟩ := HK.out W1 inferInstance
  go_enter Tryz.func33, Tryz.ntmps33
  go_wp2_with fail
  try rw [hW1]
  try rw [hg1]
  clear hW1 hg1
  refine (HC.out W1 (after_after hw a1)).mono ?_
  rintro e w2 ⟨rfl, a2⟩
  have d2 : After w w2 := after_after a1 a2
  clear k0 k1 k2 k3 k4 k5 kl
  obtain ⟨k0, k1, k2, k3, k4, k5, kl⟩ := HK.out w2 a2
  by_cases hq0 : q = 0
  · subst hq0
    have HE : Hid (R = f) := by show _ = _; rw [HV.out, if_pos rfl]
    go_wp2_with fail
    refine (HI.out w2 (after_after hw d2)).mono ?_
    rintro e w3 ⟨rfl, a3⟩
    go_wp2_with fail
    go_ret
    exact ⟨by rw [HE.out]; rfl, after_after d2 a3⟩
  · have z1 : (q == 0) = false := by rw [beq_eq_false_iff_ne]; exact hq0
    have z2 : (q != 0) = true := by rw [bne, z1]; rfl
    have HE : Hid (R = q) := by show _ = _; rw [HV.out, if_neg hq0]
    go_wp2_with fail
    go_ret
    exact ⟨by rw [HE.out]; rfl, d2⟩
end Go.Proofs.YtdghfhnkacfahaaGreat
