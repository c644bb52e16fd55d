/-
  ImageFlips: the walk.
-/
import Derived.Test.YtgmojjdojcmnaaaDoorILives
import Derived.Test.YtgmojjdojcmnaaaDoorIChk
import Derived.Test.YtgmojjdojcmnaaaDoorIFlipF
import Derived.Test.YtgmojjdojcmnaaaDoorIWeigh
set_option linter.unusedVariables false
set_option linter.unusedSimpArgs false
namespace Go.Proofs.YtgmojjdojcmnaaaDoor
open Go.RowKit Go.BigFrame

set_option maxRecDepth 100000 in
set_option maxHeartbeats 4000000 in
theorem imageFlips_walk (w : World) (hO : Ops w) {A c A' c' m} (x : RIm w A c A' c' m) (hb : ImB m) (at_ : Int) (hat0 : 0 ≤ at_) (hat1 : at_ ≤ 65535) (F : UInt8) :
    Calls Tryd.prog 5 #[.agg #[.slice A m.enums.length c, .slice A' m.rts.length c'], .int .u16 at_, .int .u8 (F.toNat : Int)] w fun e w' => e = .returned (.bool true) ∧ After w w' := by
  have hC := check_any
  obtain ⟨i0, hi, hz0, hz1, hz2⟩ := info_parts byteInfo
  have HL : Hid (∀ U, After w U → Calls Tryd.prog 13 #[] U fun e w' => e = .returned (.bool true) ∧ After w w') := fun U h => (lives_any hC U (hO.here U)).mono fun e w' he => ⟨he.1, after_after h he.2⟩
  have HH := Lib.hid (fun U (h : After w U) => heavy_any x U h)
  have X := Lib.hid x
  clear x
  obtain ⟨W1, hW1, HK, a1⟩ : ∃ W1, w.alloc (.cells #[.slice A m.enums.length c, .slice A' m.rts.length c'] 29) = W1 ∧ Hid (∀ U : World, After W1 U → U.cell? ⟨w.heap.size, 0, none⟩ = some (.slice A m.enums.length c) ∧ U.cell? ⟨w.heap.size, 1, none⟩ = some (.slice A' m.rts.length c') ∧ Le (w.heap.size + 1) U) ∧ After w W1 := by
    refine ⟨_, rfl, fun U hU => ?_, inferInstance⟩
    have y0 := (Blk.new w 29 #[.slice A m.enums.length c, .slice A' m.rts.length c']).after (w' := U)
    exact ⟨by rw [y0.cell]; rfl, by rw [y0.cell]; rfl, y0.is_le⟩
  obtain ⟨k0, k1, k2⟩ := HK.out W1 inferInstance
  go_enter Tryd.func5, Tryd.ntmps5
  go_wp2_with fail
  try rw [hW1]
  clear hW1
  refine (HH.out _ a1).mono ?_
  rintro e w2 ⟨⟨hv, rfl⟩, a2⟩
  have b2 : After W1 w2 := a2
  clear k0 k1 k2
  obtain ⟨k0, k1, k2⟩ := HK.out w2 b2
  have aw2 : After w w2 := after_after a1 b2
  clear a2
  cases hv with
  | true =>
    go_wp2_with fail
    refine (HL.out _ aw2).mono ?_
    rintro e w1 ⟨rfl, hw1⟩
    go_wp2_with fail
    go_ret
    exact ⟨rfl, hw1⟩
  | false =>
    by_cases hF0 : F = 0
    · have hf : (F.toNat : Int) = 0 := by rw [hF0]; rfl
      go_wp2_with fail
      refine (HL.out _ aw2).mono ?_
      rintro e w1 ⟨rfl, hw1⟩
      go_wp2_with fail
      go_ret
      exact ⟨rfl, hw1⟩
    · have hf1 : ((F.toNat : Int) == 0) = false := by
        have h0 : F.toNat ≠ 0 := fun e => hF0 (UInt8.toNat.inj e)
        simp; omega
      have hf2 : ¬ ((F.toNat : Int) = 0) := by
        have h0 : F.toNat ≠ 0 := fun e => hF0 (UInt8.toNat.inj e)
        omega
      by_cases hm : chk m = 0
      · have HP := Lib.hid (put_ok X.out hb w2 hO aw2 hC hm)
        obtain ⟨PB, hPB⟩ : ∃ PB, putB m = PB := ⟨_, rfl⟩
        obtain ⟨n, hn⟩ : ∃ n, PB.length = n := ⟨_, rfl⟩
        rw [hPB, hn] at HP
        have hn16 : 16 ≤ n := by
          have h1 := putB_len m
          have h2 := bodyB_len m
          rw [hPB, hn] at h1
          omega
        have hnI : ¬ ((n : Int) = 0) := by omega
        have hnB : ((n : Int) == 0) = false := by simp; omega
        go_wp2_with fail
        refine HP.out.mono ?_
        rintro e w3 ⟨Ab, cb, rfl, xb_, nb_, a3⟩
        have Xb := Lib.hid xb_
        clear xb_ nb_ HP
        have aw3 : After w w3 := after_after aw2 a3
        have hln := Xb.out.len
        rw [hn] at hln
        have hcl := Xb.out.le
        rw [hn] at hcl
        have HO1 := Lib.hid (World.ownsRow_lit (e := 5) (size := 1) w3 #[] 0 (Nat.le_refl _) (by unfold maxLen; omega) rfl)
        obtain ⟨W4, hW4, HO4, x4_, a4, s4⟩ : ∃ W4, w3.alloc (.cells #[] 5) = W4 ∧ Hid (W4.ownsRow w3.heap.size 5 1 (.slice (some ⟨w3.heap.size, 0, none⟩) 0 0) 0 []) ∧ Hid (RY W4 Ab cb PB) ∧ After w3 W4 ∧ W4.heap.size = w3.heap.size + 1 := ⟨_, rfl, HO1.out, Xb.out.here _, inferInstance, by rw [size_alloc_]⟩
        obtain ⟨g, hg⟩ : ∃ g, w3.heap.size = g := ⟨_, rfl⟩
        rw [hg] at HO4 s4
        have HX4 := Lib.hid x4_.out.reads
        rw [hn] at HX4
        clear HO1
        go_wp2_with (at_builtin; go_loud ((try rw [hW4]); refine wpList_append_any _ rfl (.tmp 42) (.tmp 43) 22 rfl g 5 i0 (.int .u8 0) 1 1 Tryd.underlying22 hi hz0 hz1 hz2 rfl (by omega) (.slice (some ⟨g, 0, none⟩) 0 0) 0 [] rfl HO4.out W4.heap.size Ab n cb (yv PB) rfl HX4.out ?c2 ?c3 ?c4 ?c5 ?_))
        case c2 => intro u hu; exact yv_one hu
        case c3 => unfold maxLen; omega
        case c4 => omega
        case c5 => omega
        intro v9 w9 hown9 hg9 _
        have hown9' : w9.ownsRow g 5 1 v9 n (yv PB) := by simpa using hown9
        have a9 : After w3 w9 := after_grown_ (w0 := w3) (h := a4) HO4.out (by omega) hg9
        obtain ⟨g9, c9, rfl, hl9, hc9⟩ := own_at hown9' (by omega)
        obtain ⟨k, hk⟩ : ∃ k : Nat, at_.tmod (n : Int) = (k : Int) := ⟨(at_.tmod (n : Int)).toNat, by rw [Int.toNat_of_nonneg (Int.tmod_nonneg _ hat0)]⟩
        have hkn : k < n := by
          have h1 := Int.tmod_lt_of_pos at_ (show (0 : Int) < (n : Int) by omega)
          omega
        have hkI : (k : Int) < (n : Int) := by omega
        obtain ⟨x4, hx4⟩ : ∃ x4, PB[k]'(by omega) = x4 := ⟨_, rfl⟩
        obtain ⟨xn, hxn⟩ : ∃ xn : Nat, (x4 ^^^ F).toNat = xn := ⟨_, rfl⟩
        have hxr : bits BinOp.xor IntKind.u8 (x4.toNat : Int) (F.toNat : Int) = (xn : Int) := by rw [← hxn]; exact xor_u8 x4 F
        replace hxn := Lib.hid hxn
        obtain ⟨CB, hCB⟩ : ∃ CB, PB.set k (x4 ^^^ F) = CB := ⟨_, rfl⟩
        have hCl : CB.length = n := by rw [← hCB, List.length_set]; exact hn
        have hgv : getV CB = (⟨[], []⟩, 15) := by
          have hk' : k < (putB m).length := by rw [hPB, hn]; exact hkn
          have h1 := flip_bad m k hk' (x4 ^^^ F) (by
            have e1 : (putB m)[k] = x4 := by rw [← hx4]; simp only [hPB]
            rw [e1]; exact xor_ne x4 F hF0)
          rw [hPB, hCB] at h1
          exact h1
        have hk4 : (yv PB)[k]? = some (Value.int .u8 (x4.toNat : Int)) := by
          rw [yv, List.getElem?_map, List.getElem?_eq_getElem (by omega), hx4]; rfl
        have k4 : w9.cell? ⟨g9, k, none⟩ = some (Value.int .u8 (x4.toNat : Int)) := hc9 k _ hk4
        have f4 := hown9'.frozenAt k
        have l9 : Le (g9 + 1) w9 := ⟨hl9⟩
        have hge : g ≤ g9 := (hown9'.lt g9 rfl).1
        have HO9 := Lib.hid hown9'
        obtain ⟨W10, hW10, x10, a10⟩ : ∃ W10, w9.setCell ⟨g9, k, none⟩ (.int .u8 (xn : Int)) = W10 ∧ Hid (RY W10 (some ⟨g9, 0, none⟩) c9 CB) ∧ After w3 W10 := by
          have h1 := (HO9.out.stored k (.int .u8 (xn : Int))).1
          have e1 : (yv PB).set k (.int .u8 (xn : Int)) = yv CB := by rw [← hCB, ← hxn.out]; simp [yv, List.map_set]
          rw [e1] at h1
          have h1' := h1
          rw [← hCl] at h1'
          obtain ⟨A', c', e', q1, q2⟩ := own_slice h1
          injection e' with _ _ e3
          subst e3
          exact ⟨_, rfl, ⟨Reads.of_own h1', by rw [hCl]; exact q1, q2, by omega⟩, ⟨a9.below.setCell (p := ⟨g9, k, none⟩) (by show w3.heap.size ≤ g9; omega) _⟩⟩
        have aw10 : After w W10 := after_after aw3 a10
        have HG := Lib.hid (get_any W10 x10.out inferInstance hC (hO.here W10))
        rw [hgv, hCl] at HG
        simp only [List.length_nil] at HG
        clear hown9 hg9 hown9' hc9 hk4 hgv hCB hx4
        go_wp2_with fail
        try rw [hW10]
        clear hW10
        refine HG.out.mono ?_
        rintro e w11 ⟨A1, c1, A2, c2, rfl, m11, a11⟩
        clear m11 HG
        have aw11 : After w w11 := after_after aw10 a11
        go_wp2_with fail
        refine (HL.out _ inferInstance).mono ?_
        rintro e w1 ⟨rfl, hw1⟩
        go_wp2_with fail
        go_ret
        exact ⟨rfl, hw1⟩
      · have HP := Lib.hid (put_bad X.out hb w2 hO aw2 hC hm)
        obtain ⟨q, hq⟩ : ∃ q, chk m = q := ⟨_, rfl⟩
        rw [hq] at HP hm
        have hq1 : (q == 0) = false := by simp; omega
        have hq2 : (q != 0) = true := by simp; omega
        go_wp2_with fail
        refine HP.out.mono ?_
        rintro e w3 ⟨rfl, a3⟩
        go_wp2_with fail
        refine (HL.out _ (after_after aw2 a3)).mono ?_
        rintro e w1 ⟨rfl, hw1⟩
        go_wp2_with fail
        go_ret
        exact ⟨rfl, hw1⟩
end Go.Proofs.YtgmojjdojcmnaaaDoor
