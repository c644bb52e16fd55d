/-
  ImageSums: the walk.
-/
import Derived.Test.YtgmojjdojcmnaaaDoorILives
import Derived.Test.YtgmojjdojcmnaaaDoorIChk
import Derived.Test.YtgmojjdojcmnaaaDoorISumF
set_option linter.unusedVariables false
set_option linter.unusedSimpArgs false
namespace Go.Proofs.YtgmojjdojcmnaaaDoor
open Go.RowKit Go.BigFrame

theorem bool_ne {a b : Nat} (h : a ≠ b) : (((a : Int)) != ((b : Int))) = true := by simp; omega
set_option maxRecDepth 100000 in
set_option maxHeartbeats 4000000 in
theorem imageSums_walk (w : World) (hO : Ops w) {A c l} (x : RY w A c l) (n : Nat) (hn : l.length = n) (at_ : Int) (hat0 : -9223372036854775808 ≤ at_) (hat1 : at_ ≤ 9223372036854775807) (F : UInt8) :
    Calls Tryd.prog 4 #[.slice A n c, .int .i64 at_, .int .u8 (F.toNat : Int)] w fun e w' => e = .returned (.bool true) ∧ After w w' := by
  have hC := check_any
  obtain ⟨i0, hi, hz0, hz1, hz2⟩ := info_parts byteInfo
  have hcl := x.le
  have hln := x.len
  rw [hn] at hcl hln
  have main : ∀ (l' : List UInt8) (n' : Nat), l'.length = n' → RY w A c l' → (3000 < n ∧ n' = 3000) ∨ (¬ 3000 < n ∧ n' = n) → Calls Tryd.prog 4 #[.slice A n c, .int .i64 at_, .int .u8 (F.toNat : Int)] w fun e w' => e = .returned (.bool true) ∧ After w w' := by
    intro l' n' hn' x' hor
    have HS := Lib.hid (fun U (h : After w U) => sum_any x' U h)
    have HR := Lib.hid (fun U (h : After w U) => rsum_any x' U h)
    rw [hn'] at HS HR
    have HL : Hid (∀ U, After w U → Calls Tryd.prog 13 #[] U fun e w' => e = .returned (.bool true) ∧ After w w') := fun U h => (lives_any hC U (hO.here U)).mono fun e w' he => ⟨he.1, after_after h he.2⟩
    obtain ⟨sv, hsv⟩ : ∃ sv, sumB l' = sv := ⟨_, rfl⟩
    have hcl' : (3000 : Int) ≤ (c : Int) ∨ ¬ 3000 < n := by omega
    by_cases hA : at_ < 0 ∨ (n' : Int) ≤ at_ ∨ F = 0
    · have hA' : at_ < 0 ∨ (¬ at_ < 0 ∧ (n' : Int) ≤ at_) ∨ (¬ at_ < 0 ∧ ¬ (n' : Int) ≤ at_ ∧ ((F.toNat : Int) = 0)) := by
        rcases hA with h | h | h
        · exact .inl h
        · by_cases hh : at_ < 0
          · exact .inl hh
          · exact .inr (.inl ⟨hh, h⟩)
        · subst h
          by_cases hh : at_ < 0
          · exact .inl hh
          · by_cases h2 : (n' : Int) ≤ at_
            · exact .inr (.inl ⟨hh, h2⟩)
            · exact .inr (.inr ⟨hh, h2, rfl⟩)
      clear hA
      have hs : (3000 < n ∧ n' = 3000 ∧ (3000 : Int) < (n : Int) ∧ (3000 : Int) ≤ (c : Int)) ∨ (¬ (3000 : Int) < (n : Int) ∧ n' = n) := by
        rcases hor with ⟨a, b⟩ | ⟨a, b⟩ <;> omega
      rcases hs with ⟨hb, rfl, hbI, hcI⟩ | ⟨hbI, rfl⟩
      all_goals (
        rcases hA' with ha | ⟨ha, hb2⟩ | ⟨ha, hb2, hf⟩
        all_goals (
          go_enter Tryd.func4, Tryd.ntmps4
          go_wp2_with fail
          refine (HS.out _ inferInstance).mono ?_
          rintro e w1 ⟨rfl, rfl⟩
          go_wp2_with fail
          refine (HR.out _ inferInstance).mono ?_
          rintro e w1 ⟨rfl, rfl⟩
          go_wp2_with fail
          refine (HL.out _ inferInstance).mono ?_
          rintro e w1 ⟨rfl, hw1⟩
          go_wp2_with fail
          go_ret
          exact ⟨rfl, hw1⟩))
    · obtain ⟨hz, hlt, hF0⟩ : 0 ≤ at_ ∧ at_ < (n' : Int) ∧ F ≠ 0 := by
        simp only [not_or] at hA
        exact ⟨by omega, by omega, hA.2.2⟩
      obtain ⟨k, rfl⟩ := Int.eq_ofNat_of_zero_le hz
      have hk : k < n' := by omega
      have hf1 : ((F.toNat : Int) == 0) = false := by
        have h0 : F.toNat ≠ 0 := fun e => hF0 (UInt8.toNat.inj e)
        simp; omega
      have hf2 : ¬ ((F.toNat : Int) = 0) := by
        have h0 : F.toNat ≠ 0 := fun e => hF0 (UInt8.toNat.inj e)
        omega
      have hs : (3000 < n ∧ n' = 3000 ∧ (3000 : Int) < (n : Int) ∧ (3000 : Int) ≤ (c : Int)) ∨ (¬ (3000 : Int) < (n : Int) ∧ n' = n) := by
        rcases hor with ⟨a, b⟩ | ⟨a, b⟩ <;> omega
      have hn0 : n' ≤ 140737488355328 := by omega
      have HO1 := Lib.hid (World.ownsRow_lit (e := 5) (size := 1) w #[] 0 (Nat.le_refl _) (by unfold maxLen; omega) rfl)
      obtain ⟨W1, hW1, HO1', x1, a1, s1⟩ : ∃ W1, w.alloc (.cells #[] 5) = W1 ∧ Hid (W1.ownsRow w.heap.size 5 1 (.slice (some ⟨w.heap.size, 0, none⟩) 0 0) 0 []) ∧ Hid (RY W1 A c l') ∧ After w W1 ∧ W1.heap.size = w.heap.size + 1 := ⟨_, rfl, HO1.out, x'.here _, inferInstance, by rw [size_alloc_]⟩
      obtain ⟨g, hg⟩ : ∃ g, w.heap.size = g := ⟨_, rfl⟩
      rw [hg] at HO1' s1
      have HX1 := Lib.hid x1.out.reads
      rw [hn'] at HX1
      clear HO1
      have hA0 : ¬ ((k : Int) < 0) := by omega
      have hA1 : ¬ ((n' : Int) ≤ (k : Int)) := by omega
      obtain ⟨x4, hx4⟩ : ∃ x4, l'[k]'(by omega) = x4 := ⟨_, rfl⟩
      obtain ⟨xn, hxn⟩ : ∃ xn : Nat, (x4 ^^^ F).toNat = xn := ⟨_, rfl⟩
      have hxr : bits BinOp.xor IntKind.u8 (x4.toNat : Int) (F.toNat : Int) = (xn : Int) := by rw [← hxn]; exact xor_u8 x4 F
      replace hxn := Lib.hid hxn
      obtain ⟨CB, hCB⟩ : ∃ CB, l'.set k (x4 ^^^ F) = CB := ⟨_, rfl⟩
      have hCl : CB.length = n' := by rw [← hCB, List.length_set]; exact hn'
      have hne : sumB CB ≠ sv := by
        rw [← hCB, ← hsv]; exact sumB_set l' k (by omega) _ (by rw [hx4]; exact xor_ne x4 F hF0)
      have hne1 : ((sumB CB : Nat) : Int) ≠ (sv : Int) := by omega
      have hne2 : (((sumB CB : Nat) : Int) != (sv : Int)) = true := by simp; omega
      replace hCB := Lib.hid hCB
      obtain ⟨cs, hcs⟩ : ∃ cs, sumB CB = cs := ⟨_, rfl⟩
      rw [hcs] at hne hne1 hne2
      rcases hs with ⟨hb, rfl, hbI, hcI⟩ | ⟨hbI, rfl⟩
      · go_enter Tryd.func4, Tryd.ntmps4
        go_wp2_with fail
        refine (HS.out _ inferInstance).mono ?_
        rintro e w1 ⟨rfl, hw1⟩
        rw [hw1]
        clear hw1 w1
        go_wp2_with fail
        refine (HR.out _ inferInstance).mono ?_
        rintro e w1 ⟨rfl, hw1⟩
        rw [hw1]
        clear hw1 w1
        go_wp2_with (at_builtin; go_loud ((try rw [hW1]); refine wpList_append_any _ rfl (.tmp 31) (.tmp 32) 22 rfl g 5 i0 (.int .u8 0) 1 1 Tryd.underlying22 hi hz0 hz1 hz2 rfl (by omega) (.slice (some ⟨g, 0, none⟩) 0 0) 0 [] rfl HO1'.out W1.heap.size A 3000 c (yv l') rfl HX1.out ?c2 ?c3 ?c4 ?c5 ?_))
        case c2 => intro u hu; exact yv_one hu
        case c3 => unfold maxLen; omega
        case c4 => omega
        case c5 => omega
        intro v9 w9 hown9 hg9 _
        have hown9' : w9.ownsRow g 5 1 v9 3000 (yv l') := by simpa using hown9
        have a9 : After w w9 := after_grown_ (w0 := w) (h := a1) HO1'.out (by omega) hg9
        obtain ⟨g9, c9, rfl, hl9, hc9⟩ := own_at hown9' (by omega)
        have hk4 : (yv l')[k]? = some (Value.int .u8 (x4.toNat : Int)) := by
          rw [yv, List.getElem?_map, List.getElem?_eq_getElem (by omega), hx4]; rfl
        have k4 : w9.cell? ⟨g9, k, none⟩ = some (Value.int .u8 (x4.toNat : Int)) := hc9 k _ hk4
        have f4 := hown9'.frozenAt k
        have l9 : Le (g9 + 1) w9 := ⟨hl9⟩
        have hge : g ≤ g9 := (hown9'.lt g9 rfl).1
        have HO9 := Lib.hid hown9'
        obtain ⟨W10, hW10, x10, a10⟩ : ∃ W10, w9.setCell ⟨g9, k, none⟩ (.int .u8 (xn : Int)) = W10 ∧ Hid (RY W10 (some ⟨g9, 0, none⟩) c9 CB) ∧ After w W10 := by
          have h1 := (HO9.out.stored k (.int .u8 (xn : Int))).1
          have e1 : (yv l').set k (.int .u8 (xn : Int)) = yv CB := by rw [← hCB, ← hxn.out]; simp [yv, List.map_set]
          rw [e1] at h1
          have h1' := h1
          rw [← hCl] at h1'
          obtain ⟨A', c', e', q1, q2⟩ := own_slice h1
          injection e' with _ _ e3
          subst e3
          exact ⟨_, rfl, ⟨Reads.of_own h1', by rw [hCl]; exact q1, q2, by omega⟩, ⟨a9.below.setCell (p := ⟨g9, k, none⟩) (by show w.heap.size ≤ g9; omega) _⟩⟩
        have HS2 := Lib.hid (sum_any x10.out W10 inferInstance)
        rw [hCl] at HS2
        have HS3 := Lib.hid (HS.out W10 a10)
        clear hown9 hg9 hown9' hc9 hk4
        go_wp2_with fail
        try rw [hW10]
        clear hW10
        refine HS2.out.mono ?_
        rintro e w11 ⟨rfl, hw11⟩
        rw [hw11]
        clear hw11 w11
        go_wp2_with fail
        refine HS3.out.mono ?_
        rintro e w11 ⟨rfl, hw11⟩
        rw [hw11]
        clear hw11 w11
        go_wp2_with fail
        refine (HL.out _ a10).mono ?_
        rintro e w1 ⟨rfl, hw1⟩
        go_wp2_with fail
        go_ret
        exact ⟨rfl, hw1⟩
      · go_enter Tryd.func4, Tryd.ntmps4
        go_wp2_with fail
        refine (HS.out _ inferInstance).mono ?_
        rintro e w1 ⟨rfl, hw1⟩
        rw [hw1]
        clear hw1 w1
        go_wp2_with fail
        refine (HR.out _ inferInstance).mono ?_
        rintro e w1 ⟨rfl, hw1⟩
        rw [hw1]
        clear hw1 w1
        go_wp2_with (at_builtin; go_loud ((try rw [hW1]); refine wpList_append_any _ rfl (.tmp 31) (.tmp 32) 22 rfl g 5 i0 (.int .u8 0) 1 1 Tryd.underlying22 hi hz0 hz1 hz2 rfl (by omega) (.slice (some ⟨g, 0, none⟩) 0 0) 0 [] rfl HO1'.out W1.heap.size A n' c (yv l') rfl HX1.out ?c2 ?c3 ?c4 ?c5 ?_))
        case c2 => intro u hu; exact yv_one hu
        case c3 => unfold maxLen; omega
        case c4 => omega
        case c5 => omega
        intro v9 w9 hown9 hg9 _
        have hown9' : w9.ownsRow g 5 1 v9 n' (yv l') := by simpa using hown9
        have a9 : After w w9 := after_grown_ (w0 := w) (h := a1) HO1'.out (by omega) hg9
        obtain ⟨g9, c9, rfl, hl9, hc9⟩ := own_at hown9' (by omega)
        have hk4 : (yv l')[k]? = some (Value.int .u8 (x4.toNat : Int)) := by
          rw [yv, List.getElem?_map, List.getElem?_eq_getElem (by omega), hx4]; rfl
        have k4 : w9.cell? ⟨g9, k, none⟩ = some (Value.int .u8 (x4.toNat : Int)) := hc9 k _ hk4
        have f4 := hown9'.frozenAt k
        have l9 : Le (g9 + 1) w9 := ⟨hl9⟩
        have hge : g ≤ g9 := (hown9'.lt g9 rfl).1
        have HO9 := Lib.hid hown9'
        obtain ⟨W10, hW10, x10, a10⟩ : ∃ W10, w9.setCell ⟨g9, k, none⟩ (.int .u8 (xn : Int)) = W10 ∧ Hid (RY W10 (some ⟨g9, 0, none⟩) c9 CB) ∧ After w W10 := by
          have h1 := (HO9.out.stored k (.int .u8 (xn : Int))).1
          have e1 : (yv l').set k (.int .u8 (xn : Int)) = yv CB := by rw [← hCB, ← hxn.out]; simp [yv, List.map_set]
          rw [e1] at h1
          have h1' := h1
          rw [← hCl] at h1'
          obtain ⟨A', c', e', q1, q2⟩ := own_slice h1
          injection e' with _ _ e3
          subst e3
          exact ⟨_, rfl, ⟨Reads.of_own h1', by rw [hCl]; exact q1, q2, by omega⟩, ⟨a9.below.setCell (p := ⟨g9, k, none⟩) (by show w.heap.size ≤ g9; omega) _⟩⟩
        have HS2 := Lib.hid (sum_any x10.out W10 inferInstance)
        rw [hCl] at HS2
        have HS3 := Lib.hid (HS.out W10 a10)
        clear hown9 hg9 hown9' hc9 hk4
        go_wp2_with fail
        try rw [hW10]
        clear hW10
        refine HS2.out.mono ?_
        rintro e w11 ⟨rfl, hw11⟩
        rw [hw11]
        clear hw11 w11
        go_wp2_with fail
        refine HS3.out.mono ?_
        rintro e w11 ⟨rfl, hw11⟩
        rw [hw11]
        clear hw11 w11
        go_wp2_with fail
        refine (HL.out _ a10).mono ?_
        rintro e w1 ⟨rfl, hw1⟩
        go_wp2_with fail
        go_ret
        exact ⟨rfl, hw1⟩
  by_cases hb : 3000 < n
  · exact main (l.take 3000) 3000 (by rw [List.length_take, hn]; omega) (x.cut 3000 (by omega)) (.inl ⟨hb, rfl⟩)
  · exact main l n hn x (.inr ⟨hb, rfl⟩)
end Go.Proofs.YtgmojjdojcmnaaaDoor
