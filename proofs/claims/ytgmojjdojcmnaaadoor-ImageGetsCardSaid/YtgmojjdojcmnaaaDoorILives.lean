/-
  The law's examples (lives).
-/
import Derived.Test.YtgmojjdojcmnaaaDoorIPut
import Derived.Test.YtgmojjdojcmnaaaDoorIGetM
set_option linter.unusedVariables false
set_option linter.unusedSimpArgs false
namespace Go.Proofs.YtgmojjdojcmnaaaDoor
open Go.RowKit Go.BigFrame

def liveM : Img := ⟨[], [⟨[102], [], [], 0, [], []⟩]⟩
theorem chk_live : chk liveM = 0 := by decide +kernel
theorem put_live : (putB liveM).length = 41 := by decide +kernel
theorem get_live : getV (putB liveM) = (liveM, 0) := by decide +kernel
theorem flip_live : (getV ((putB liveM).set 4 ((putB liveM).getD 4 0 ^^^ 1))).2 = 15 := by decide +kernel
theorem end_live : (getV ((putB liveM).take 7)).2 = 4 := by decide +kernel
theorem sum_nil : sumB [] = 2166136261 := by decide +kernel
theorem sum_a : sumB [97] = 3826002220 := by decide +kernel

theorem xor_u8 (a b : UInt8) : bits BinOp.xor IntKind.u8 (a.toNat : Int) (b.toNat : Int) = ((a ^^^ b).toNat : Nat) := by
  have ha := a.toNat_lt
  have hb := b.toNat_lt
  have h2 : a.toNat ^^^ b.toNat < 2 ^ 8 := Nat.xor_lt_two_pow (by omega) (by omega)
  unfold bits
  have e1 : (BitVec.ofInt 8 (a.toNat : Int)).toNat = a.toNat := by rw [BitVec.toNat_ofInt]; omega
  have e2 : (BitVec.ofInt 8 (b.toNat : Int)).toNat = b.toNat := by rw [BitVec.toNat_ofInt]; omega
  show IntKind.u8.wrap ((BitVec.ofInt 8 (a.toNat : Int) ^^^ BitVec.ofInt 8 (b.toNat : Int)).toNat : Int) = _
  rw [BitVec.toNat_xor, e1, e2, IntKind.wrap_u8, UInt8.toNat_xor]; omega
theorem RY.nil_ (w : World) : RY w none 0 [] := ⟨Reads.none_, by simp, by omega, by simp⟩
theorem RI.nil_ (w : World) : RI w none 0 [] := ⟨Reads.none_, by simp, by omega, by simp⟩
theorem liveIm {w : World} {g : Nat} (h : Blk w g 52 #[.string ⟨#[102]⟩, .slice none 0 0, .slice none 0 0, .int .i64 0, .slice none 0 0, .slice none 0 0]) : RIm w none 0 (some ⟨g, 0, none⟩) 1 liveM := by
  refine ⟨RI.nil_ w, ⟨.inr ⟨g, 0, rfl, h.lt, fun i x hx => ?_⟩, by simp [liveM], by omega, by simp [liveM]⟩⟩
  match i, hx with
  | 0, hx =>
    simp [liveM] at hx
    subst hx
    exact ⟨⟨#[102]⟩, none, 0, none, 0, none, 0, none, 0, ⟨by rw [h.cell]; rfl, by rw [h.cell]; rfl, by rw [h.cell]; rfl, by rw [h.cell]; rfl, by rw [h.cell]; rfl, by rw [h.cell]; rfl⟩, ⟨rfl, by decide, RI.nil_ w, RI.nil_ w, RI.nil_ w, RC.nil w⟩⟩
theorem liveB : ImB liveM := by
  intro r hr t ht
  simp [liveM] at hr
  subst hr
  simp at ht
set_option maxRecDepth 100000 in
set_option maxHeartbeats 8000000 in
theorem lives_any (hC : CheckC) (w : World) (hO : Ops w) :
    Calls Tryd.prog 13 #[] w fun e w' => e = .returned (.bool true) ∧ After w w' := by
  obtain ⟨i0, hi, hz0, hz1, hz2⟩ := info_parts byteInfo
  obtain ⟨W1, hW1, z1, a1, s1⟩ : ∃ W1, w.alloc (.cells #[.string ⟨#[102]⟩, .slice none 0 0, .slice none 0 0, .int .i64 0, .slice none 0 0, .slice none 0 0] 52) = W1 ∧ Hid (Blk W1 w.heap.size 52 #[.string ⟨#[102]⟩, .slice none 0 0, .slice none 0 0, .int .i64 0, .slice none 0 0, .slice none 0 0]) ∧ After w W1 ∧ Hid (W1.heap.size = w.heap.size + 1) := ⟨_, rfl, Blk.new _ _ _, inferInstance, size_alloc_ _ _⟩
  have HP := Lib.hid (put_ok (liveIm z1.out) liveB W1 (hO.here W1) inferInstance hC chk_live)
  obtain ⟨PB, hPB⟩ : ∃ PB, putB liveM = PB := ⟨_, rfl⟩
  have E1 := Lib.hid put_live
  have E2 := Lib.hid get_live
  have E3 := Lib.hid flip_live
  have E4 := Lib.hid end_live
  rw [hPB] at HP E1 E2 E3 E4
  rw [E1.out] at HP
  clear hPB
  have hm1 : liveM.enums.length = 0 := rfl
  have hm2 : liveM.rts.length = 1 := rfl
  rw [hm1, hm2] at HP
  have HN := Lib.hid (fun U : World => sum_any (RY.nil_ U) U inferInstance)
  rw [sum_nil] at HN
  go_enter Tryd.func13, Tryd.ntmps13
  go_wp2_with fail
  try rw [hW1]
  clear hW1
  refine HP.out.mono ?_
  rintro e w2 ⟨Ab, cb, rfl, xb_, nb_, a2⟩
  have Xb := Lib.hid xb_
  have Nb := Lib.hid nb_
  clear xb_ nb_ HP
  go_wp2_with fail
  refine (HN.out _).mono ?_
  rintro e w3 ⟨rfl, rfl⟩
  go_wp2_with fail
  obtain ⟨W4, hW4, x97, a4⟩ : ∃ W4, w3.alloc (.cells #[.int .u8 97] 5) = W4 ∧ Hid (RY W4 (some ⟨w3.heap.size, 0, none⟩) 1 [97]) ∧ After w3 W4 := ⟨_, rfl, RY.lit (l := [97]) (Blk.new w3 5 #[.int .u8 97]) rfl (by decide), inferInstance⟩
  rw [hW4]
  clear hW4
  have HA := Lib.hid (sum_any x97.out W4 inferInstance)
  rw [sum_a] at HA
  refine HA.out.mono ?_
  rintro e w5 ⟨rfl, hw5⟩
  rw [hw5]
  clear hw5 HA
  have aw3 : After w w3 := after_after a1 a2
  have HG1 := Lib.hid (get_any W4 Xb.out a4 hC (hO.here w3))
  rw [E2.out, E1.out, hm1, hm2] at HG1
  go_wp2_with fail
  refine HG1.out.mono ?_
  rintro e w6 ⟨A1, c1, A2, c2, rfl, m6, a6⟩
  have M6 := Lib.hid m6
  have aw6 : After w3 w6 := after_after a4 a6
  clear m6 HG1
  obtain ⟨g3, hg3⟩ : ∃ g3, w6.heap.size = g3 := ⟨_, rfl⟩
  obtain ⟨W7, hW7, Z7, a7, s7⟩ : ∃ W7, w6.alloc (.cells #[.slice A1 0 c1, .slice A2 1 c2] 29) = W7 ∧ Hid (Blk W7 g3 29 #[.slice A1 0 c1, .slice A2 1 c2]) ∧ After w6 W7 ∧ W7.heap.size = g3 + 1 := ⟨_, rfl, by rw [← hg3]; exact Blk.new _ _ _, inferInstance, by rw [size_alloc_, hg3]⟩
  have x7 := Lib.hid (Xb.out.here W7 (k := after_after aw6 a7))
  have HO8 := Lib.hid (World.ownsRow_lit (e := 5) (size := 1) W7 #[] 0 (Nat.le_refl _) (by unfold maxLen; omega) rfl)
  obtain ⟨W8, hW8, HO8', x8, a8, s8⟩ : ∃ W8, W7.alloc (.cells #[] 5) = W8 ∧ Hid (W8.ownsRow W7.heap.size 5 1 (.slice (some ⟨W7.heap.size, 0, none⟩) 0 0) 0 []) ∧ Hid (RY W8 Ab cb PB) ∧ After W7 W8 ∧ W7.heap.size ≤ W8.heap.size := ⟨_, rfl, HO8.out, x7.out.here _, inferInstance, by rw [size_alloc_]; omega⟩
  rw [s7] at HO8'
  have hx8 := x8.out.reads
  rw [E1.out] at hx8
  have HX8 := Lib.hid hx8
  clear hx8 HO8
  go_wp2_with (at_builtin; go_loud ((try rw [hW8]); refine wpList_append_any _ rfl (.tmp 38) (.tmp 39) 22 rfl (g3 + 1) 5 i0 (.int .u8 0) 1 1 Tryd.underlying22 hi hz0 hz1 hz2 rfl (by omega) (.slice (some ⟨g3 + 1, 0, none⟩) 0 0) 0 [] rfl HO8'.out W8.heap.size Ab 41 cb (yv PB) rfl HX8.out ?c2 ?c3 ?c4 ?c5 ?_))
  case c2 => intro u hu; exact yv_one hu
  case c3 => unfold maxLen; omega
  case c4 => omega
  case c5 => omega
  intro v9 w9 hown9 hg9 _
  have hown9' : w9.ownsRow (g3 + 1) 5 1 v9 41 (yv PB) := by simpa using hown9
  have h36 : w3.heap.size ≤ g3 := by rw [← hg3]; exact aw6.below.size
  have a9 : After w6 w9 := after_grown_ (w0 := w6) (h := after_after a7 a8) HO8'.out (by omega) hg9
  obtain ⟨g9, c9, rfl, hl9, hc9⟩ := own_at hown9' (by omega)
  obtain ⟨x4, hx4⟩ : ∃ x4, PB.getD 4 0 = x4 := ⟨_, rfl⟩
  have hb4 : (yv PB)[4]? = some (Value.int .u8 (x4.toNat : Int)) := by
    have hl := E1.out
    rw [yv, List.getElem?_map, List.getElem?_eq_getElem (by omega), ← hx4, List.getD_eq_getElem?_getD, List.getElem?_eq_getElem (by omega)]; rfl
  have k4 : w9.cell? ⟨g9, 4, none⟩ = some (Value.int .u8 (x4.toNat : Int)) := hc9 4 _ hb4
  have f4 := hown9'.frozenAt 4
  have l9 : Le (g9 + 1) w9 := ⟨hl9⟩
  have hge : g3 + 1 ≤ g9 := (hown9'.lt g9 rfl).1
  obtain ⟨xn, hxn⟩ : ∃ xn : Nat, (x4 ^^^ 1).toNat = xn := ⟨_, rfl⟩
  have hxr : bits BinOp.xor IntKind.u8 (x4.toNat : Int) 1 = (xn : Int) := by rw [← hxn]; exact xor_u8 x4 1
  replace hxn := Lib.hid hxn
  have Z9 := Lib.hid (Z7.out.after (w' := w9) (k := (show After W7 w9 from after_grown_ (w0 := W7) (h := a8) HO8'.out (by omega) hg9)))
  have HO9 := Lib.hid hown9'
  clear hown9 hg9 hown9' hc9 hb4
  obtain ⟨CB, hCB⟩ : ∃ CB, PB.set 4 (x4 ^^^ 1) = CB := ⟨_, rfl⟩
  rw [hx4, hCB] at E3
  have hCl : CB.length = 41 := by rw [← hCB, List.length_set]; exact E1.out
  obtain ⟨W10, hW10, x10, z10, a10⟩ : ∃ W10, w9.setCell ⟨g9, 4, none⟩ (.int .u8 (xn : Int)) = W10 ∧ Hid (RY W10 (some ⟨g9, 0, none⟩) c9 CB) ∧ Hid (Blk W10 g3 29 #[.slice A1 0 c1, .slice A2 1 c2]) ∧ After w6 W10 := by
    have h1 := (HO9.out.stored 4 (.int .u8 (xn : Int))).1
    have e1 : (yv PB).set 4 (.int .u8 (xn : Int)) = yv CB := by rw [← hCB, ← hxn.out]; simp [yv, List.map_set]
    rw [e1, ← hCl] at h1
    obtain ⟨A', c', e', q1, q2⟩ := own_slice h1
    injection e' with _ _ e3
    subst e3
    exact ⟨_, rfl, ⟨Reads.of_own h1, q1, q2, by omega⟩, Z9.out.far (p := ⟨g9, 4, none⟩) (by show g3 ≠ g9; omega) _, ⟨a9.below.setCell (p := ⟨g9, 4, none⟩) (by show w6.heap.size ≤ g9; omega) _⟩⟩
  have aw10 : After w W10 := after_after aw3 (after_after aw6 a10)
  have HG2 := Lib.hid (get_any W10 x10.out inferInstance hC (hO.here W10))
  obtain ⟨q, hq⟩ : ∃ q, getV CB = q := ⟨_, rfl⟩
  rw [hq] at HG2 E3
  obtain ⟨mq, eq⟩ := q
  have E3' : eq = 15 := E3.out
  subst E3'
  rw [hCl] at HG2
  simp only [] at HG2
  clear hq E3 hCB hx4 x10
  go_wp2_with fail
  try rw [hW10]
  clear hW10
  refine HG2.out.mono ?_
  rintro e w11 ⟨A3, c3, A4, c4, rfl, m11, a11⟩
  clear m11 HG2
  obtain ⟨W12, hW12, a12⟩ : ∃ W12, w11.alloc (.cells #[.slice A3 mq.enums.length c3, .slice A4 mq.rts.length c4] 29) = W12 ∧ After w11 W12 := ⟨_, rfl, inferInstance⟩
  have a12' : After w6 W12 := after_after a10 (after_after a11 a12)
  have x12 := Lib.hid ((Xb.out.here W12 (k := after_after aw6 a12')).cut 7 (by rw [E1.out]; omega))
  have hcb : 7 ≤ cb := by have h1 := Xb.out.le; rw [E1.out] at h1; omega
  have hcbI : (7 : Int) ≤ (cb : Int) := by omega
  have HG3 := Lib.hid (get_any W12 x12.out inferInstance hC (hO.here W12 (k := after_after aw3 (after_after aw6 a12'))))
  have hl7 : (PB.take 7).length = 7 := by rw [List.length_take, E1.out]; rfl
  rw [hl7] at HG3
  obtain ⟨q, hq⟩ : ∃ q, getV (PB.take 7) = q := ⟨_, rfl⟩
  rw [hq] at HG3 E4
  obtain ⟨mr, er⟩ := q
  have E4' : er = 4 := E4.out
  subst E4'
  simp only [] at HG3
  clear hq E4 hl7 x12
  go_wp2_with fail
  try rw [hW12]
  clear hW12
  refine HG3.out.mono ?_
  rintro e w13 ⟨A5, c5_, A6, c6, rfl, m13, a13⟩
  clear m13 HG3
  have a13' : After w6 w13 := after_after a12' a13
  obtain ⟨b, p, s, B1, d1, B2, d2, B3, d3, B4, d4, r, rfl, hle, HX, HR, e0, _, _, _, _, _⟩ := M6.out.rts.part (i := 0) (by show 0 < 1; omega)
  have hr : r = ⟨[102], [], [], 0, [], []⟩ := by have h1 := HX.out; simp [liveM] at h1; exact h1.symm
  have hs : (s.toList == [102]) = true := by
    rw [ByteArray.toList_eq, HR.out.name, hr]; rfl
  have hlb : Le (b + 1) w13 := ⟨Nat.le_trans hle.le a13'.below.size⟩
  have e0' : w13.cell? ⟨b, p, none⟩ = some (.string s) := (a13'.below.cell (p := ⟨b, p, none⟩) hle.le).trans (by simpa using e0)
  have z13 := Lib.hid (z10.out.after (w' := w13) (k := after_after a11 (after_after a12 a13)))
  have t0 : w13.cell? ⟨g3, 0, none⟩ = some (.slice A1 0 c1) := by rw [z13.out.cell]; rfl
  have t1 : w13.cell? ⟨g3, 1, none⟩ = some (.slice (some ⟨b, p, none⟩) 1 c2) := by rw [z13.out.cell]; rfl
  have tl := z13.out.is_le
  have awe : After w w13 := after_after aw3 (after_after aw6 a13')
  clear e0 HX HR hr
  go_wp2_with fail
  go_ret
  exact ⟨rfl, inferInstance⟩
end Go.Proofs.YtgmojjdojcmnaaaDoor
