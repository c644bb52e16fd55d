/-
  Contracts: fail, num, many, text of a reader.
-/
import Derived.Test.YtgmojjdojcmnaaaDoorIMem
set_option linter.unusedVariables false
set_option linter.unusedSimpArgs false
namespace Go.Proofs.YtgmojjdojcmnaaaDoor
open Go.RowKit Go.BigFrame

theorem plain_of_cell {w : World} {a : Addr} {v : Value} (h : w.cell? a = some v) : a = ⟨a.block, a.off, none⟩ := by
  unfold World.cell? at h
  split at h
  · split at h
    · cases h
    · rename_i hs
      cases a with
      | mk b o s =>
        cases s with
        | none => rfl
        | some s => simp at hs
  · cases h
theorem RY.plain {w : World} {A c l} (h : RY w A c l) (hl : 0 < l.length) : ∃ b p, A = some ⟨b, p, none⟩ ∧ b < w.heap.size ∧ ∀ j x, l[j]? = some x → w.cell? ⟨b, p + j, none⟩ = some (.int .u8 (x.toNat : Int)) := by
  obtain ⟨ad, e, hb, hc⟩ := h.reads.2 hl
  have h0 : w.cell? (ad.add 0) = some (.int .u8 (l[0].toNat : Int)) := hc 0 _ (by simp [yv, hl])
  have hp : ad = ⟨ad.block, ad.off, none⟩ := by
    rw [show ad.add 0 = ad by simp [Addr.add]] at h0
    exact plain_of_cell h0
  refine ⟨ad.block, ad.off, by rw [← hp]; exact e, hb, fun j x hx => ?_⟩
  have := hc j (.int .u8 (x.toNat : Int)) (by simp [yv, hx])
  rw [hp, Addr.add_lit] at this
  exact this
theorem RY.four {w : World} {A c l} (h : RY w A c l) {k : Nat} (hl : k + 4 ≤ l.length) : ∃ (b p : Nat) (x0 x1 x2 x3 : UInt8), A = some ⟨b, p, none⟩ ∧ Le (b + 1) w ∧ w.cell? ⟨b, p + k, none⟩ = some (.int .u8 (x0.toNat : Int)) ∧ w.cell? ⟨b, p + k + 1, none⟩ = some (.int .u8 (x1.toNat : Int)) ∧
    w.cell? ⟨b, p + k + 2, none⟩ = some (.int .u8 (x2.toNat : Int)) ∧ w.cell? ⟨b, p + k + 3, none⟩ = some (.int .u8 (x3.toNat : Int)) ∧ Hid (l.drop k = x0 :: x1 :: x2 :: x3 :: l.drop (k + 4)) := by
  obtain ⟨b, p, e, hb, hc⟩ := h.plain (by omega)
  refine ⟨b, p, l[k], l[k+1], l[k+2], l[k+3], e, ⟨hb⟩, hc k _ (List.getElem?_eq_getElem (by omega)), hc (k + 1) _ (List.getElem?_eq_getElem (by omega)), hc (k + 2) _ (List.getElem?_eq_getElem (by omega)), hc (k + 3) _ (List.getElem?_eq_getElem (by omega)), ?_⟩
  show l.drop k = _
  rw [List.drop_eq_getElem_cons (by omega), List.drop_eq_getElem_cons (by omega), List.drop_eq_getElem_cons (by omega), List.drop_eq_getElem_cons (by omega)]

/-- a reader behind a pointer -/
structure RdIs (w : World) (g : Nat) (A : Option Addr) (c : Nat) (bs : List UInt8) (s : St) : Prop where
  blk : ∃ k : Nat, Blk w g 47 #[.slice A bs.length c, .int .i64 k, .int .i64 s.e] ∧ k ≤ bs.length ∧ s.rest = bs.drop k

theorem RdIs.drewN {w : World} {g A c bs s} (h : RdIs w g A c bs s) (n : Nat) : RdIs (w.drewN n) g A c bs s := by
  obtain ⟨k, hb, hk, hr⟩ := h.blk
  exact ⟨k, hb.drewN n, hk, hr⟩
theorem RdIs.cell2 {w : World} {g A c bs s} (h : RdIs w g A c bs s) : w.cell? ⟨g, 2, none⟩ = some (.int .i64 s.e) := by
  obtain ⟨k, hb, hk, hr⟩ := h.blk
  rw [hb.cell]; rfl
theorem RdIs.le {w : World} {g A c bs s} (h : RdIs w g A c bs s) : Le (g + 1) w := by
  obtain ⟨k, hb, hk, hr⟩ := h.blk
  exact hb.is_le
theorem fr_set (w : World) (g i : Nat) (v : Value) : Fr w (w.setCell ⟨g, i, none⟩ v) g none :=
  ⟨rfl, rfl, rfl, by rw [size_set_]; exact Nat.le_refl _, fun k hk h1 _ => Below.heap_setCell w ⟨g, i, none⟩ v k h1⟩
theorem fr_drew (w : World) (n g : Nat) : Fr w (w.drewN n) g none := ⟨rfl, rfl, rfl, Nat.le_refl _, fun _ _ _ _ => rfl⟩
theorem Fr.tr {w w1 w2 : World} {g : Nat} (h : Fr w w1 g none) (h2 : Fr w1 w2 g none) : Fr w w2 g none := h.trans (.inl rfl) h2
theorem Fr.aft {w0 w w' : World} {g : Nat} (h : Fr w w' g none) (k : After w0 w) (hg : w0.heap.size ≤ g) : After w0 w' := h.after k hg (fun _ e => by cases e)

set_option maxHeartbeats 800000 in
theorem fail_any (w : World) {g : Nat} {A c bs s} (h : RdIs w g A c bs s) (x : Int) :
    Calls Tryd.prog 23 #[.pointer (some ⟨g, 0, none⟩), .int .i64 x] w fun e w' => e = .returned (.tuple #[]) ∧ RdIs w' g A c bs (failS s x) ∧ Fr w w' g none := by
  obtain ⟨k, hb, hk, hr⟩ := h.blk
  have c2 : w.cell? ⟨g, 2, none⟩ = some (.int .i64 s.e) := by rw [hb.cell]; rfl
  have f2 := hb.frozen 2
  have hl := hb.is_le
  by_cases he : s.e = 0
  · have HB := Lib.hid hb
    have hs : failS s x = ⟨s.rest, x⟩ := by unfold failS; rw [if_pos he]
    rw [hs]
    clear hb
    go_enter Tryd.func23, Tryd.ntmps23
    go_wp2
    go_end0
    exact ⟨rfl, ⟨k, HB.out.set_ 2 _, hk, hr⟩, fr_set w g 2 _⟩
  · have HB := Lib.hid hb
    have hs : failS s x = s := by unfold failS; rw [if_neg he]
    rw [hs]
    clear hb
    go_enter Tryd.func23, Tryd.ntmps23
    go_wp2
    go_end0
    exact ⟨rfl, h, Fr.refl _ _ _⟩

theorem or_u32 (i m a y : Nat) (hm : m = 2 ^ i) (ha : a < m) (hi : m * y + a < 4294967296) : bits BinOp.or IntKind.u32 (a : Int) ((m * y : Nat) : Int) = ((m * y + a : Nat) : Int) := by
  unfold bits
  have e1 : (BitVec.ofInt 32 (a : Int)).toNat = a := by rw [BitVec.toNat_ofInt]; omega
  have e2 : (BitVec.ofInt 32 ((m * y : Nat) : Int)).toNat = m * y := by
    generalize m * y = z at *
    rw [BitVec.toNat_ofInt]; omega
  show IntKind.u32.wrap ((BitVec.ofInt 32 (a : Int) ||| BitVec.ofInt 32 ((m * y : Nat) : Int)).toNat : Int) = _
  have e3 : m * y ||| a = m * y + a := by rw [hm]; rw [hm] at ha; exact (Nat.two_pow_add_eq_or_of_lt ha y).symm
  rw [BitVec.toNat_or, e1, e2, Nat.or_comm, e3, IntKind.wrap_u32]
  generalize m * y + a = z at *
  omega
theorem wrap_u32 (z : Nat) (hz : z < 4294967296) : wrap64 (wrap32 (z : Int)) = if z < 2147483648 then (z : Int) else (z : Int) - 4294967296 := by
  unfold wrap64 wrap32
  split <;> omega
theorem dec_or (a b c d : Nat) (h0 : a < 256) (h1 : b < 256) (h2 : c < 256) (h3 : d < 256) : bits BinOp.or IntKind.u32 (bits BinOp.or IntKind.u32 (bits BinOp.or IntKind.u32 ((a : Int) % 4294967296) ((b : Int) % 4294967296 * 256 % 4294967296)) ((c : Int) % 4294967296 * 65536 % 4294967296)) ((d : Int) % 4294967296 * 16777216 % 4294967296) = ((16777216 * d + (65536 * c + (256 * b + a)) : Nat) : Int) := by
  have e0 : (a : Int) % 4294967296 = (a : Nat) := by omega
  have e1 : (b : Int) % 4294967296 * 256 % 4294967296 = ((256 * b : Nat) : Int) := by omega
  have e2 : (c : Int) % 4294967296 * 65536 % 4294967296 = ((65536 * c : Nat) : Int) := by omega
  have e3 : (d : Int) % 4294967296 * 16777216 % 4294967296 = ((16777216 * d : Nat) : Int) := by omega
  have f1 := or_u32 8 256 a b (by omega) (by omega) (by omega)
  have f2 := or_u32 16 65536 (256 * b + a) c (by omega) (by omega) (by omega)
  have f3 := or_u32 24 16777216 (65536 * c + (256 * b + a)) d (by omega) (by omega) (by omega)
  rw [e0, e1, e2, e3, f1, f2, f3]
theorem dec_eq (x0 x1 x2 x3 : UInt8) (z : Nat) (h : z = x0.toNat + 256 * x1.toNat + 65536 * x2.toNat + 16777216 * x3.toNat) : dec x0 x1 x2 x3 = if z < 2147483648 then (z : Int) else (z : Int) - 4294967296 := by
  rw [h]; rfl
theorem dec_spell (x0 x1 x2 x3 : UInt8) : wrap64 (wrap32 (bits BinOp.or IntKind.u32 (bits BinOp.or IntKind.u32 (bits BinOp.or IntKind.u32 ((x0.toNat : Int) % 4294967296) ((x1.toNat : Int) % 4294967296 * 256 % 4294967296)) ((x2.toNat : Int) % 4294967296 * 65536 % 4294967296)) ((x3.toNat : Int) % 4294967296 * 16777216 % 4294967296))) = dec x0 x1 x2 x3 := by
  have h0 := x0.toNat_lt; have h1 := x1.toNat_lt; have h2 := x2.toNat_lt; have h3 := x3.toNat_lt
  rw [dec_or _ _ _ _ h0 h1 h2 h3, wrap_u32 _ (by omega)]
  exact (dec_eq _ _ _ _ _ (by omega)).symm
theorem numS_ok {s : St} {x0 x1 x2 x3 : UInt8} {r : List UInt8} (he : s.e = 0) (h : s.rest = x0 :: x1 :: x2 :: x3 :: r) : numS s = (dec x0 x1 x2 x3, ⟨r, 0⟩) := by
  unfold numS
  have hl : ¬ (s.rest.length < 4) := by rw [h]; simp only [List.length_cons]; omega
  rw [if_pos he, if_neg hl, h]
  simp only [List.getD_cons_zero, List.getD_cons_succ, List.drop_succ_cons, List.drop_zero]

set_option maxHeartbeats 1600000 in
theorem num_any {w0 : World} (w : World) {g : Nat} {A c bs s} (x : RY w0 A c bs) (hw : After w0 w) (hg : w0.heap.size ≤ g) (h : RdIs w g A c bs s) :
    Calls Tryd.prog 19 #[.pointer (some ⟨g, 0, none⟩)] w fun e w' => e = .returned (.int .i64 (numS s).1) ∧ RdIs w' g A c bs (numS s).2 ∧ Fr w w' g none := by
  obtain ⟨k, hb, hk, hr⟩ := h.blk
  have hlen := x.len
  have hle_ := x.le
  have hcap_ := x.cap
  have hl := hb.is_le
  have c0 : w.cell? ⟨g, 0, none⟩ = some (.slice A bs.length c) := by rw [hb.cell]; rfl
  have c1 : w.cell? ⟨g, 1, none⟩ = some (.int .i64 k) := by rw [hb.cell]; rfl
  have c2 : w.cell? ⟨g, 2, none⟩ = some (.int .i64 s.e) := by rw [hb.cell]; rfl
  have f1 := hb.frozen 1
  have HB := Lib.hid hb
  have H := Lib.hid h
  have hrl : s.rest.length = bs.length - k := by rw [hr, List.length_drop]
  clear hb
  by_cases h4 : bs.length - k < 4
  · -- too few bytes: fail, then 0
    have hs : numS s = (0, failS s 4) := by
      unfold numS failS
      by_cases he : s.e = 0
      · rw [if_pos he, if_pos (by omega), if_pos he]
      · rw [if_neg he, if_neg he]
    rw [hs]
    have hI : (bs.length : Int) - (k : Int) < 4 := by omega
    have hne : ¬ ((failS s 4).e = 0) := by unfold failS; split <;> simp_all
    clear h4 hrl
    go_enter Tryd.func19, Tryd.ntmps19
    go_wp2_with fail
    go_quiet (fail)
    go_wp2_with fail
    refine (fail_any _ (H.out.drewN _) 4).mono ?_
    rintro e w1 ⟨rfl, h1, hf⟩
    have d2 := h1.cell2
    have l1 := h1.le
    have H1 := Lib.hid h1
    have HF := Lib.hid hf
    clear h1 hf
    go_wp2_with fail
    go_ret
    exact ⟨rfl, H1.out, (fr_drew _ _ _).tr HF.out⟩
  · have hI : ¬ ((bs.length : Int) - (k : Int) < 4) := by omega
    by_cases he : s.e = 0
    · obtain ⟨b, p, x0, x1, x2, x3, rfl, hle, e0, e1, e2, e3, HD⟩ := (x.here w).four (k := k) (by omega)
      have hkI : (k : Int) ≤ (bs.length : Int) := by omega
      have hcI : (c : Int) ≤ 9223372036854775807 := by omega
      have hb0 : b < w0.heap.size := by
        obtain ⟨b', p', e', hb', _⟩ := x.plain (by omega)
        cases e'; exact hb'
      have hne : Ne' b g := ⟨by omega⟩
      have HZ : Hid (Blk w g 47 #[.slice (some ⟨b, p, none⟩) bs.length c, .int .i64 k, .int .i64 0]) := by
        have h_ := HB.out
        rw [he] at h_
        exact h_
      have hw1 : IntKind.i64.wrap ((k : Int) + 4) = ((k + 4 : Nat) : Int) := IntWalk.i64_in _ (by omega)
      clear h4
      go_enter Tryd.func19, Tryd.ntmps19
      go_wp2_with fail
      go_quiet (fail)
      go_wp2_with fail
      go_quiet (fail)
      go_wp2_with fail
      go_quiet (fail)
      go_wp2_with fail
      go_ret
      rw [numS_ok he (hr.trans HD.out)]
      refine ⟨congrArg (fun z => Ending.returned (.int .i64 z)) (dec_spell x0 x1 x2 x3), ⟨k + 4, ?_, by omega, rfl⟩, (fr_drew _ _ _).tr ((fr_set _ _ _ _).tr (fr_drew _ _ _))⟩
      exact ((HZ.out.drewN _).set_ 1 _).drewN _
    · have hs : numS s = (0, s) := by unfold numS; rw [if_neg he]
      rw [hs]
      clear h4 hrl
      go_enter Tryd.func19, Tryd.ntmps19
      go_wp2_with fail
      go_quiet (fail)
      go_wp2_with fail
      go_ret
      exact ⟨rfl, H.out.drewN _, fr_drew _ _ _⟩
end Go.Proofs.YtgmojjdojcmnaaaDoor
