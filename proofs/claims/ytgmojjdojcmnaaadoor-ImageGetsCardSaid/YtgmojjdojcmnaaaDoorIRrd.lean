/-
  Contracts of the reference's readers: Number, Count, List, Text.
-/
import Derived.Test.YtgmojjdojcmnaaaDoorIRow
import Derived.BigQuiet
import Derived.Shelf.Abstract
set_option linter.unusedVariables false
set_option linter.unusedSimpArgs false
namespace Go.Proofs.YtgmojjdojcmnaaaDoor
open Go.RowKit Go.BigFrame

/-- the reference's reader behind a pointer: what is left lies in old memory -/
structure RrIs (w0 w : World) (g : Nat) (s : St) : Prop where
  row : ∃ A c, Blk w g 58 #[.slice A s.rest.length c, .int .i64 s.e] ∧ RY w0 A c s.rest
theorem RrIs.drewN {w0 w : World} {g s} (h : RrIs w0 w g s) (n : Nat) : RrIs w0 (w.drewN n) g s := by
  obtain ⟨A, c, hb, x⟩ := h.row
  exact ⟨A, c, hb.drewN n, x⟩
theorem RrIs.drew {w0 w : World} {g s} (h : RrIs w0 w g s) : RrIs w0 w.drew g s := by
  obtain ⟨A, c, hb, x⟩ := h.row
  exact ⟨A, c, hb.drew, x⟩
theorem RrIs.alloc {w0 w : World} {g s} (h : RrIs w0 w g s) (o : Obj) : RrIs w0 (w.alloc o) g s := by
  obtain ⟨A, c, hb, x⟩ := h.row
  exact ⟨A, c, hb.alloc o, x⟩
theorem RrIs.far {w0 w : World} {g s} (h : RrIs w0 w g s) {k : Nat} (hk : g ≠ k) (i : Nat) (v : Value) : RrIs w0 (w.setCell ⟨k, i, none⟩ v) g s := by
  obtain ⟨A, c, hb, x⟩ := h.row
  exact ⟨A, c, hb.far (p := ⟨k, i, none⟩) hk v, x⟩
theorem RrIs.grown {w0 w w' : World} {g s} (h : RrIs w0 w g s) {row : Option Nat} (hb : w.grownBy w' row) (hg : some g ≠ row) : RrIs w0 w' g s := by
  obtain ⟨A, c, hb', x⟩ := h.row
  exact ⟨A, c, hb'.grown hb hg, x⟩
theorem RrIs.cell1 {w0 w : World} {g s} (h : RrIs w0 w g s) : w.cell? ⟨g, 1, none⟩ = some (.int .i64 s.e) := by
  obtain ⟨A, c, hb, x⟩ := h.row
  rw [hb.cell]; rfl
theorem RrIs.le {w0 w : World} {g s} (h : RrIs w0 w g s) : Le (g + 1) w := by
  obtain ⟨A, c, hb, x⟩ := h.row
  exact hb.is_le
theorem RrIs.frozen {w0 w : World} {g s} (h : RrIs w0 w g s) (i : Nat) : w.frozen? ⟨g, i, none⟩ = false := by
  obtain ⟨A, c, hb, x⟩ := h.row
  exact hb.frozen i
theorem RrIs.err {w0 w : World} {g s} (h : RrIs w0 w g s) (e : Int) : RrIs w0 (w.setCell ⟨g, 1, none⟩ (.int .i64 e)) g ⟨s.rest, e⟩ := by
  obtain ⟨A, c, hb, x⟩ := h.row
  exact ⟨A, c, hb.set_ 1 _, x⟩
theorem RY.drop {w : World} {b p c : Nat} {l : List UInt8} (x : RY w (some ⟨b, p, none⟩) c l) (k : Nat) (hk : k ≤ l.length) : RY w (some ⟨b, p + k, none⟩) (c - k) (l.drop k) := by
  have hl : (l.drop k).length = l.length - k := List.length_drop
  have h1 := x.le; have h2 := x.cap; have h3 := x.len
  refine ⟨⟨by rw [yv_length]; omega, fun hn => ?_⟩, by omega, by omega, by omega⟩
  obtain ⟨ad, e, hb, hc⟩ := x.reads.2 (by omega)
  injection e with e
  subst e
  refine ⟨_, rfl, hb, fun j u hu => ?_⟩
  rw [Addr.add_lit]
  have h4 := hc (k + j) u (by
    unfold yv at hu ⊢
    rw [List.getElem?_map] at hu ⊢
    rw [List.getElem?_drop] at hu
    exact hu)
  rw [Addr.add_lit] at h4
  rw [show p + k + j = p + (k + j) by omega]
  exact h4
theorem RY.empty (w : World) (A : Option Addr) (c : Nat) (hc : c ≤ 9223372036854775807) : RY w A c [] := ⟨⟨rfl, fun h => by simp at h⟩, by simp, hc, by simp⟩
theorem RrIs.cut {w0 w : World} {g : Nat} {s : St} {b p c : Nat} (hb : Blk w g 58 #[.slice (some ⟨b, p, none⟩) s.rest.length c, .int .i64 s.e]) (x : RY w0 (some ⟨b, p, none⟩) c s.rest) (k : Nat) (hk : k ≤ s.rest.length) :
    RrIs w0 (w.setCell ⟨g, 0, none⟩ (.slice (some ⟨b, p + k, none⟩) (s.rest.length - k) (c - k))) g ⟨s.rest.drop k, s.e⟩ := by
  refine ⟨_, _, ?_, x.drop k hk⟩
  have := hb.set_ 0 (.slice (some ⟨b, p + k, none⟩) (s.rest.length - k) (c - k))
  show Blk _ g _ #[.slice _ (s.rest.drop k).length _, .int .i64 s.e]
  rw [List.length_drop]
  exact this
theorem RrIs.cutAll {w0 w : World} {g : Nat} {s : St} {A A' : Option Addr} {c : Nat} (hb : Blk w g 58 #[.slice A s.rest.length c, .int .i64 s.e]) {k : Nat} (hk : s.rest.length = k) :
    RrIs w0 (w.setCell ⟨g, 0, none⟩ (.slice A' 0 0)) g ⟨s.rest.drop k, s.e⟩ := by
  refine ⟨A', 0, ?_, ?_⟩
  · have := hb.set_ 0 (.slice A' 0 0)
    have e : (s.rest.drop k).length = 0 := by rw [List.length_drop]; omega
    show Blk _ g _ #[.slice A' (s.rest.drop k).length 0, .int .i64 s.e]
    rw [e]
    exact this
  · show RY w0 A' 0 (s.rest.drop k)
    rw [List.drop_eq_nil_of_le (by omega)]
    exact RY.empty _ _ _ (by omega)

theorem dec_sum (x0 x1 x2 x3 : UInt8) : dec x0 x1 x2 x3 = if ((x0.toNat : Int) + 256 * (x1.toNat : Int) + 65536 * (x2.toNat : Int) + 16777216 * (x3.toNat : Int)) < 2147483648 then ((x0.toNat : Int) + 256 * (x1.toNat : Int) + 65536 * (x2.toNat : Int) + 16777216 * (x3.toNat : Int)) else ((x0.toNat : Int) + 256 * (x1.toNat : Int) + 65536 * (x2.toNat : Int) + 16777216 * (x3.toNat : Int)) - 4294967296 := by
  rw [dec_eq x0 x1 x2 x3 _ rfl]
  by_cases h : x0.toNat + 256 * x1.toNat + 65536 * x2.toNat + 16777216 * x3.toNat < 2147483648
  · rw [if_pos h, if_pos (by omega)]; omega
  · rw [if_neg h, if_neg (by omega)]; omega
set_option maxRecDepth 100000 in
set_option maxHeartbeats 3200000 in
theorem rrnum_any {w0 : World} (w : World) {g : Nat} {s : St} (hw : After w0 w) (hg : w0.heap.size ≤ g) (h : RrIs w0 w g s) :
    Calls Tryd.prog 28 #[.pointer (some ⟨g, 0, none⟩)] w fun e w' => e = .returned (.int .i64 (numS s).1) ∧ RrIs w0 w' g (numS s).2 ∧ Fr w w' g none := by
  obtain ⟨A, c, hb, x⟩ := h.row
  have hlen := x.len
  have hle_ := x.le
  have hcap_ := x.cap
  have hl := hb.is_le
  obtain ⟨n, hn⟩ : ∃ n, s.rest.length = n := ⟨_, rfl⟩
  have c0 : w.cell? ⟨g, 0, none⟩ = some (.slice A n c) := by rw [hb.cell, ← hn]; rfl
  have c1 : w.cell? ⟨g, 1, none⟩ = some (.int .i64 s.e) := by rw [hb.cell]; rfl
  have f0 := hb.frozen 0
  have f1 := hb.frozen 1
  have HB := Lib.hid hb
  have H := Lib.hid h
  have X := Lib.hid x
  have HN := Lib.hid hn
  rw [hn] at hlen hle_
  by_cases he : s.e = 0
  · by_cases h4 : n < 4
    · have hs : numS s = (0, ⟨s.rest, 4⟩) := by unfold numS; rw [if_pos he, if_pos (by omega)]
      rw [hs]
      have hI : (n : Int) < 4 := by omega
      have z1 : (s.e == 0) = true := by rw [beq_iff_eq]; exact he
      clear h4 hb h x hn hs
      go_enter Tryd.func28, Tryd.ntmps28
      go_wp2_with fail
      go_ret
      exact ⟨rfl, H.out.err 4, fr_set _ _ _ _⟩
    · obtain ⟨b, p, x0, x1, x2, x3, rfl, hle, e0, e1, e2, e3, HD⟩ := (x.here w).four (k := 0) (by omega)
      rw [Nat.add_zero] at e0 e1 e2 e3
      have hb0 : b < w0.heap.size := by
        obtain ⟨b', p', e', hb', _⟩ := x.plain (by omega)
        cases e'; exact hb'
      have hne : Ne' b g := ⟨by omega⟩
      have hI : ¬ ((n : Int) < 4) := by omega
      have hI2 : (4 : Int) ≤ (n : Int) := by omega
      have hI3 : (4 : Int) ≤ (c : Int) := by omega
      have hI4 : (0 : Int) < (n : Int) := by omega
      have hI5 : (1 : Int) < (n : Int) := by omega
      have hI6 : (2 : Int) < (n : Int) := by omega
      have hI7 : (3 : Int) < (n : Int) := by omega
      have h0 := x0.toNat_lt; have h1 := x1.toNat_lt; have h2 := x2.toNat_lt; have h3 := x3.toNat_lt
      have m1 : IntKind.i64.wrap (256 * (x1.toNat : Int)) = 256 * (x1.toNat : Int) := IntWalk.i64_in _ (by omega)
      have m2 : IntKind.i64.wrap (65536 * (x2.toNat : Int)) = 65536 * (x2.toNat : Int) := IntWalk.i64_in _ (by omega)
      have m3 : IntKind.i64.wrap (16777216 * (x3.toNat : Int)) = 16777216 * (x3.toNat : Int) := IntWalk.i64_in _ (by omega)
      have m4 : IntKind.i64.wrap ((x0.toNat : Int) + 256 * (x1.toNat : Int)) = (x0.toNat : Int) + 256 * (x1.toNat : Int) := IntWalk.i64_in _ (by omega)
      have m5 : IntKind.i64.wrap ((x0.toNat : Int) + 256 * (x1.toNat : Int) + 65536 * (x2.toNat : Int)) = (x0.toNat : Int) + 256 * (x1.toNat : Int) + 65536 * (x2.toNat : Int) := IntWalk.i64_in _ (by omega)
      have m6 : IntKind.i64.wrap ((x0.toNat : Int) + 256 * (x1.toNat : Int) + 65536 * (x2.toNat : Int) + 16777216 * (x3.toNat : Int)) = (x0.toNat : Int) + 256 * (x1.toNat : Int) + 65536 * (x2.toNat : Int) + 16777216 * (x3.toNat : Int) := IntWalk.i64_in _ (by omega)
      have hD := HD.out
      rw [List.drop_zero] at hD
      have hs : numS s = (dec x0 x1 x2 x3, ⟨s.rest.drop 4, 0⟩) := by
        rw [numS_ok he hD]
      rw [hs]
      have z1 : (s.e == 0) = true := by rw [beq_iff_eq]; exact he
      have z2 : (s.e != 0) = false := by rw [bne, z1]; rfl
      have HE := Lib.hid he
      have HDs := Lib.hid (dec_sum x0 x1 x2 x3)
      have hfin4 : Hid (c = 4 → ∀ (U : World), Blk U g 58 #[.slice (some ⟨b, p, none⟩) s.rest.length c, .int .i64 s.e] → ∀ A', RrIs w0 (U.setCell ⟨g, 0, none⟩ (.slice A' 0 0)) g ⟨s.rest.drop 4, 0⟩) := fun hc U hU A' => by
        have := RrIs.cutAll (w0 := w0) (A' := A') hU (k := 4) (by rw [HN.out]; omega)
        rw [HE.out] at this
        exact this
      have hfin : Hid (∀ (U : World), Blk U g 58 #[.slice (some ⟨b, p, none⟩) s.rest.length c, .int .i64 s.e] → RrIs w0 (U.setCell ⟨g, 0, none⟩ (.slice (some ⟨b, p + 4, none⟩) (n - 4) (c - 4))) g ⟨s.rest.drop 4, 0⟩) := fun U hU => by
        have := RrIs.cut (w0 := w0) hU X.out 4 (by rw [HN.out]; omega)
        rw [HE.out, HN.out] at this
        exact this
      clear hs hD HD hb h x hn h4
      obtain ⟨N, hN⟩ : ∃ N, (x0.toNat : Int) + 256 * (x1.toNat : Int) + 65536 * (x2.toNat : Int) + 16777216 * (x3.toNat : Int) = N := ⟨_, rfl⟩
      rw [hN] at HDs m6
      have hN0 : 0 ≤ N := by omega
      have hN1 : N < 4294967296 := by omega
      have m7 : IntKind.i64.wrap (N - 4294967296) = N - 4294967296 := IntWalk.i64_in _ (by omega)
      rcases Nat.eq_or_lt_of_le (show 4 ≤ c by omega) with hck | hck
      · subst hck
        by_cases hbig : N < 2147483648
        · have hb2 : ¬ (2147483648 ≤ N) := by omega
          have HV : Hid (dec x0 x1 x2 x3 = N) := by show _ = _; rw [HDs.out, if_pos hbig]
          go_enter Tryd.func28, Tryd.ntmps28
          go_wp2_with fail
          go_quiet (fail)
          go_wp2_with fail
          go_ret
          exact ⟨by rw [HV.out]; rfl, hfin4.out (by trivial) _ (HB.out.drewN _) _, (fr_drew _ _ _).tr (fr_set _ _ _ _)⟩
        · have hb2 : 2147483648 ≤ N := by omega
          have HV : Hid (dec x0 x1 x2 x3 = N - 4294967296) := by show _ = _; rw [HDs.out, if_neg hbig]
          go_enter Tryd.func28, Tryd.ntmps28
          go_wp2_with fail
          go_quiet (fail)
          go_wp2_with fail
          go_ret
          exact ⟨by rw [HV.out]; rfl, hfin4.out (by trivial) _ (HB.out.drewN _) _, (fr_drew _ _ _).tr (fr_set _ _ _ _)⟩
      · have hck2 : ¬ (c = 4) := by omega
        by_cases hbig : N < 2147483648
        · have hb2 : ¬ (2147483648 ≤ N) := by omega
          have HV : Hid (dec x0 x1 x2 x3 = N) := by show _ = _; rw [HDs.out, if_pos hbig]
          go_enter Tryd.func28, Tryd.ntmps28
          go_wp2_with fail
          go_quiet (fail)
          go_wp2_with fail
          go_ret
          exact ⟨by rw [HV.out]; rfl, hfin.out _ (HB.out.drewN _), (fr_drew _ _ _).tr (fr_set _ _ _ _)⟩
        · have hb2 : 2147483648 ≤ N := by omega
          have HV : Hid (dec x0 x1 x2 x3 = N - 4294967296) := by show _ = _; rw [HDs.out, if_neg hbig]
          go_enter Tryd.func28, Tryd.ntmps28
          go_wp2_with fail
          go_quiet (fail)
          go_wp2_with fail
          go_ret
          exact ⟨by rw [HV.out]; rfl, hfin.out _ (HB.out.drewN _), (fr_drew _ _ _).tr (fr_set _ _ _ _)⟩
  · have hs : numS s = (0, s) := by unfold numS; rw [if_neg he]
    rw [hs]
    have z1 : (s.e == 0) = false := by rw [beq_eq_false_iff_ne]; exact he
    have z2 : (s.e != 0) = true := by rw [bne, z1]; rfl
    clear hb h x hn hs
    go_enter Tryd.func28, Tryd.ntmps28
    go_wp2_with fail
    go_ret
    exact ⟨rfl, H.out, Fr.refl _ _ _⟩

set_option maxHeartbeats 1600000 in
theorem rrcount_any {w0 : World} (w : World) {g : Nat} {s : St} (hw : After w0 w) (hg : w0.heap.size ≤ g) (h : RrIs w0 w g s) :
    Calls Tryd.prog 26 #[.pointer (some ⟨g, 0, none⟩)] w fun e w' => e = .returned (.int .i64 (manyS s).1) ∧ RrIs w0 w' g (manyS s).2 ∧ Fr w w' g none := by
  have HN := Lib.hid (rrnum_any w hw hg h)
  have HE : Hid (∀ q, numS s = q → manyS s = if q.2.e = 0 then (if q.1 < 0 ∨ 65536 < q.1 then (0, ⟨q.2.rest, 5⟩) else q) else (0, q.2)) := by
    intro q hq
    unfold manyS
    rw [hq]
  obtain ⟨q, hq⟩ : ∃ q, numS s = q := ⟨_, rfl⟩
  have HM := Lib.hid (HE.out q hq)
  rw [hq] at HN
  clear hq HE
  obtain ⟨n, s1⟩ := q
  simp only [] at HN HM
  by_cases he : s1.e = 0
  · have z1 : (s1.e == 0) = true := by rw [beq_iff_eq]; exact he
    have z2 : (s1.e != 0) = false := by rw [bne, z1]; rfl
    by_cases hn : n < 0 ∨ 65536 < n
    · have hm : manyS s = (0, ⟨s1.rest, 5⟩) := by rw [HM.out, if_pos he, if_pos hn]
      rw [hm]
      clear hm HM
      rcases Int.lt_or_le n 0 with hn0 | hn0
      all_goals
        try have hn1 : 65536 < n := by omega
        clear hn
        go_enter Tryd.func26, Tryd.ntmps26
        go_wp2_with fail
        refine HN.out.mono ?_
        rintro e w1 ⟨rfl, h1, hf⟩
        have d2 := h1.cell1
        have d3 := h1.frozen 1
        have l1 := h1.le
        have H1 := Lib.hid h1
        have HF := Lib.hid hf
        clear h1 hf HN
        go_wp2_with fail
        go_ret
        exact ⟨rfl, H1.out.err 5, HF.out.tr (fr_set _ _ _ _)⟩
    · have hn0 : ¬ (n < 0) := by omega
      have hn1 : ¬ (65536 < n) := by omega
      have hm : manyS s = (n, s1) := by rw [HM.out, if_pos he, if_neg hn]
      rw [hm]
      clear hm HM hn
      go_enter Tryd.func26, Tryd.ntmps26
      go_wp2_with fail
      refine HN.out.mono ?_
      rintro e w1 ⟨rfl, h1, hf⟩
      have d2 := h1.cell1
      have l1 := h1.le
      have H1 := Lib.hid h1
      have HF := Lib.hid hf
      clear h1 hf HN
      go_wp2_with fail
      go_ret
      exact ⟨rfl, H1.out, HF.out⟩
  · have z1 : (s1.e == 0) = false := by rw [beq_eq_false_iff_ne]; exact he
    have z2 : (s1.e != 0) = true := by rw [bne, z1]; rfl
    have hm : manyS s = (0, s1) := by rw [HM.out, if_neg he]
    rw [hm]
    clear hm HM
    go_enter Tryd.func26, Tryd.ntmps26
    go_wp2_with fail
    refine HN.out.mono ?_
    rintro e w1 ⟨rfl, h1, hf⟩
    have d2 := h1.cell1
    have l1 := h1.le
    have H1 := Lib.hid h1
    have HF := Lib.hid hf
    clear h1 hf HN
    go_wp2_with fail
    go_ret
    exact ⟨rfl, H1.out, HF.out⟩
end Go.Proofs.YtgmojjdojcmnaaaDoor
