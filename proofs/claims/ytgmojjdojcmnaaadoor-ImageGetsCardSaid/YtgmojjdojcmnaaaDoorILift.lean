/-
  From the row's conditions to the words of the walks: slices of bytes; the listed variable.
-/
import Derived.Test.YtgmojjdojcmnaaaDoorIGet
import Derived.SizedLaws
import Derived.Lib.SmallJoins
import Derived.Deep.Slices
import Derived.Lib.LaidTab
import Derived.OpenShut
import Derived.LaidMore
set_option linter.unusedVariables false
set_option linter.unusedSimpArgs false
namespace Go.Proofs.YtgmojjdojcmnaaaDoor
open Go.ChangeShapes Go.WideShapes Go.ChangeAt Go.RowKit Go.Joins Go.Deep

section
variable {H : Type} {enc_ : TypeId × Value → H} {P : Program} {w : World} {base : Nat} {spare : Nat → Bool} {held : Bool}
theorem lt_of_cell_add {w : World} {a : Addr} {i : Nat} {v : Value} (h : w.cell? (a.add i) = some v) : a.block < w.heap.size := by
  have hb := block_of_add a i
  rcases Nat.lt_or_ge a.block w.heap.size with hlt | hge
  · exact hlt
  · rw [← hb] at hge
    simp [World.cell?, Array.getElem?_eq_none hge] at h
theorem u8_ofInt (z : Int) (h0 : 0 ≤ z) (h1 : z ≤ 255) : ((UInt8.ofNat z.toNat).toNat : Int) = z := by rw [UInt8.toNat_ofNat']; omega
theorem open_bytes {t e : TypeId} {fuel : Nat} {c : Value} {x : DataW H × List MemPlace} (ht : P.underlying t = some (.slice e)) (he : P.underlying e = some (.int .u8)) (hc : P.cellsOf e = 1) (hb : P.bytesOf e = 1)
    (h : DataW.trod enc_ P w base spare held fuel t [c] = some x) (hz : ∀ n ∈ x.1.weights P t, n ≤ reachBytes) :
    ∃ A cp l, c = .slice A l.length cp ∧ RY w A cp l := by
  rcases open_slice1 ht hc h with ⟨h1, rfl⟩ | ⟨a, len, cap, m, n, V, D, Pl, h1, hbase, hl, hm, hmm, rfl, hx⟩
  · simp at h1
    subst h1
    exact ⟨none, 0, [], rfl, ⟨Reads.none_, Nat.le_refl _, by omega, by simp⟩⟩
  · simp at h1
    subst h1
    have hlm : len ≤ m := by rw [hmm]; split <;> omega
    have hbit : ∀ i, i < m → ∃ b : UInt8, V i = .int .u8 (b.toNat : Int) := by
      intro i hi
      obtain ⟨_, h2⟩ := hx i hi
      obtain ⟨z, h3, h4, h5⟩ := DataW.trod_int he h2
      have hr : 0 ≤ z ∧ z ≤ 255 := by
        simp [Lit.wf, IntKind.min, IntKind.max, IntKind.signed, IntKind.bits] at h5
        omega
      exact ⟨UInt8.ofNat z.toNat, by rw [u8_ofInt z hr.1 hr.2]; simpa using h3⟩
    obtain ⟨f, hf⟩ := choose_lt (α := UInt8) hbit
    refine ⟨some a, cap, (List.range len).map f, by simp, ⟨⟨by simp [yv], fun hn => ?_⟩, by simpa using hl, by unfold maxLen at hm; exact hm, ?_⟩⟩
    · simp at hn
      refine ⟨a, rfl, lt_of_cell_add (hx 0 (by omega)).1, fun j u hu => ?_⟩
      have hj : j < len := by
        have := (List.getElem?_eq_some_iff.1 hu).1
        simpa [yv] using this
      rw [(hx j (by omega)).1, hf j (by omega)]
      rw [← hu]
      simp [yv, hj]
    · have := hz ((len + (m - len)) * P.bytesOf e) (by simp [DataW.weights, ht])
      rw [hb] at this
      unfold reachBytes at this
      simp
      omega
end

/-! ### the listed variable -/
theorem tr_int {H : Type} {enc_ : TypeId × Value → H} {w : World} {base : Nat} {spare : Nat → Bool} {held : Bool} {n : Nat} {cs : List Value} {x : DataW H × List MemPlace} {z : Int}
    (h : DataW.trod enc_ Tryd.prog w base spare held n 3 cs = some x) (hx : x.1 = .lit (.int .i64 z)) : cs = [.int .i64 z] := by
  obtain ⟨k, e1, e2, _⟩ := DataW.trod_int Tryd.underlying3 h
  rw [e2] at hx
  simp at hx
  rw [e1, hx]
theorem row_of {H : Type} {enc_ : TypeId × Value → H} {w : World} {base : Nat} {spare : Nat → Bool} {held : Bool} {n : Nat} {cs : List Value} {x : DataW H × List MemPlace} {s : List UInt8} {a b c d o : Int}
    (h : DataW.trod enc_ Tryd.prog w base spare held n 87 cs = some x) (hx : x.1 = .agg [.lit (.string s), .agg [.lit (.int .i64 a), .lit (.int .i64 b), .lit (.int .i64 c), .lit (.int .i64 d)], .lit (.int .i64 o)]) :
    cs = [.string ⟨s.toArray⟩, .int .i64 a, .int .i64 b, .int .i64 c, .int .i64 d, .int .i64 o] := by
  obtain ⟨xs, k, hk, hxy, hcl, hxl, hf⟩ := DataW.trod_struct Tryd.underlying87 h
  have c6 : Tryd.prog.cellsOf 87 = 6 := by kernel_rfl
  have cs1 : Tryd.prog.cellsOf 9 = 1 := by kernel_rfl
  have cs4 : Tryd.prog.cellsOf 85 = 4 := by kernel_rfl
  have ci1 : Tryd.prog.cellsOf 3 = 1 := by kernel_rfl
  rw [c6] at hcl
  match xs, hxl, cs, hcl with
  | [y0, y1, y2], _, [v0, v1, v2, v3, v4, v5], _ =>
    rw [hxy] at hx
    simp at hx
    obtain ⟨hx0, hx1, hx2⟩ := hx
    have g0 := hf 0 _ rfl
    have g1 := hf 1 _ rfl
    have g2 := hf 2 _ rfl
    simp [cs1, cs4, ci1] at g0 g1 g2
    obtain ⟨str, e1, e2, _⟩ := DataW.trod_string Tryd.underlying9 g0
    have i2 := tr_int g2 hx2
    have i1 := Lib.cells_of_tab (k := .i64) (zs := [a, b, c, d]) (p := y1.2) Tryd.underlying85 Tryd.underlying3 ci1 cs4 (by rw [g1]; cases y1; simp at hx1; rw [hx1]; rfl)
    simp at e1 i1 i2
    rw [e2] at hx0
    simp at hx0
    have hst : str = ⟨s.toArray⟩ := by
      rw [← hx0]
    subst e1
    rw [hst, i1.1, i1.2.1, i1.2.2.1, i1.2.2.2, i2]
theorem gOps : Tryd.prog.globalNamed "synchrony/asm.operations" = some 0 := by kernel_rfl
theorem tOps : (Tryd.prog.globals[0]?).map (·.type) = some 98 := by kernel_rfl
theorem ops_of {W : World} (h : laidMetH Tryd.prog [("synchrony/asm.operations", Rows.laid_synchrony_asm_operations)] W) (hs : 0 < W.heap.size) : Ops W := by
  rw [MakeChecks.laidMetH_plain _ _ _ (by kernel_rfl)] at h
  obtain ⟨ps, ⟨g0, t0, cs0, f0, p0, q0, hg0, ht0, hv0, hd0, _⟩, _, _⟩ := h
  obtain rfl := Option.some.inj (gOps.symm.trans hg0)
  obtain rfl := Option.some.inj (tOps.symm.trans ht0)
  obtain ⟨xs, m1, rfl, hx1, hlen, hn3, hel⟩ := DataW.trod_array Tryd.underlying98 hd0
  have c6 : Tryd.prog.cellsOf 87 = 6 := by kernel_rfl
  have cT : Tryd.prog.cellsOf 98 = 66 := by kernel_rfl
  rw [cT] at hlen
  rw [c6] at hel
  simp only [Prod.mk.injEq] at hx1
  have hxs : xs.map (·.1) = _ := (DataW.agg.inj hx1.1).symm
  match xs, hn3, hxs with
  | [r0, r1, r2, r3, r4, r5, r6, r7, r8, r9, r10], _, hxs =>
    simp only [List.map_cons, List.map_nil, List.cons.injEq, and_true] at hxs
    obtain ⟨k0, k1, k2, k3, k4, k5, k6, k7, k8, k9, k10⟩ := hxs
    have q0 := row_of (hel 0 (by decide)) k0
    have q1 := row_of (hel 1 (by decide)) k1
    have q2 := row_of (hel 2 (by decide)) k2
    have q3 := row_of (hel 3 (by decide)) k3
    have q4 := row_of (hel 4 (by decide)) k4
    have q5 := row_of (hel 5 (by decide)) k5
    have q6 := row_of (hel 6 (by decide)) k6
    have q7 := row_of (hel 7 (by decide)) k7
    have q8 := row_of (hel 8 (by decide)) k8
    have q9 := row_of (hel 9 (by decide)) k9
    have q10 := row_of (hel 10 (by decide)) k10
    refine ⟨hs, fun j v hv => ?_⟩
    rw [World.var?_cell hg0 hv0 j]
    have hj : j < 66 := (List.getElem?_eq_some_iff.1 hv).1
    have key : ∀ i (row : List Value), (cs0.toList.drop (i * 6)).take 6 = row → ∀ t, t < 6 → cs0[i * 6 + t]? = row[t]? := by
      intro i row hr t ht
      rw [← hr, List.getElem?_take, if_pos ht, List.getElem?_drop]
      simp
    have hd : j = (j / 6) * 6 + j % 6 := by omega
    rw [← hv]
    have ht : j % 6 < 6 := Nat.mod_lt _ (by decide)
    have hi : j / 6 < 11 := by omega
    generalize j / 6 = i at *
    generalize j % 6 = t at *
    subst hd
    match i, hi with
    | 0, _ => rw [key 0 _ q0 t ht]; match t, ht with | 0, _ => rfl | 1, _ => rfl | 2, _ => rfl | 3, _ => rfl | 4, _ => rfl | 5, _ => rfl
    | 1, _ => rw [key 1 _ q1 t ht]; match t, ht with | 0, _ => rfl | 1, _ => rfl | 2, _ => rfl | 3, _ => rfl | 4, _ => rfl | 5, _ => rfl
    | 2, _ => rw [key 2 _ q2 t ht]; match t, ht with | 0, _ => rfl | 1, _ => rfl | 2, _ => rfl | 3, _ => rfl | 4, _ => rfl | 5, _ => rfl
    | 3, _ => rw [key 3 _ q3 t ht]; match t, ht with | 0, _ => rfl | 1, _ => rfl | 2, _ => rfl | 3, _ => rfl | 4, _ => rfl | 5, _ => rfl
    | 4, _ => rw [key 4 _ q4 t ht]; match t, ht with | 0, _ => rfl | 1, _ => rfl | 2, _ => rfl | 3, _ => rfl | 4, _ => rfl | 5, _ => rfl
    | 5, _ => rw [key 5 _ q5 t ht]; match t, ht with | 0, _ => rfl | 1, _ => rfl | 2, _ => rfl | 3, _ => rfl | 4, _ => rfl | 5, _ => rfl
    | 6, _ => rw [key 6 _ q6 t ht]; match t, ht with | 0, _ => rfl | 1, _ => rfl | 2, _ => rfl | 3, _ => rfl | 4, _ => rfl | 5, _ => rfl
    | 7, _ => rw [key 7 _ q7 t ht]; match t, ht with | 0, _ => rfl | 1, _ => rfl | 2, _ => rfl | 3, _ => rfl | 4, _ => rfl | 5, _ => rfl
    | 8, _ => rw [key 8 _ q8 t ht]; match t, ht with | 0, _ => rfl | 1, _ => rfl | 2, _ => rfl | 3, _ => rfl | 4, _ => rfl | 5, _ => rfl
    | 9, _ => rw [key 9 _ q9 t ht]; match t, ht with | 0, _ => rfl | 1, _ => rfl | 2, _ => rfl | 3, _ => rfl | 4, _ => rfl | 5, _ => rfl
    | 10, _ => rw [key 10 _ q10 t ht]; match t, ht with | 0, _ => rfl | 1, _ => rfl | 2, _ => rfl | 3, _ => rfl | 4, _ => rfl | 5, _ => rfl
end Go.Proofs.YtgmojjdojcmnaaaDoor
