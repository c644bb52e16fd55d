/-
  Contracts: Rename of the program and of the reference.
-/
import Derived.Test.YtfoddappedcplaaERen
set_option linter.unusedVariables false
set_option linter.unusedSimpArgs false
namespace Go.Proofs.Ytfoddappedcplaa
open Go.RowKit Go.BigFrame

set_option maxRecDepth 100000 in
set_option maxHeartbeats 3200000 in
theorem ren_n (fr tw : ByteArray) (hbl : tw.size ≤ 140737488355328) (N : Nat) (hN : N ≤ 1000000) : ∀ (k o t v : Int) (s : ByteArray) (A : Option Addr) (c : Nat) (xs : List Tx) (w0 : World), (Tx.mk k o t v s A c xs).size ≤ N → RX w0 (.mk k o t v s A c xs) → ∀ w : World, After w0 w →
    Calls Try.prog 34 #[.agg #[.int .i64 k, .int .i64 o, .int .i64 t, .int .i64 v, .string s, .slice A xs.length c], .string fr, .string tw] w fun e w' => RenP fr tw k o t v s xs w e w' := by
  induction N with
  | zero =>
    intro k o t v s A c xs w0 hs
    simp [Tx.size] at hs
  | succ N ih =>
    intro k o t v s A c xs w0 hs x w aft
    replace x := Lib.hid x
    replace ih := Lib.hid (ih (by omega))
    rw [Tx.size] at hs
    have hbd := x.out.bounds
    simp only [Tx.args, Tx.cap, Tx.name] at hbd
    obtain ⟨hb1_, hb2_, hb3_, hb4_⟩ := hbd
    have hxl : xs.length ≤ 1000000 := by have := Tx.args_length_le (.mk k o t v s A c xs); rw [Tx.size] at this; simp only [Tx.args] at this; omega
    obtain ⟨i0, hi0, hz0, hz1, hz2⟩ := info_parts exprInfo
    have HV : Hid (∀ U : World, Calls Try.prog 54 #[.agg #[.int .i64 k, .int .i64 o, .int .i64 t, .int .i64 v, .string s, .slice A xs.length c]] U fun e w' => e = .returned (.bool (varB k)) ∧ After U w') := Lib.hid fun U => variable_any U
    obtain ⟨s', hs'⟩ : ∃ s', renN fr tw k s = s' := ⟨_, rfl⟩
    have hsl : s'.size ≤ 140737488355328 := by rw [← hs']; unfold renN; split <;> assumption
    unfold renN at hs'
    obtain ⟨vb, hvb⟩ : ∃ vb, varB k = vb := ⟨_, rfl⟩
    obtain ⟨nb, hnb⟩ : ∃ nb, (s.toList == fr.toList) = nb := ⟨_, rfl⟩
    rw [hvb] at HV
    rw [hvb, hnb] at hs'
    have HRN : Hid (renN fr tw k s = s') := Lib.hid (by unfold renN; rw [hvb, hnb]; exact hs')
    clear hvb
    go_enter Try.func34, Try.ntmps34
    go_wp2_with fail
    refine (HV.out _).mono ?_
    rintro _ V ⟨rfl, aV⟩
    have HBV : Hid (Blk V w.heap.size 24 #[.int .i64 k, .int .i64 o, .int .i64 t, .int .i64 v, .string s, .slice A xs.length c]) := Lib.hid (((Blk.new w 24 #[.int .i64 k, .int .i64 o, .int .i64 t, .int .i64 v, .string s, .slice A xs.length c]).alloc _).after (k := aV))
    have HZV : Hid (Blk V (w.heap.size + 1) 24 #[.int .i64 0, .int .i64 0, .int .i64 0, .int .i64 0, .string ⟨#[]⟩, .slice none 0 0]) := Lib.hid ((Blk.at_' (size_alloc_ _ _) 24 #[.int .i64 0, .int .i64 0, .int .i64 0, .int .i64 0, .string ⟨#[]⟩, .slice none 0 0]).after (k := aV))
    have awV : After w V := after_after inferInstance aV
    clear HV aV
    have lB_V : Le (w.heap.size + 1) V := HBV.out.is_le
    have lZ_V : Le (w.heap.size + 1 + 1) V := HZV.out.is_le
    have h0 : V.cell? ⟨w.heap.size, 0, none⟩ = some (.int .i64 k) := (HBV.out.cell 0).trans rfl
    have h1 : V.cell? ⟨w.heap.size, 1, none⟩ = some (.int .i64 o) := (HBV.out.cell 1).trans rfl
    have h2 : V.cell? ⟨w.heap.size, 2, none⟩ = some (.int .i64 t) := (HBV.out.cell 2).trans rfl
    have h3 : V.cell? ⟨w.heap.size, 3, none⟩ = some (.int .i64 v) := (HBV.out.cell 3).trans rfl
    have h4 : V.cell? ⟨w.heap.size, 4, none⟩ = some (.string s) := (HBV.out.cell 4).trans rfl
    have h5 : V.cell? ⟨w.heap.size, 5, none⟩ = some (.slice A xs.length c) := (HBV.out.cell 5).trans rfl
    have hf4 := HBV.out.frozen 4
    cases vb with
    | false =>
      obtain ⟨V1, hV1⟩ : ∃ V1, V = V1 := ⟨_, rfl⟩
      have hss : s' = s := by simpa using hs'.symm
      have HB1 : Hid (Blk V w.heap.size 24 #[.int .i64 k, .int .i64 o, .int .i64 t, .int .i64 v, .string s', .slice A xs.length c]) := Lib.hid (by rw [hss]; exact HBV.out)
      have HZ1 := HZV
      have aw1 := awV
      clear hs' hV1 V1 hss
      obtain ⟨n, hn⟩ : ∃ n, xs.length = n := ⟨_, rfl⟩
      have HXL := Lib.hid hn
      have hnb : n ≤ 1000000 := by omega
      go_wp2_with fail
      try rw [hn]
      obtain ⟨V2, hrun, hown, hg2⟩ := run_make_full (P := Try.prog) V w.heap.size 22 24 i0 _ 6 Try.underlying22 hi0 hz0 hz1 .i64 .i64 n (by rw [hz2]; omega) (by unfold maxLen; omega) aw1.below.size
      rw [hrun]
      clear hrun
      simp only [Result.andThen]
      rw [Oper.upon_value]
      obtain ⟨g, hg⟩ : ∃ g, (V : World).heap.size = g := ⟨_, rfl⟩
      rw [hg] at hown ⊢
      have hlg : w.heap.size + 1 + 1 ≤ g := by have h_ := HZ1.out.lt; rw [hg] at h_; omega
      obtain ⟨cs0, HG2, hcs0⟩ := Blk.of_make hown
      have a12 : After V V2 := ⟨hg2.os, hg2.tape, hg2.output, hg2.size, fun k hk => hg2.block k hk (by simp)⟩
      have HB2 := Lib.hid (HB1.out.after (k := a12))
      have HZ2 := Lib.hid (HZ1.out.after (k := a12))
      have aw2 : After w V2 := after_after aw1 a12
      have lB_V2 : Le (w.heap.size + 1) V2 := HB2.out.is_le
      have m0 : V2.cell? ⟨w.heap.size, 0, none⟩ = some (.int .i64 k) := (HB2.out.cell 0).trans rfl
      have m1 : V2.cell? ⟨w.heap.size, 1, none⟩ = some (.int .i64 o) := (HB2.out.cell 1).trans rfl
      have m2 : V2.cell? ⟨w.heap.size, 2, none⟩ = some (.int .i64 t) := (HB2.out.cell 2).trans rfl
      have m3 : V2.cell? ⟨w.heap.size, 3, none⟩ = some (.int .i64 v) := (HB2.out.cell 3).trans rfl
      have m4 : V2.cell? ⟨w.heap.size, 4, none⟩ = some (.string s') := (HB2.out.cell 4).trans rfl
      have m5 : V2.cell? ⟨w.heap.size, 5, none⟩ = some (.slice A xs.length c) := (HB2.out.cell 5).trans rfl
      replace HG2 := Lib.hid HG2
      clear hown hg2 a12 HB1 HZ1 aw1 hg
      rw [HXL.out] at m5
      have HXN := HXL
      clear hn
      have hgV : g < V2.heap.size := HG2.out.lt
      go_wp2_with fail
      go_loopw [27] (fun i wr => ∃ (j : Nat) (cs : Array Value) (ys : List Tx), ys.length = j ∧ j ≤ n ∧ i = .int .i64 (j : Nat) ∧ Hid (Tx.ers ys = Ex.rens fr tw (Tx.ers (xs.take j))) ∧ Hid (Filled cs n ys) ∧ Hid (Blk wr g 24 cs) ∧ Hid (Blk wr w.heap.size 24 #[.int .i64 k, .int .i64 o, .int .i64 t, .int .i64 v, .string s', .slice A xs.length c]) ∧ Hid (Blk wr (w.heap.size + 1) 24 #[.int .i64 0, .int .i64 0, .int .i64 0, .int .i64 0, .string ⟨#[]⟩, .slice none 0 0]) ∧ Hid (∀ e ∈ ys, RX wr e) ∧ Hid (Foots (fun b_ => g < b_) ys) ∧ After w wr) (fun i _ => n - (intOf i).toNat)
      case atStart => exact ⟨0, cs0, [], rfl, by omega, rfl, Lib.hid (by simp [Tx.ers, Ex.rens]), Lib.hid (Filled.nil hcs0), HG2, HB2, HZ2, Lib.hid (by simp), Lib.hid (by rw [Foots]; trivial), aw2⟩
      case round =>
        obtain ⟨j, cs, ys, hyl, hj, rfl, HER, HFL, HGr, HBr, HZr, HRX, HFT, ar⟩ := hrel
        have lB_wr : Le (w.heap.size + 1) wr := HBr.out.is_le
        have lZ_wr : Le (w.heap.size + 1 + 1) wr := HZr.out.is_le
        have lG_wr : Le (g + 1) wr := HGr.out.is_le
        have r0 : wr.cell? ⟨w.heap.size, 0, none⟩ = some (.int .i64 k) := (HBr.out.cell 0).trans rfl
        have r1 : wr.cell? ⟨w.heap.size, 1, none⟩ = some (.int .i64 o) := (HBr.out.cell 1).trans rfl
        have r2 : wr.cell? ⟨w.heap.size, 2, none⟩ = some (.int .i64 t) := (HBr.out.cell 2).trans rfl
        have r3 : wr.cell? ⟨w.heap.size, 3, none⟩ = some (.int .i64 v) := (HBr.out.cell 3).trans rfl
        have r4 : wr.cell? ⟨w.heap.size, 4, none⟩ = some (.string s') := (HBr.out.cell 4).trans rfl
        have r5 : wr.cell? ⟨w.heap.size, 5, none⟩ = some (.slice A xs.length c) := (HBr.out.cell 5).trans rfl
        rw [HXL.out] at r5
        have a0r : After w0 wr := after_after aft ar
        by_cases hlt_ : j < n
        · have hltI : (j : Int) < (n : Int) := by omega
          have hlt : j < xs.length := by rw [HXL.out]; exact hlt_
          obtain ⟨b, p, k1, o1, t1, v1, s1, A1, c1, xs1, rfl, hb1, HX1, HR1, e0, e1, e2, e3, e4, e5⟩ := (x.out.here wr).part (i := j) hlt
          have x1_ := Lib.hid (x.out.all (.mk k1 o1 t1 v1 s1 A1 c1 xs1) (List.mem_of_getElem? HX1.out))
          have hme := Tx.sizes_mem HX1.out
          have HC : Hid (∀ U, After wr U → Calls Try.prog 34 #[.agg #[.int .i64 k1, .int .i64 o1, .int .i64 t1, .int .i64 v1, .string s1, .slice A1 xs1.length c1], .string fr, .string tw] U fun e w' => RenP fr tw k1 o1 t1 v1 s1 xs1 U e w') := Lib.hid fun U hU => ih.out _ _ _ _ _ _ _ _ w0 (by omega) x1_.out U (after_after a0r hU)
          have HRT := Lib.hid (rens_take (a := fr) (b := tw) HX1.out)
          clear hme
          go_wp2_with fail
          refine (HC.out _ inferInstance).mono ?_
          rintro e w2 ⟨A3, c3, xs3, rfl, HE3, HR3, HF3, a3⟩
          replace HE3 := Lib.hid HE3
          replace HR3 := Lib.hid HR3
          replace HF3 := Lib.hid HF3
          obtain ⟨s3, hs3⟩ : ∃ s3, renN fr tw k1 s1 = s3 := ⟨_, rfl⟩
          rw [hs3] at HR3 HF3 ⊢
          replace hs3 := Lib.hid hs3
          have a2r : After wr w2 := after_after (inferInstance : After wr (wr.alloc (.cells #[.int .i64 k1, .int .i64 o1, .int .i64 t1, .int .i64 v1, .string s1, .slice A1 xs1.length c1] 24))) a3
          have HG3 := Lib.hid (HGr.out.after (k := a2r))
          have HB3 := Lib.hid (HBr.out.after (k := a2r))
          have HZ3 := Lib.hid (HZr.out.after (k := a2r))
          have lG_2 : Le (g + 1) w2 := HG3.out.is_le
          have hcs := HFL.out.size
          obtain ⟨d0, hd0⟩ : ∃ d, w2.cell? ⟨g, j * 6, none⟩ = some d := ⟨_, (HG3.out.cell _).trans (Array.getElem?_eq_getElem (by omega))⟩
          obtain ⟨d1, hd1⟩ : ∃ d, w2.cell? ⟨g, j * 6 + 1, none⟩ = some d := ⟨_, (HG3.out.cell _).trans (Array.getElem?_eq_getElem (by omega))⟩
          obtain ⟨d2, hd2⟩ : ∃ d, w2.cell? ⟨g, j * 6 + 2, none⟩ = some d := ⟨_, (HG3.out.cell _).trans (Array.getElem?_eq_getElem (by omega))⟩
          obtain ⟨d3, hd3⟩ : ∃ d, w2.cell? ⟨g, j * 6 + 3, none⟩ = some d := ⟨_, (HG3.out.cell _).trans (Array.getElem?_eq_getElem (by omega))⟩
          obtain ⟨d4, hd4⟩ : ∃ d, w2.cell? ⟨g, j * 6 + 4, none⟩ = some d := ⟨_, (HG3.out.cell _).trans (Array.getElem?_eq_getElem (by omega))⟩
          obtain ⟨d5, hd5⟩ : ∃ d, w2.cell? ⟨g, j * 6 + 5, none⟩ = some d := ⟨_, (HG3.out.cell _).trans (Array.getElem?_eq_getElem (by omega))⟩
          have f0_ := HG3.out.frozen (j * 6)
          have f1_ := HG3.out.frozen (j * 6 + 1)
          have f2_ := HG3.out.frozen (j * 6 + 2)
          have f3_ := HG3.out.frozen (j * 6 + 3)
          have f4_ := HG3.out.frozen (j * 6 + 4)
          have f5_ := HG3.out.frozen (j * 6 + 5)
          clear hcs e0 e1 e2 e3 e4 e5
          go_wp2_with fail
          go_roundw
          obtain ⟨z1, z2, z3, z4⟩ := fill_round (y := .mk k1 o1 t1 v1 s3 A3 c3 xs3) hyl hlt_ HFL.out HGr.out (inferInstance : After wr (wr.alloc (.cells #[.int .i64 k1, .int .i64 o1, .int .i64 t1, .int .i64 v1, .string s1, .slice A1 xs1.length c1] 24))) a3 HRX.out HFT.out HR3.out HF3.out
          have z5 := setSix_far HB3.out (show w.heap.size ≠ g by omega) (j * 6) (.mk k1 o1 t1 v1 s3 A3 c3 xs3)
          have z6 := setSix_far HZ3.out (show w.heap.size + 1 ≠ g by omega) (j * 6) (.mk k1 o1 t1 v1 s3 A3 c3 xs3)
          have z7 := setSix_after (after_after ar a2r) (show w.heap.size ≤ g by omega) (j * 6) (.mk k1 o1 t1 v1 s3 A3 c3 xs3)
          simp only [setSix, Tx.kind, Tx.op, Tx.ty, Tx.va, Tx.name, Tx.ad, Tx.args, Tx.cap] at z2 z3 z5 z6 z7
          case rel =>
            refine ⟨j + 1, set6 cs (j * 6) (.mk k1 o1 t1 v1 s3 A3 c3 xs3), ys ++ [.mk k1 o1 t1 v1 s3 A3 c3 xs3], by rw [List.length_append, hyl]; rfl, by omega, by go_num, ?_, Lib.hid z1, Lib.hid z2, Lib.hid z5, Lib.hid z6, Lib.hid z3, Lib.hid z4, z7⟩
            exact Lib.hid (by rw [ers_append, HER.out, HRT.out, Tx.ers, Tx.ers, Tx.er, Tx.er, Ex.ren, hs3.out, HE3.out])
          case measure => simp [intOf]; omega
        · obtain rfl : j = n := by omega
          have hys := hyl
          have z0 : wr.cell? ⟨(w.heap.size + 1), 0, none⟩ = some (.int .i64 0) := (HZr.out.cell 0).trans rfl
          have z1 : wr.cell? ⟨(w.heap.size + 1), 1, none⟩ = some (.int .i64 0) := (HZr.out.cell 1).trans rfl
          have z2 : wr.cell? ⟨(w.heap.size + 1), 2, none⟩ = some (.int .i64 0) := (HZr.out.cell 2).trans rfl
          have z3 : wr.cell? ⟨(w.heap.size + 1), 3, none⟩ = some (.int .i64 0) := (HZr.out.cell 3).trans rfl
          have z4 : wr.cell? ⟨(w.heap.size + 1), 4, none⟩ = some (.string ⟨#[]⟩) := (HZr.out.cell 4).trans rfl
          have z5 : wr.cell? ⟨(w.heap.size + 1), 5, none⟩ = some (.slice none 0 0) := (HZr.out.cell 5).trans rfl
          have zf0 := HZr.out.frozen 0
          have zf1 := HZr.out.frozen 1
          have zf2 := HZr.out.frozen 2
          have zf3 := HZr.out.frozen 3
          have zf4 := HZr.out.frozen 4
          have zf5 := HZr.out.frozen 5
          have bf5 := HBr.out.frozen 5
          rw [show List.take j xs = xs by rw [← HXL.out, List.take_length]] at HER
          go_wp2_with fail
          have R9 : Blk (setSix (wr.setCell ⟨w.heap.size, 5, none⟩ (.slice (some ⟨g, 0, none⟩) j j)) (w.heap.size + 1) 0 (.mk k o t v s' (some ⟨g, 0, none⟩) j ys)) (w.heap.size + 1) 24 (set6 #[.int .i64 0, .int .i64 0, .int .i64 0, .int .i64 0, .string ⟨#[]⟩, .slice none 0 0] 0 (.mk k o t v s' (some ⟨g, 0, none⟩) j ys)) := setSix_blk (HZr.out.far (by show w.heap.size + 1 ≠ w.heap.size; omega) _) 0 _
          rw [set6_lit] at R9
          have hk9 : ∀ b_, g ≤ b_ → ((setSix (wr.setCell ⟨w.heap.size, 5, none⟩ (.slice (some ⟨g, 0, none⟩) j j)) (w.heap.size + 1) 0 (.mk k o t v s' (some ⟨g, 0, none⟩) j ys)) : World).heap[b_]? = wr.heap[b_]? := fun b_ hb_ => (setSix_heap _ _ _ _ (by omega)).trans (Below.heap_setCell _ _ _ _ (by show b_ ≠ w.heap.size; omega))
          have hz9 : ((setSix (wr.setCell ⟨w.heap.size, 5, none⟩ (.slice (some ⟨g, 0, none⟩) j j)) (w.heap.size + 1) 0 (.mk k o t v s' (some ⟨g, 0, none⟩) j ys)) : World).heap.size = wr.heap.size := by rw [setSix_size, size_set_]
          have a9 : After w (setSix (wr.setCell ⟨w.heap.size, 5, none⟩ (.slice (some ⟨g, 0, none⟩) j j)) (w.heap.size + 1) 0 (.mk k o t v s' (some ⟨g, 0, none⟩) j ys)) := setSix_after inferInstance (by omega) _ _
          have y0 : (setSix (wr.setCell ⟨w.heap.size, 5, none⟩ (.slice (some ⟨g, 0, none⟩) j j)) (w.heap.size + 1) 0 (.mk k o t v s' (some ⟨g, 0, none⟩) j ys)).cell? ⟨w.heap.size + 1, 0, none⟩ = some (.int .i64 k) := (R9.cell 0).trans rfl
          have y1 : (setSix (wr.setCell ⟨w.heap.size, 5, none⟩ (.slice (some ⟨g, 0, none⟩) j j)) (w.heap.size + 1) 0 (.mk k o t v s' (some ⟨g, 0, none⟩) j ys)).cell? ⟨w.heap.size + 1, 1, none⟩ = some (.int .i64 o) := (R9.cell 1).trans rfl
          have y2 : (setSix (wr.setCell ⟨w.heap.size, 5, none⟩ (.slice (some ⟨g, 0, none⟩) j j)) (w.heap.size + 1) 0 (.mk k o t v s' (some ⟨g, 0, none⟩) j ys)).cell? ⟨w.heap.size + 1, 2, none⟩ = some (.int .i64 t) := (R9.cell 2).trans rfl
          have y3 : (setSix (wr.setCell ⟨w.heap.size, 5, none⟩ (.slice (some ⟨g, 0, none⟩) j j)) (w.heap.size + 1) 0 (.mk k o t v s' (some ⟨g, 0, none⟩) j ys)).cell? ⟨w.heap.size + 1, 3, none⟩ = some (.int .i64 v) := (R9.cell 3).trans rfl
          have y4 : (setSix (wr.setCell ⟨w.heap.size, 5, none⟩ (.slice (some ⟨g, 0, none⟩) j j)) (w.heap.size + 1) 0 (.mk k o t v s' (some ⟨g, 0, none⟩) j ys)).cell? ⟨w.heap.size + 1, 4, none⟩ = some (.string s') := (R9.cell 4).trans rfl
          have y5 : (setSix (wr.setCell ⟨w.heap.size, 5, none⟩ (.slice (some ⟨g, 0, none⟩) j j)) (w.heap.size + 1) 0 (.mk k o t v s' (some ⟨g, 0, none⟩) j ys)).cell? ⟨w.heap.size + 1, 5, none⟩ = some (.slice (some ⟨g, 0, none⟩) ys.length j) := (R9.cell 5).trans rfl
          have hx9 : ∀ e ∈ ys, RX (setSix (wr.setCell ⟨w.heap.size, 5, none⟩ (.slice (some ⟨g, 0, none⟩) j j)) (w.heap.size + 1) 0 (.mk k o t v s' (some ⟨g, 0, none⟩) j ys)) e := foots_stay HRX.out HFT.out (Nat.le_of_eq hz9.symm) (fun b_ hb_ => hk9 b_ (by omega))
          have hg9 : Blk (setSix (wr.setCell ⟨w.heap.size, 5, none⟩ (.slice (some ⟨g, 0, none⟩) j j)) (w.heap.size + 1) 0 (.mk k o t v s' (some ⟨g, 0, none⟩) j ys)) g 24 cs := (hk9 g (Nat.le_refl _)).trans HGr.out
          simp only [setSix, Tx.kind, Tx.op, Tx.ty, Tx.va, Tx.name, Tx.ad, Tx.args, Tx.cap, Nat.zero_add, hyl] at hg9 a9 y0 y1 y2 y3 y4 y5 hx9
          refine bodyPost_ret (v := .agg #[.int .i64 k, .int .i64 o, .int .i64 t, .int .i64 v, .string s', .slice (some ⟨g, 0, none⟩) j j]) (by simp [results, Try.results34, go_sem, y0, y1, y2, y3, y4, y5]) rfl ⟨some ⟨g, 0, none⟩, j, ys, by rw [HRN.out, hyl], HER.out, ?_, ?_, a9⟩
          · rw [HRN.out, RX]
            exact ⟨hsl, by omega, by omega, by omega, .inr ⟨g, 0, rfl, hg9.lt, HFL.out.reads hg9 hx9⟩⟩
          · rw [Foot]
            exact ⟨.inr ⟨g, 0, rfl, by omega⟩, HFT.out.mono fun b_ hb_ => by omega⟩
    | true =>
      cases nb with
      | false =>
        have hss : s' = s := by simpa using hs'.symm
        have HB1 : Hid (Blk V w.heap.size 24 #[.int .i64 k, .int .i64 o, .int .i64 t, .int .i64 v, .string s', .slice A xs.length c]) := Lib.hid (by rw [hss]; exact HBV.out)
        have HZ1 := HZV
        have aw1 := awV
        clear hs' hss
        obtain ⟨n, hn⟩ : ∃ n, xs.length = n := ⟨_, rfl⟩
        have HXL := Lib.hid hn
        have hnb : n ≤ 1000000 := by omega
        go_wp2_with fail
        try rw [hn]
        obtain ⟨V2, hrun, hown, hg2⟩ := run_make_full (P := Try.prog) V w.heap.size 22 24 i0 _ 6 Try.underlying22 hi0 hz0 hz1 .i64 .i64 n (by rw [hz2]; omega) (by unfold maxLen; omega) aw1.below.size
        rw [hrun]
        clear hrun
        simp only [Result.andThen]
        rw [Oper.upon_value]
        obtain ⟨g, hg⟩ : ∃ g, (V : World).heap.size = g := ⟨_, rfl⟩
        rw [hg] at hown ⊢
        have hlg : w.heap.size + 1 + 1 ≤ g := by have h_ := HZ1.out.lt; rw [hg] at h_; omega
        obtain ⟨cs0, HG2, hcs0⟩ := Blk.of_make hown
        have a12 : After V V2 := ⟨hg2.os, hg2.tape, hg2.output, hg2.size, fun k hk => hg2.block k hk (by simp)⟩
        have HB2 := Lib.hid (HB1.out.after (k := a12))
        have HZ2 := Lib.hid (HZ1.out.after (k := a12))
        have aw2 : After w V2 := after_after aw1 a12
        have lB_V2 : Le (w.heap.size + 1) V2 := HB2.out.is_le
        have m0 : V2.cell? ⟨w.heap.size, 0, none⟩ = some (.int .i64 k) := (HB2.out.cell 0).trans rfl
        have m1 : V2.cell? ⟨w.heap.size, 1, none⟩ = some (.int .i64 o) := (HB2.out.cell 1).trans rfl
        have m2 : V2.cell? ⟨w.heap.size, 2, none⟩ = some (.int .i64 t) := (HB2.out.cell 2).trans rfl
        have m3 : V2.cell? ⟨w.heap.size, 3, none⟩ = some (.int .i64 v) := (HB2.out.cell 3).trans rfl
        have m4 : V2.cell? ⟨w.heap.size, 4, none⟩ = some (.string s') := (HB2.out.cell 4).trans rfl
        have m5 : V2.cell? ⟨w.heap.size, 5, none⟩ = some (.slice A xs.length c) := (HB2.out.cell 5).trans rfl
        replace HG2 := Lib.hid HG2
        clear hown hg2 a12 HB1 HZ1 aw1 hg
        rw [HXL.out] at m5
        have HXN := HXL
        clear hn
        have hgV : g < V2.heap.size := HG2.out.lt
        go_wp2_with fail
        go_loopw [27] (fun i wr => ∃ (j : Nat) (cs : Array Value) (ys : List Tx), ys.length = j ∧ j ≤ n ∧ i = .int .i64 (j : Nat) ∧ Hid (Tx.ers ys = Ex.rens fr tw (Tx.ers (xs.take j))) ∧ Hid (Filled cs n ys) ∧ Hid (Blk wr g 24 cs) ∧ Hid (Blk wr w.heap.size 24 #[.int .i64 k, .int .i64 o, .int .i64 t, .int .i64 v, .string s', .slice A xs.length c]) ∧ Hid (Blk wr (w.heap.size + 1) 24 #[.int .i64 0, .int .i64 0, .int .i64 0, .int .i64 0, .string ⟨#[]⟩, .slice none 0 0]) ∧ Hid (∀ e ∈ ys, RX wr e) ∧ Hid (Foots (fun b_ => g < b_) ys) ∧ After w wr) (fun i _ => n - (intOf i).toNat)
        case atStart => exact ⟨0, cs0, [], rfl, by omega, rfl, Lib.hid (by simp [Tx.ers, Ex.rens]), Lib.hid (Filled.nil hcs0), HG2, HB2, HZ2, Lib.hid (by simp), Lib.hid (by rw [Foots]; trivial), aw2⟩
        case round =>
          obtain ⟨j, cs, ys, hyl, hj, rfl, HER, HFL, HGr, HBr, HZr, HRX, HFT, ar⟩ := hrel
          have lB_wr : Le (w.heap.size + 1) wr := HBr.out.is_le
          have lZ_wr : Le (w.heap.size + 1 + 1) wr := HZr.out.is_le
          have lG_wr : Le (g + 1) wr := HGr.out.is_le
          have r0 : wr.cell? ⟨w.heap.size, 0, none⟩ = some (.int .i64 k) := (HBr.out.cell 0).trans rfl
          have r1 : wr.cell? ⟨w.heap.size, 1, none⟩ = some (.int .i64 o) := (HBr.out.cell 1).trans rfl
          have r2 : wr.cell? ⟨w.heap.size, 2, none⟩ = some (.int .i64 t) := (HBr.out.cell 2).trans rfl
          have r3 : wr.cell? ⟨w.heap.size, 3, none⟩ = some (.int .i64 v) := (HBr.out.cell 3).trans rfl
          have r4 : wr.cell? ⟨w.heap.size, 4, none⟩ = some (.string s') := (HBr.out.cell 4).trans rfl
          have r5 : wr.cell? ⟨w.heap.size, 5, none⟩ = some (.slice A xs.length c) := (HBr.out.cell 5).trans rfl
          rw [HXL.out] at r5
          have a0r : After w0 wr := after_after aft ar
          by_cases hlt_ : j < n
          · have hltI : (j : Int) < (n : Int) := by omega
            have hlt : j < xs.length := by rw [HXL.out]; exact hlt_
            obtain ⟨b, p, k1, o1, t1, v1, s1, A1, c1, xs1, rfl, hb1, HX1, HR1, e0, e1, e2, e3, e4, e5⟩ := (x.out.here wr).part (i := j) hlt
            have x1_ := Lib.hid (x.out.all (.mk k1 o1 t1 v1 s1 A1 c1 xs1) (List.mem_of_getElem? HX1.out))
            have hme := Tx.sizes_mem HX1.out
            have HC : Hid (∀ U, After wr U → Calls Try.prog 34 #[.agg #[.int .i64 k1, .int .i64 o1, .int .i64 t1, .int .i64 v1, .string s1, .slice A1 xs1.length c1], .string fr, .string tw] U fun e w' => RenP fr tw k1 o1 t1 v1 s1 xs1 U e w') := Lib.hid fun U hU => ih.out _ _ _ _ _ _ _ _ w0 (by omega) x1_.out U (after_after a0r hU)
            have HRT := Lib.hid (rens_take (a := fr) (b := tw) HX1.out)
            clear hme
            go_wp2_with fail
            refine (HC.out _ inferInstance).mono ?_
            rintro e w2 ⟨A3, c3, xs3, rfl, HE3, HR3, HF3, a3⟩
            replace HE3 := Lib.hid HE3
            replace HR3 := Lib.hid HR3
            replace HF3 := Lib.hid HF3
            obtain ⟨s3, hs3⟩ : ∃ s3, renN fr tw k1 s1 = s3 := ⟨_, rfl⟩
            rw [hs3] at HR3 HF3 ⊢
            replace hs3 := Lib.hid hs3
            have a2r : After wr w2 := after_after (inferInstance : After wr (wr.alloc (.cells #[.int .i64 k1, .int .i64 o1, .int .i64 t1, .int .i64 v1, .string s1, .slice A1 xs1.length c1] 24))) a3
            have HG3 := Lib.hid (HGr.out.after (k := a2r))
            have HB3 := Lib.hid (HBr.out.after (k := a2r))
            have HZ3 := Lib.hid (HZr.out.after (k := a2r))
            have lG_2 : Le (g + 1) w2 := HG3.out.is_le
            have hcs := HFL.out.size
            obtain ⟨d0, hd0⟩ : ∃ d, w2.cell? ⟨g, j * 6, none⟩ = some d := ⟨_, (HG3.out.cell _).trans (Array.getElem?_eq_getElem (by omega))⟩
            obtain ⟨d1, hd1⟩ : ∃ d, w2.cell? ⟨g, j * 6 + 1, none⟩ = some d := ⟨_, (HG3.out.cell _).trans (Array.getElem?_eq_getElem (by omega))⟩
            obtain ⟨d2, hd2⟩ : ∃ d, w2.cell? ⟨g, j * 6 + 2, none⟩ = some d := ⟨_, (HG3.out.cell _).trans (Array.getElem?_eq_getElem (by omega))⟩
            obtain ⟨d3, hd3⟩ : ∃ d, w2.cell? ⟨g, j * 6 + 3, none⟩ = some d := ⟨_, (HG3.out.cell _).trans (Array.getElem?_eq_getElem (by omega))⟩
            obtain ⟨d4, hd4⟩ : ∃ d, w2.cell? ⟨g, j * 6 + 4, none⟩ = some d := ⟨_, (HG3.out.cell _).trans (Array.getElem?_eq_getElem (by omega))⟩
            obtain ⟨d5, hd5⟩ : ∃ d, w2.cell? ⟨g, j * 6 + 5, none⟩ = some d := ⟨_, (HG3.out.cell _).trans (Array.getElem?_eq_getElem (by omega))⟩
            have f0_ := HG3.out.frozen (j * 6)
            have f1_ := HG3.out.frozen (j * 6 + 1)
            have f2_ := HG3.out.frozen (j * 6 + 2)
            have f3_ := HG3.out.frozen (j * 6 + 3)
            have f4_ := HG3.out.frozen (j * 6 + 4)
            have f5_ := HG3.out.frozen (j * 6 + 5)
            clear hcs e0 e1 e2 e3 e4 e5
            go_wp2_with fail
            go_roundw
            obtain ⟨z1, z2, z3, z4⟩ := fill_round (y := .mk k1 o1 t1 v1 s3 A3 c3 xs3) hyl hlt_ HFL.out HGr.out (inferInstance : After wr (wr.alloc (.cells #[.int .i64 k1, .int .i64 o1, .int .i64 t1, .int .i64 v1, .string s1, .slice A1 xs1.length c1] 24))) a3 HRX.out HFT.out HR3.out HF3.out
            have z5 := setSix_far HB3.out (show w.heap.size ≠ g by omega) (j * 6) (.mk k1 o1 t1 v1 s3 A3 c3 xs3)
            have z6 := setSix_far HZ3.out (show w.heap.size + 1 ≠ g by omega) (j * 6) (.mk k1 o1 t1 v1 s3 A3 c3 xs3)
            have z7 := setSix_after (after_after ar a2r) (show w.heap.size ≤ g by omega) (j * 6) (.mk k1 o1 t1 v1 s3 A3 c3 xs3)
            simp only [setSix, Tx.kind, Tx.op, Tx.ty, Tx.va, Tx.name, Tx.ad, Tx.args, Tx.cap] at z2 z3 z5 z6 z7
            case rel =>
              refine ⟨j + 1, set6 cs (j * 6) (.mk k1 o1 t1 v1 s3 A3 c3 xs3), ys ++ [.mk k1 o1 t1 v1 s3 A3 c3 xs3], by rw [List.length_append, hyl]; rfl, by omega, by go_num, ?_, Lib.hid z1, Lib.hid z2, Lib.hid z5, Lib.hid z6, Lib.hid z3, Lib.hid z4, z7⟩
              exact Lib.hid (by rw [ers_append, HER.out, HRT.out, Tx.ers, Tx.ers, Tx.er, Tx.er, Ex.ren, hs3.out, HE3.out])
            case measure => simp [intOf]; omega
          · obtain rfl : j = n := by omega
            have hys := hyl
            have z0 : wr.cell? ⟨(w.heap.size + 1), 0, none⟩ = some (.int .i64 0) := (HZr.out.cell 0).trans rfl
            have z1 : wr.cell? ⟨(w.heap.size + 1), 1, none⟩ = some (.int .i64 0) := (HZr.out.cell 1).trans rfl
            have z2 : wr.cell? ⟨(w.heap.size + 1), 2, none⟩ = some (.int .i64 0) := (HZr.out.cell 2).trans rfl
            have z3 : wr.cell? ⟨(w.heap.size + 1), 3, none⟩ = some (.int .i64 0) := (HZr.out.cell 3).trans rfl
            have z4 : wr.cell? ⟨(w.heap.size + 1), 4, none⟩ = some (.string ⟨#[]⟩) := (HZr.out.cell 4).trans rfl
            have z5 : wr.cell? ⟨(w.heap.size + 1), 5, none⟩ = some (.slice none 0 0) := (HZr.out.cell 5).trans rfl
            have zf0 := HZr.out.frozen 0
            have zf1 := HZr.out.frozen 1
            have zf2 := HZr.out.frozen 2
            have zf3 := HZr.out.frozen 3
            have zf4 := HZr.out.frozen 4
            have zf5 := HZr.out.frozen 5
            have bf5 := HBr.out.frozen 5
            rw [show List.take j xs = xs by rw [← HXL.out, List.take_length]] at HER
            go_wp2_with fail
            have R9 : Blk (setSix (wr.setCell ⟨w.heap.size, 5, none⟩ (.slice (some ⟨g, 0, none⟩) j j)) (w.heap.size + 1) 0 (.mk k o t v s' (some ⟨g, 0, none⟩) j ys)) (w.heap.size + 1) 24 (set6 #[.int .i64 0, .int .i64 0, .int .i64 0, .int .i64 0, .string ⟨#[]⟩, .slice none 0 0] 0 (.mk k o t v s' (some ⟨g, 0, none⟩) j ys)) := setSix_blk (HZr.out.far (by show w.heap.size + 1 ≠ w.heap.size; omega) _) 0 _
            rw [set6_lit] at R9
            have hk9 : ∀ b_, g ≤ b_ → ((setSix (wr.setCell ⟨w.heap.size, 5, none⟩ (.slice (some ⟨g, 0, none⟩) j j)) (w.heap.size + 1) 0 (.mk k o t v s' (some ⟨g, 0, none⟩) j ys)) : World).heap[b_]? = wr.heap[b_]? := fun b_ hb_ => (setSix_heap _ _ _ _ (by omega)).trans (Below.heap_setCell _ _ _ _ (by show b_ ≠ w.heap.size; omega))
            have hz9 : ((setSix (wr.setCell ⟨w.heap.size, 5, none⟩ (.slice (some ⟨g, 0, none⟩) j j)) (w.heap.size + 1) 0 (.mk k o t v s' (some ⟨g, 0, none⟩) j ys)) : World).heap.size = wr.heap.size := by rw [setSix_size, size_set_]
            have a9 : After w (setSix (wr.setCell ⟨w.heap.size, 5, none⟩ (.slice (some ⟨g, 0, none⟩) j j)) (w.heap.size + 1) 0 (.mk k o t v s' (some ⟨g, 0, none⟩) j ys)) := setSix_after inferInstance (by omega) _ _
            have y0 : (setSix (wr.setCell ⟨w.heap.size, 5, none⟩ (.slice (some ⟨g, 0, none⟩) j j)) (w.heap.size + 1) 0 (.mk k o t v s' (some ⟨g, 0, none⟩) j ys)).cell? ⟨w.heap.size + 1, 0, none⟩ = some (.int .i64 k) := (R9.cell 0).trans rfl
            have y1 : (setSix (wr.setCell ⟨w.heap.size, 5, none⟩ (.slice (some ⟨g, 0, none⟩) j j)) (w.heap.size + 1) 0 (.mk k o t v s' (some ⟨g, 0, none⟩) j ys)).cell? ⟨w.heap.size + 1, 1, none⟩ = some (.int .i64 o) := (R9.cell 1).trans rfl
            have y2 : (setSix (wr.setCell ⟨w.heap.size, 5, none⟩ (.slice (some ⟨g, 0, none⟩) j j)) (w.heap.size + 1) 0 (.mk k o t v s' (some ⟨g, 0, none⟩) j ys)).cell? ⟨w.heap.size + 1, 2, none⟩ = some (.int .i64 t) := (R9.cell 2).trans rfl
            have y3 : (setSix (wr.setCell ⟨w.heap.size, 5, none⟩ (.slice (some ⟨g, 0, none⟩) j j)) (w.heap.size + 1) 0 (.mk k o t v s' (some ⟨g, 0, none⟩) j ys)).cell? ⟨w.heap.size + 1, 3, none⟩ = some (.int .i64 v) := (R9.cell 3).trans rfl
            have y4 : (setSix (wr.setCell ⟨w.heap.size, 5, none⟩ (.slice (some ⟨g, 0, none⟩) j j)) (w.heap.size + 1) 0 (.mk k o t v s' (some ⟨g, 0, none⟩) j ys)).cell? ⟨w.heap.size + 1, 4, none⟩ = some (.string s') := (R9.cell 4).trans rfl
            have y5 : (setSix (wr.setCell ⟨w.heap.size, 5, none⟩ (.slice (some ⟨g, 0, none⟩) j j)) (w.heap.size + 1) 0 (.mk k o t v s' (some ⟨g, 0, none⟩) j ys)).cell? ⟨w.heap.size + 1, 5, none⟩ = some (.slice (some ⟨g, 0, none⟩) ys.length j) := (R9.cell 5).trans rfl
            have hx9 : ∀ e ∈ ys, RX (setSix (wr.setCell ⟨w.heap.size, 5, none⟩ (.slice (some ⟨g, 0, none⟩) j j)) (w.heap.size + 1) 0 (.mk k o t v s' (some ⟨g, 0, none⟩) j ys)) e := foots_stay HRX.out HFT.out (Nat.le_of_eq hz9.symm) (fun b_ hb_ => hk9 b_ (by omega))
            have hg9 : Blk (setSix (wr.setCell ⟨w.heap.size, 5, none⟩ (.slice (some ⟨g, 0, none⟩) j j)) (w.heap.size + 1) 0 (.mk k o t v s' (some ⟨g, 0, none⟩) j ys)) g 24 cs := (hk9 g (Nat.le_refl _)).trans HGr.out
            simp only [setSix, Tx.kind, Tx.op, Tx.ty, Tx.va, Tx.name, Tx.ad, Tx.args, Tx.cap, Nat.zero_add, hyl] at hg9 a9 y0 y1 y2 y3 y4 y5 hx9
            refine bodyPost_ret (v := .agg #[.int .i64 k, .int .i64 o, .int .i64 t, .int .i64 v, .string s', .slice (some ⟨g, 0, none⟩) j j]) (by simp [results, Try.results34, go_sem, y0, y1, y2, y3, y4, y5]) rfl ⟨some ⟨g, 0, none⟩, j, ys, by rw [HRN.out, hyl], HER.out, ?_, ?_, a9⟩
            · rw [HRN.out, RX]
              exact ⟨hsl, by omega, by omega, by omega, .inr ⟨g, 0, rfl, hg9.lt, HFL.out.reads hg9 hx9⟩⟩
            · rw [Foot]
              exact ⟨.inr ⟨g, 0, rfl, by omega⟩, HFT.out.mono fun b_ hb_ => by omega⟩
      | true =>
        have hss : tw = s' := by simpa using hs'
        subst hss
        have HB1 : Hid (Blk (V.setCell ⟨w.heap.size, 4, none⟩ (.string tw)) w.heap.size 24 #[.int .i64 k, .int .i64 o, .int .i64 t, .int .i64 v, .string tw, .slice A xs.length c]) := Lib.hid (HBV.out.set_ 4 (.string tw))
        have HZ1 : Hid (Blk (V.setCell ⟨w.heap.size, 4, none⟩ (.string tw)) (w.heap.size + 1) 24 #[.int .i64 0, .int .i64 0, .int .i64 0, .int .i64 0, .string ⟨#[]⟩, .slice none 0 0]) := Lib.hid (HZV.out.far (by show w.heap.size + 1 ≠ w.heap.size; omega) _)
        have aw1 : After w (V.setCell ⟨w.heap.size, 4, none⟩ (.string tw)) := inferInstance
        clear hs'
        obtain ⟨n, hn⟩ : ∃ n, xs.length = n := ⟨_, rfl⟩
        have HXL := Lib.hid hn
        have hnb : n ≤ 1000000 := by omega
        go_wp2_with fail
        try rw [hn]
        obtain ⟨V2, hrun, hown, hg2⟩ := run_make_full (P := Try.prog) (V.setCell ⟨w.heap.size, 4, none⟩ (.string tw)) w.heap.size 22 24 i0 _ 6 Try.underlying22 hi0 hz0 hz1 .i64 .i64 n (by rw [hz2]; omega) (by unfold maxLen; omega) aw1.below.size
        rw [hrun]
        clear hrun
        simp only [Result.andThen]
        rw [Oper.upon_value]
        obtain ⟨g, hg⟩ : ∃ g, ((V.setCell ⟨w.heap.size, 4, none⟩ (.string tw)) : World).heap.size = g := ⟨_, rfl⟩
        rw [hg] at hown ⊢
        have hlg : w.heap.size + 1 + 1 ≤ g := by have h_ := HZ1.out.lt; rw [hg] at h_; omega
        obtain ⟨cs0, HG2, hcs0⟩ := Blk.of_make hown
        have a12 : After (V.setCell ⟨w.heap.size, 4, none⟩ (.string tw)) V2 := ⟨hg2.os, hg2.tape, hg2.output, hg2.size, fun k hk => hg2.block k hk (by simp)⟩
        have HB2 := Lib.hid (HB1.out.after (k := a12))
        have HZ2 := Lib.hid (HZ1.out.after (k := a12))
        have aw2 : After w V2 := after_after aw1 a12
        have lB_V2 : Le (w.heap.size + 1) V2 := HB2.out.is_le
        have m0 : V2.cell? ⟨w.heap.size, 0, none⟩ = some (.int .i64 k) := (HB2.out.cell 0).trans rfl
        have m1 : V2.cell? ⟨w.heap.size, 1, none⟩ = some (.int .i64 o) := (HB2.out.cell 1).trans rfl
        have m2 : V2.cell? ⟨w.heap.size, 2, none⟩ = some (.int .i64 t) := (HB2.out.cell 2).trans rfl
        have m3 : V2.cell? ⟨w.heap.size, 3, none⟩ = some (.int .i64 v) := (HB2.out.cell 3).trans rfl
        have m4 : V2.cell? ⟨w.heap.size, 4, none⟩ = some (.string tw) := (HB2.out.cell 4).trans rfl
        have m5 : V2.cell? ⟨w.heap.size, 5, none⟩ = some (.slice A xs.length c) := (HB2.out.cell 5).trans rfl
        replace HG2 := Lib.hid HG2
        clear hown hg2 a12 HB1 HZ1 aw1 hg
        rw [HXL.out] at m5
        have HXN := HXL
        clear hn
        have hgV : g < V2.heap.size := HG2.out.lt
        go_wp2_with fail
        go_loopw [27] (fun i wr => ∃ (j : Nat) (cs : Array Value) (ys : List Tx), ys.length = j ∧ j ≤ n ∧ i = .int .i64 (j : Nat) ∧ Hid (Tx.ers ys = Ex.rens fr tw (Tx.ers (xs.take j))) ∧ Hid (Filled cs n ys) ∧ Hid (Blk wr g 24 cs) ∧ Hid (Blk wr w.heap.size 24 #[.int .i64 k, .int .i64 o, .int .i64 t, .int .i64 v, .string tw, .slice A xs.length c]) ∧ Hid (Blk wr (w.heap.size + 1) 24 #[.int .i64 0, .int .i64 0, .int .i64 0, .int .i64 0, .string ⟨#[]⟩, .slice none 0 0]) ∧ Hid (∀ e ∈ ys, RX wr e) ∧ Hid (Foots (fun b_ => g < b_) ys) ∧ After w wr) (fun i _ => n - (intOf i).toNat)
        case atStart => exact ⟨0, cs0, [], rfl, by omega, rfl, Lib.hid (by simp [Tx.ers, Ex.rens]), Lib.hid (Filled.nil hcs0), HG2, HB2, HZ2, Lib.hid (by simp), Lib.hid (by rw [Foots]; trivial), aw2⟩
        case round =>
          obtain ⟨j, cs, ys, hyl, hj, rfl, HER, HFL, HGr, HBr, HZr, HRX, HFT, ar⟩ := hrel
          have lB_wr : Le (w.heap.size + 1) wr := HBr.out.is_le
          have lZ_wr : Le (w.heap.size + 1 + 1) wr := HZr.out.is_le
          have lG_wr : Le (g + 1) wr := HGr.out.is_le
          have r0 : wr.cell? ⟨w.heap.size, 0, none⟩ = some (.int .i64 k) := (HBr.out.cell 0).trans rfl
          have r1 : wr.cell? ⟨w.heap.size, 1, none⟩ = some (.int .i64 o) := (HBr.out.cell 1).trans rfl
          have r2 : wr.cell? ⟨w.heap.size, 2, none⟩ = some (.int .i64 t) := (HBr.out.cell 2).trans rfl
          have r3 : wr.cell? ⟨w.heap.size, 3, none⟩ = some (.int .i64 v) := (HBr.out.cell 3).trans rfl
          have r4 : wr.cell? ⟨w.heap.size, 4, none⟩ = some (.string tw) := (HBr.out.cell 4).trans rfl
          have r5 : wr.cell? ⟨w.heap.size, 5, none⟩ = some (.slice A xs.length c) := (HBr.out.cell 5).trans rfl
          rw [HXL.out] at r5
          have a0r : After w0 wr := after_after aft ar
          by_cases hlt_ : j < n
          · have hltI : (j : Int) < (n : Int) := by omega
            have hlt : j < xs.length := by rw [HXL.out]; exact hlt_
            obtain ⟨b, p, k1, o1, t1, v1, s1, A1, c1, xs1, rfl, hb1, HX1, HR1, e0, e1, e2, e3, e4, e5⟩ := (x.out.here wr).part (i := j) hlt
            have x1_ := Lib.hid (x.out.all (.mk k1 o1 t1 v1 s1 A1 c1 xs1) (List.mem_of_getElem? HX1.out))
            have hme := Tx.sizes_mem HX1.out
            have HC : Hid (∀ U, After wr U → Calls Try.prog 34 #[.agg #[.int .i64 k1, .int .i64 o1, .int .i64 t1, .int .i64 v1, .string s1, .slice A1 xs1.length c1], .string fr, .string tw] U fun e w' => RenP fr tw k1 o1 t1 v1 s1 xs1 U e w') := Lib.hid fun U hU => ih.out _ _ _ _ _ _ _ _ w0 (by omega) x1_.out U (after_after a0r hU)
            have HRT := Lib.hid (rens_take (a := fr) (b := tw) HX1.out)
            clear hme
            go_wp2_with fail
            refine (HC.out _ inferInstance).mono ?_
            rintro e w2 ⟨A3, c3, xs3, rfl, HE3, HR3, HF3, a3⟩
            replace HE3 := Lib.hid HE3
            replace HR3 := Lib.hid HR3
            replace HF3 := Lib.hid HF3
            obtain ⟨s3, hs3⟩ : ∃ s3, renN fr tw k1 s1 = s3 := ⟨_, rfl⟩
            rw [hs3] at HR3 HF3 ⊢
            replace hs3 := Lib.hid hs3
            have a2r : After wr w2 := after_after (inferInstance : After wr (wr.alloc (.cells #[.int .i64 k1, .int .i64 o1, .int .i64 t1, .int .i64 v1, .string s1, .slice A1 xs1.length c1] 24))) a3
            have HG3 := Lib.hid (HGr.out.after (k := a2r))
            have HB3 := Lib.hid (HBr.out.after (k := a2r))
            have HZ3 := Lib.hid (HZr.out.after (k := a2r))
            have lG_2 : Le (g + 1) w2 := HG3.out.is_le
            have hcs := HFL.out.size
            obtain ⟨d0, hd0⟩ : ∃ d, w2.cell? ⟨g, j * 6, none⟩ = some d := ⟨_, (HG3.out.cell _).trans (Array.getElem?_eq_getElem (by omega))⟩
            obtain ⟨d1, hd1⟩ : ∃ d, w2.cell? ⟨g, j * 6 + 1, none⟩ = some d := ⟨_, (HG3.out.cell _).trans (Array.getElem?_eq_getElem (by omega))⟩
            obtain ⟨d2, hd2⟩ : ∃ d, w2.cell? ⟨g, j * 6 + 2, none⟩ = some d := ⟨_, (HG3.out.cell _).trans (Array.getElem?_eq_getElem (by omega))⟩
            obtain ⟨d3, hd3⟩ : ∃ d, w2.cell? ⟨g, j * 6 + 3, none⟩ = some d := ⟨_, (HG3.out.cell _).trans (Array.getElem?_eq_getElem (by omega))⟩
            obtain ⟨d4, hd4⟩ : ∃ d, w2.cell? ⟨g, j * 6 + 4, none⟩ = some d := ⟨_, (HG3.out.cell _).trans (Array.getElem?_eq_getElem (by omega))⟩
            obtain ⟨d5, hd5⟩ : ∃ d, w2.cell? ⟨g, j * 6 + 5, none⟩ = some d := ⟨_, (HG3.out.cell _).trans (Array.getElem?_eq_getElem (by omega))⟩
            have f0_ := HG3.out.frozen (j * 6)
            have f1_ := HG3.out.frozen (j * 6 + 1)
            have f2_ := HG3.out.frozen (j * 6 + 2)
            have f3_ := HG3.out.frozen (j * 6 + 3)
            have f4_ := HG3.out.frozen (j * 6 + 4)
            have f5_ := HG3.out.frozen (j * 6 + 5)
            clear hcs e0 e1 e2 e3 e4 e5
            go_wp2_with fail
            go_roundw
            obtain ⟨z1, z2, z3, z4⟩ := fill_round (y := .mk k1 o1 t1 v1 s3 A3 c3 xs3) hyl hlt_ HFL.out HGr.out (inferInstance : After wr (wr.alloc (.cells #[.int .i64 k1, .int .i64 o1, .int .i64 t1, .int .i64 v1, .string s1, .slice A1 xs1.length c1] 24))) a3 HRX.out HFT.out HR3.out HF3.out
            have z5 := setSix_far HB3.out (show w.heap.size ≠ g by omega) (j * 6) (.mk k1 o1 t1 v1 s3 A3 c3 xs3)
            have z6 := setSix_far HZ3.out (show w.heap.size + 1 ≠ g by omega) (j * 6) (.mk k1 o1 t1 v1 s3 A3 c3 xs3)
            have z7 := setSix_after (after_after ar a2r) (show w.heap.size ≤ g by omega) (j * 6) (.mk k1 o1 t1 v1 s3 A3 c3 xs3)
            simp only [setSix, Tx.kind, Tx.op, Tx.ty, Tx.va, Tx.name, Tx.ad, Tx.args, Tx.cap] at z2 z3 z5 z6 z7
            case rel =>
              refine ⟨j + 1, set6 cs (j * 6) (.mk k1 o1 t1 v1 s3 A3 c3 xs3), ys ++ [.mk k1 o1 t1 v1 s3 A3 c3 xs3], by rw [List.length_append, hyl]; rfl, by omega, by go_num, ?_, Lib.hid z1, Lib.hid z2, Lib.hid z5, Lib.hid z6, Lib.hid z3, Lib.hid z4, z7⟩
              exact Lib.hid (by rw [ers_append, HER.out, HRT.out, Tx.ers, Tx.ers, Tx.er, Tx.er, Ex.ren, hs3.out, HE3.out])
            case measure => simp [intOf]; omega
          · obtain rfl : j = n := by omega
            have hys := hyl
            have z0 : wr.cell? ⟨(w.heap.size + 1), 0, none⟩ = some (.int .i64 0) := (HZr.out.cell 0).trans rfl
            have z1 : wr.cell? ⟨(w.heap.size + 1), 1, none⟩ = some (.int .i64 0) := (HZr.out.cell 1).trans rfl
            have z2 : wr.cell? ⟨(w.heap.size + 1), 2, none⟩ = some (.int .i64 0) := (HZr.out.cell 2).trans rfl
            have z3 : wr.cell? ⟨(w.heap.size + 1), 3, none⟩ = some (.int .i64 0) := (HZr.out.cell 3).trans rfl
            have z4 : wr.cell? ⟨(w.heap.size + 1), 4, none⟩ = some (.string ⟨#[]⟩) := (HZr.out.cell 4).trans rfl
            have z5 : wr.cell? ⟨(w.heap.size + 1), 5, none⟩ = some (.slice none 0 0) := (HZr.out.cell 5).trans rfl
            have zf0 := HZr.out.frozen 0
            have zf1 := HZr.out.frozen 1
            have zf2 := HZr.out.frozen 2
            have zf3 := HZr.out.frozen 3
            have zf4 := HZr.out.frozen 4
            have zf5 := HZr.out.frozen 5
            have bf5 := HBr.out.frozen 5
            rw [show List.take j xs = xs by rw [← HXL.out, List.take_length]] at HER
            go_wp2_with fail
            have R9 : Blk (setSix (wr.setCell ⟨w.heap.size, 5, none⟩ (.slice (some ⟨g, 0, none⟩) j j)) (w.heap.size + 1) 0 (.mk k o t v tw (some ⟨g, 0, none⟩) j ys)) (w.heap.size + 1) 24 (set6 #[.int .i64 0, .int .i64 0, .int .i64 0, .int .i64 0, .string ⟨#[]⟩, .slice none 0 0] 0 (.mk k o t v tw (some ⟨g, 0, none⟩) j ys)) := setSix_blk (HZr.out.far (by show w.heap.size + 1 ≠ w.heap.size; omega) _) 0 _
            rw [set6_lit] at R9
            have hk9 : ∀ b_, g ≤ b_ → ((setSix (wr.setCell ⟨w.heap.size, 5, none⟩ (.slice (some ⟨g, 0, none⟩) j j)) (w.heap.size + 1) 0 (.mk k o t v tw (some ⟨g, 0, none⟩) j ys)) : World).heap[b_]? = wr.heap[b_]? := fun b_ hb_ => (setSix_heap _ _ _ _ (by omega)).trans (Below.heap_setCell _ _ _ _ (by show b_ ≠ w.heap.size; omega))
            have hz9 : ((setSix (wr.setCell ⟨w.heap.size, 5, none⟩ (.slice (some ⟨g, 0, none⟩) j j)) (w.heap.size + 1) 0 (.mk k o t v tw (some ⟨g, 0, none⟩) j ys)) : World).heap.size = wr.heap.size := by rw [setSix_size, size_set_]
            have a9 : After w (setSix (wr.setCell ⟨w.heap.size, 5, none⟩ (.slice (some ⟨g, 0, none⟩) j j)) (w.heap.size + 1) 0 (.mk k o t v tw (some ⟨g, 0, none⟩) j ys)) := setSix_after inferInstance (by omega) _ _
            have y0 : (setSix (wr.setCell ⟨w.heap.size, 5, none⟩ (.slice (some ⟨g, 0, none⟩) j j)) (w.heap.size + 1) 0 (.mk k o t v tw (some ⟨g, 0, none⟩) j ys)).cell? ⟨w.heap.size + 1, 0, none⟩ = some (.int .i64 k) := (R9.cell 0).trans rfl
            have y1 : (setSix (wr.setCell ⟨w.heap.size, 5, none⟩ (.slice (some ⟨g, 0, none⟩) j j)) (w.heap.size + 1) 0 (.mk k o t v tw (some ⟨g, 0, none⟩) j ys)).cell? ⟨w.heap.size + 1, 1, none⟩ = some (.int .i64 o) := (R9.cell 1).trans rfl
            have y2 : (setSix (wr.setCell ⟨w.heap.size, 5, none⟩ (.slice (some ⟨g, 0, none⟩) j j)) (w.heap.size + 1) 0 (.mk k o t v tw (some ⟨g, 0, none⟩) j ys)).cell? ⟨w.heap.size + 1, 2, none⟩ = some (.int .i64 t) := (R9.cell 2).trans rfl
            have y3 : (setSix (wr.setCell ⟨w.heap.size, 5, none⟩ (.slice (some ⟨g, 0, none⟩) j j)) (w.heap.size + 1) 0 (.mk k o t v tw (some ⟨g, 0, none⟩) j ys)).cell? ⟨w.heap.size + 1, 3, none⟩ = some (.int .i64 v) := (R9.cell 3).trans rfl
            have y4 : (setSix (wr.setCell ⟨w.heap.size, 5, none⟩ (.slice (some ⟨g, 0, none⟩) j j)) (w.heap.size + 1) 0 (.mk k o t v tw (some ⟨g, 0, none⟩) j ys)).cell? ⟨w.heap.size + 1, 4, none⟩ = some (.string tw) := (R9.cell 4).trans rfl
            have y5 : (setSix (wr.setCell ⟨w.heap.size, 5, none⟩ (.slice (some ⟨g, 0, none⟩) j j)) (w.heap.size + 1) 0 (.mk k o t v tw (some ⟨g, 0, none⟩) j ys)).cell? ⟨w.heap.size + 1, 5, none⟩ = some (.slice (some ⟨g, 0, none⟩) ys.length j) := (R9.cell 5).trans rfl
            have hx9 : ∀ e ∈ ys, RX (setSix (wr.setCell ⟨w.heap.size, 5, none⟩ (.slice (some ⟨g, 0, none⟩) j j)) (w.heap.size + 1) 0 (.mk k o t v tw (some ⟨g, 0, none⟩) j ys)) e := foots_stay HRX.out HFT.out (Nat.le_of_eq hz9.symm) (fun b_ hb_ => hk9 b_ (by omega))
            have hg9 : Blk (setSix (wr.setCell ⟨w.heap.size, 5, none⟩ (.slice (some ⟨g, 0, none⟩) j j)) (w.heap.size + 1) 0 (.mk k o t v tw (some ⟨g, 0, none⟩) j ys)) g 24 cs := (hk9 g (Nat.le_refl _)).trans HGr.out
            simp only [setSix, Tx.kind, Tx.op, Tx.ty, Tx.va, Tx.name, Tx.ad, Tx.args, Tx.cap, Nat.zero_add, hyl] at hg9 a9 y0 y1 y2 y3 y4 y5 hx9
            refine bodyPost_ret (v := .agg #[.int .i64 k, .int .i64 o, .int .i64 t, .int .i64 v, .string tw, .slice (some ⟨g, 0, none⟩) j j]) (by simp [results, Try.results34, go_sem, y0, y1, y2, y3, y4, y5]) rfl ⟨some ⟨g, 0, none⟩, j, ys, by rw [HRN.out, hyl], HER.out, ?_, ?_, a9⟩
            · rw [HRN.out, RX]
              exact ⟨hsl, by omega, by omega, by omega, .inr ⟨g, 0, rfl, hg9.lt, HFL.out.reads hg9 hx9⟩⟩
            · rw [Foot]
              exact ⟨.inr ⟨g, 0, rfl, by omega⟩, HFT.out.mono fun b_ hb_ => by omega⟩
theorem ren_any (fr tw : ByteArray) (hbl : tw.size ≤ 140737488355328) {k o t v : Int} {s : ByteArray} {A : Option Addr} {c : Nat} {xs : List Tx} {w0 : World} (hs : (Tx.mk k o t v s A c xs).size ≤ 1000000) (x : RX w0 (.mk k o t v s A c xs)) (w : World) (aft : After w0 w) :
    Calls Try.prog 34 #[.agg #[.int .i64 k, .int .i64 o, .int .i64 t, .int .i64 v, .string s, .slice A xs.length c], .string fr, .string tw] w fun e w' => RenP fr tw k o t v s xs w e w' := ren_n fr tw hbl 1000000 (Nat.le_refl _) _ _ _ _ _ _ _ _ _ hs x w aft
end Go.Proofs.Ytfoddappedcplaa
