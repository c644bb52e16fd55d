/-
  Contracts: Rename of the program and of the reference.
-/
import Derived.Test.YtfoddappedcplaaERen
set_option linter.unusedVariables false
set_option linter.unusedSimpArgs false
namespace Go.Proofs.Ytfoddappedcplaa
open Go.RowKit Go.BigFrame


set_option maxRecDepth 100000 in
set_option maxHeartbeats 3200000 in
theorem rren_n (fr tw : ByteArray) (hbl : tw.size ≤ 140737488355328) (N : Nat) (hN : N ≤ 1000000) : ∀ (k o t v : Int) (s : ByteArray) (A : Option Addr) (c : Nat) (xs : List Tx) (w0 : World), (Tx.mk k o t v s A c xs).size ≤ N → RX w0 (.mk k o t v s A c xs) → ∀ w : World, After w0 w →
    Calls Try.prog 35 #[.agg #[.int .i64 k, .int .i64 o, .int .i64 t, .int .i64 v, .string s, .slice A xs.length c], .string fr, .string tw] w fun e w' => RenP fr tw k o t v s xs w e w' := by
  induction N with
  | zero =>
    intro k o t v s A c xs w0 hs
    simp [Tx.size] at hs
  | succ N ih =>
    intro k o t v s A c xs w0 hs x w aft
    replace x := Lib.hid x
    replace ih := Lib.hid (ih (by omega))
    rw [Tx.size] at hs
    have hbd := x.out.bounds
    simp only [Tx.args, Tx.cap, Tx.name] at hbd
    obtain ⟨hb1_, hb2_, hb3_, hb4_⟩ := hbd
    have hxl : xs.length ≤ 1000000 := by have := Tx.args_length_le (.mk k o t v s A c xs); rw [Tx.size] at this; simp only [Tx.args] at this; omega
    obtain ⟨i0, hi0, hz0, hz1, hz2⟩ := info_parts exprInfo
    have HV : Hid (∀ U : World, Calls Try.prog 55 #[.agg #[.int .i64 k, .int .i64 o, .int .i64 t, .int .i64 v, .string s, .slice A xs.length c]] U fun e w' => e = .returned (.bool (varB k)) ∧ After U w') := Lib.hid fun U => rvariable_any U
    obtain ⟨s', hs'⟩ : ∃ s', renN fr tw k s = s' := ⟨_, rfl⟩
    have hsl : s'.size ≤ 140737488355328 := by rw [← hs']; unfold renN; split <;> assumption
    unfold renN at hs'
    obtain ⟨vb, hvb⟩ : ∃ vb, varB k = vb := ⟨_, rfl⟩
    obtain ⟨nb, hnb⟩ : ∃ nb, (s.toList == fr.toList) = nb := ⟨_, rfl⟩
    rw [hvb] at HV
    rw [hvb, hnb] at hs'
    have HRN : Hid (renN fr tw k s = s') := Lib.hid (by unfold renN; rw [hvb, hnb]; exact hs')
    clear hvb
    go_enter Try.func35, Try.ntmps35
    go_wp2_with fail
    refine (HV.out _).mono ?_
    rintro _ V ⟨rfl, aV⟩
    have HBV : Hid (Blk V w.heap.size 24 #[.int .i64 k, .int .i64 o, .int .i64 t, .int .i64 v, .string s, .slice A xs.length c]) := Lib.hid (((Blk.new w 24 #[.int .i64 k, .int .i64 o, .int .i64 t, .int .i64 v, .string s, .slice A xs.length c]).alloc _).after (k := aV))
    have HZV : Hid (Blk V (w.heap.size + 1) 24 #[.int .i64 0, .int .i64 0, .int .i64 0, .int .i64 0, .string ⟨#[]⟩, .slice none 0 0]) := Lib.hid ((Blk.at_' (size_alloc_ _ _) 24 #[.int .i64 0, .int .i64 0, .int .i64 0, .int .i64 0, .string ⟨#[]⟩, .slice none 0 0]).after (k := aV))
    have awV : After w V := after_after inferInstance aV
    clear HV aV
    have lB_V : Le (w.heap.size + 1) V := HBV.out.is_le
    have lZ_V : Le (w.heap.size + 1 + 1) V := HZV.out.is_le
    have h0 : V.cell? ⟨w.heap.size, 0, none⟩ = some (.int .i64 k) := (HBV.out.cell 0).trans rfl
    have h1 : V.cell? ⟨w.heap.size, 1, none⟩ = some (.int .i64 o) := (HBV.out.cell 1).trans rfl
    have h2 : V.cell? ⟨w.heap.size, 2, none⟩ = some (.int .i64 t) := (HBV.out.cell 2).trans rfl
    have h3 : V.cell? ⟨w.heap.size, 3, none⟩ = some (.int .i64 v) := (HBV.out.cell 3).trans rfl
    have h4 : V.cell? ⟨w.heap.size, 4, none⟩ = some (.string s) := (HBV.out.cell 4).trans rfl
    have h5 : V.cell? ⟨w.heap.size, 5, none⟩ = some (.slice A xs.length c) := (HBV.out.cell 5).trans rfl
    have hf4 := HBV.out.frozen 4
    cases vb with
    | false =>
      obtain ⟨V1, hV1⟩ : ∃ V1, V = V1 := ⟨_, rfl⟩
      have hss : s' = s := by simpa using hs'.symm
      have HB1 : Hid (Blk V w.heap.size 24 #[.int .i64 k, .int .i64 o, .int .i64 t, .int .i64 v, .string s', .slice A xs.length c]) := Lib.hid (by rw [hss]; exact HBV.out)
      have HZ1 := HZV
      have aw1 := awV
      clear hs' hV1 V1 hss
      obtain ⟨n, hn⟩ : ∃ n, xs.length = n := ⟨_, rfl⟩
      have HXL := Lib.hid hn
      have hnb : n ≤ 1000000 := by omega
      go_wp2_with fail
      go_loopw [7, 8] (fun q i wr => ∃ (j : Nat) (rj : Value) (ys : List Tx), ys.length = j ∧ j ≤ n ∧ i = .int .i64 (j : Nat) ∧ rj = q ∧ Hid (Tx.ers ys = Ex.rens fr tw (Tx.ers (xs.take j))) ∧ Hid (wr.ownsRow (w.heap.size + 2) 24 6 rj ys.length (flat ys)) ∧ Hid (Blk wr w.heap.size 24 #[.int .i64 k, .int .i64 o, .int .i64 t, .int .i64 v, .string s', .slice A xs.length c]) ∧ Hid (Blk wr (w.heap.size + 1) 24 #[.int .i64 0, .int .i64 0, .int .i64 0, .int .i64 0, .string ⟨#[]⟩, .slice none 0 0]) ∧ Hid (∀ e ∈ ys, RX wr e) ∧ Hid (Foots (fun b_ => w.heap.size + 2 ≤ b_ ∧ b_ < wr.heap.size ∧ some b_ ≠ rj.ownBlock) ys) ∧ After w wr) (fun _ i _ => n - (intOf i).toNat)
      case atStart => exact ⟨0, .slice none 0 0, [], rfl, by omega, rfl, rfl, Lib.hid (by simp [Tx.ers, Ex.rens]), Lib.hid (World.ownsRow_nil _ _ _ _), HB1, HZ1, Lib.hid (by simp), Lib.hid (by rw [Foots]; trivial), aw1⟩
      case round =>
        obtain ⟨j, rj, ys, hyl, hj, rfl, rfl, HER, HOW, HBr, HZr, HRX, HFT, ar⟩ := hrel
        have lB_wr : Le (w.heap.size + 1) wr := HBr.out.is_le
        have lZ_wr : Le (w.heap.size + 1 + 1) wr := HZr.out.is_le
        have hBw : w.heap.size + 2 ≤ wr.heap.size := lZ_wr.le
        have r0 : wr.cell? ⟨w.heap.size, 0, none⟩ = some (.int .i64 k) := (HBr.out.cell 0).trans rfl
        have r1 : wr.cell? ⟨w.heap.size, 1, none⟩ = some (.int .i64 o) := (HBr.out.cell 1).trans rfl
        have r2 : wr.cell? ⟨w.heap.size, 2, none⟩ = some (.int .i64 t) := (HBr.out.cell 2).trans rfl
        have r3 : wr.cell? ⟨w.heap.size, 3, none⟩ = some (.int .i64 v) := (HBr.out.cell 3).trans rfl
        have r4 : wr.cell? ⟨w.heap.size, 4, none⟩ = some (.string s') := (HBr.out.cell 4).trans rfl
        have r5 : wr.cell? ⟨w.heap.size, 5, none⟩ = some (.slice A xs.length c) := (HBr.out.cell 5).trans rfl
        rw [HXL.out] at r5
        have a0r : After w0 wr := after_after aft ar
        by_cases hlt_ : j < n
        · have hltI : (j : Int) < (n : Int) := by omega
          have hlt : j < xs.length := by rw [HXL.out]; exact hlt_
          obtain ⟨b, p, k1, o1, t1, v1, s1, A1, c1, xs1, rfl, hb1, HX1, HR1, e0, e1, e2, e3, e4, e5⟩ := (x.out.here wr).part (i := j) hlt
          have x1_ := Lib.hid (x.out.all (.mk k1 o1 t1 v1 s1 A1 c1 xs1) (List.mem_of_getElem? HX1.out))
          have hme := Tx.sizes_mem HX1.out
          have HC : Hid (∀ U, After wr U → Calls Try.prog 35 #[.agg #[.int .i64 k1, .int .i64 o1, .int .i64 t1, .int .i64 v1, .string s1, .slice A1 xs1.length c1], .string fr, .string tw] U fun e w' => RenP fr tw k1 o1 t1 v1 s1 xs1 U e w') := Lib.hid fun U hU => ih.out _ _ _ _ _ _ _ _ w0 (by omega) x1_.out U (after_after a0r hU)
          have HRT := Lib.hid (rens_take (a := fr) (b := tw) HX1.out)
          clear hme
          go_wp2_with fail
          refine (HC.out _ inferInstance).mono ?_
          rintro e w2 ⟨A3, c3, xs3, rfl, HE3, HR3, HF3, a3⟩
          replace HE3 := Lib.hid HE3
          replace HR3 := Lib.hid HR3
          replace HF3 := Lib.hid HF3
          obtain ⟨s3, hs3⟩ : ∃ s3, renN fr tw k1 s1 = s3 := ⟨_, rfl⟩
          rw [hs3] at HR3 HF3 ⊢
          replace hs3 := Lib.hid hs3
          skip
          have HB3 := Lib.hid (HBr.out.after (k := a3))
          have HZ3 := Lib.hid (HZr.out.after (k := a3))
          have lB_2 : Le (w.heap.size + 1) w2 := HB3.out.is_le
          have lZ_2 : Le (w.heap.size + 1 + 1) w2 := HZ3.out.is_le
          have how2 := own_after HOW.out a3
          have hne1 : some w.heap.size ≠ rj.ownBlock := own_ne HOW.out (by omega)
          have hne2 : some (w.heap.size + 1) ≠ rj.ownBlock := own_ne HOW.out (by omega)
          have h2s := a3.below.size
          clear e0 e1 e2 e3 e4 e5
          go_wp2_with (at_builtin; refine wpList_append_any (w2.alloc (.cells #[.int .i64 k1, .int .i64 o1, .int .i64 t1, .int .i64 v1, .string s3, .slice A3 xs3.length c3] 24)) rfl (.tmp 26) (.tmp 35) 22 rfl (w.heap.size + 2) 24 i0 _ 6 72 Try.underlying22 hi0 hz0 hz1 hz2 rfl (by decide) rj ys.length (flat ys) rfl (own_after how2 (w' := w2.alloc (.cells #[.int .i64 k1, .int .i64 o1, .int .i64 t1, .int .i64 v1, .string s3, .slice A3 xs3.length c3] 24)) inferInstance) _ _ 1 1 (Tx.mk k1 o1 t1 v1 s3 A3 c3 xs3).cellsL rfl (cells_flat (w := w2) rfl #[.int .i64 k1, .int .i64 o1, .int .i64 t1, .int .i64 v1, .string s3, .slice A3 xs3.length c3] 24 _ rfl 1 6 rfl) (by intro u hu; simp only [Tx.cellsL, List.mem_cons, List.not_mem_nil, or_false] at hu; rcases hu with rfl | rfl | rfl | rfl | rfl | rfl <;> rfl) (by unfold maxLen; omega) (by omega) (by rw [size_alloc_]; omega) ?_; intro r4 W4 own4 hg4 hnx4; have hr4 := app_round (y := .mk k1 o1 t1 v1 s3 A3 c3 xs3) HOW.out hBw a3 HRX.out HFT.out HR3.out HF3.out hg4 hnx4; have HB4 := Lib.hid ((HB3.out.alloc _).grown hg4 hne1); have HZ4 := Lib.hid ((HZ3.out.alloc _).grown hg4 hne2); have a4 : After w W4 := @after_grown_ w (w2.alloc (.cells #[.int .i64 k1, .int .i64 o1, .int .i64 t1, .int .i64 v1, .string s3, .slice A3 xs3.length c3] 24)) W4 (after_after (after_after ar a3) inferInstance) (w.heap.size + 2) 24 6 _ rj _ (own_after how2 inferInstance) (by omega) hg4; have own5 := Lib.hid own4; have hr5 := Lib.hid hr4; clear own4 hg4 hnx4 hr4)
          go_roundw
          case rel =>
            refine ⟨j + 1, r4, ys ++ [.mk k1 o1 t1 v1 s3 A3 c3 xs3], by rw [List.length_append, hyl]; rfl, by omega, by go_num, rfl, ?_, ?_, HB4, HZ4, Lib.hid hr5.out.1, Lib.hid hr5.out.2, a4⟩
            · exact Lib.hid (by rw [ers_append, HER.out, HRT.out, Tx.ers, Tx.ers, Tx.er, Tx.er, Ex.ren, hs3.out, HE3.out])
            · exact Lib.hid (by have h_ := own5.out; rw [List.length_append, List.length_singleton, flat_append, flat_one]; exact h_)
          case measure => simp [intOf]; omega
        · obtain rfl : j = n := by omega
          obtain ⟨A5, c5, hrj, hx5⟩ := rowX_of_own HOW.out (by omega) HRX.out
          subst hrj
          replace hx5 := Lib.hid hx5
          have hft5 := Lib.hid (row_foot (S := fun b_ => w.heap.size + 2 ≤ b_) HOW.out (fun g hg => hg) (HFT.out.mono fun b_ hb_ => hb_.1))
          skip
          have z0 : wr.cell? ⟨(w.heap.size + 1), 0, none⟩ = some (.int .i64 0) := (HZr.out.cell 0).trans rfl
          have z1 : wr.cell? ⟨(w.heap.size + 1), 1, none⟩ = some (.int .i64 0) := (HZr.out.cell 1).trans rfl
          have z2 : wr.cell? ⟨(w.heap.size + 1), 2, none⟩ = some (.int .i64 0) := (HZr.out.cell 2).trans rfl
          have z3 : wr.cell? ⟨(w.heap.size + 1), 3, none⟩ = some (.int .i64 0) := (HZr.out.cell 3).trans rfl
          have z4 : wr.cell? ⟨(w.heap.size + 1), 4, none⟩ = some (.string ⟨#[]⟩) := (HZr.out.cell 4).trans rfl
          have z5 : wr.cell? ⟨(w.heap.size + 1), 5, none⟩ = some (.slice none 0 0) := (HZr.out.cell 5).trans rfl
          have zf0 := HZr.out.frozen 0
          have zf1 := HZr.out.frozen 1
          have zf2 := HZr.out.frozen 2
          have zf3 := HZr.out.frozen 3
          have zf4 := HZr.out.frozen 4
          have zf5 := HZr.out.frozen 5
          have bf5 := HBr.out.frozen 5
          rw [show List.take j xs = xs by rw [← HXL.out, List.take_length]] at HER
          go_wp2_with fail
          have R9 : Blk (setSix (wr.setCell ⟨w.heap.size, 5, none⟩ (.slice A5 j c5)) (w.heap.size + 1) 0 (.mk k o t v s' A5 c5 ys)) (w.heap.size + 1) 24 (set6 #[.int .i64 0, .int .i64 0, .int .i64 0, .int .i64 0, .string ⟨#[]⟩, .slice none 0 0] 0 (.mk k o t v s' A5 c5 ys)) := setSix_blk (HZr.out.far (by show w.heap.size + 1 ≠ w.heap.size; omega) _) 0 _
          rw [set6_lit] at R9
          have hk9 : ∀ b_, w.heap.size + 2 ≤ b_ → ((setSix (wr.setCell ⟨w.heap.size, 5, none⟩ (.slice A5 j c5)) (w.heap.size + 1) 0 (.mk k o t v s' A5 c5 ys)) : World).heap[b_]? = wr.heap[b_]? := fun b_ hb_ => (setSix_heap _ _ _ _ (by omega)).trans (Below.heap_setCell _ _ _ _ (by show b_ ≠ w.heap.size; omega))
          have hz9 : ((setSix (wr.setCell ⟨w.heap.size, 5, none⟩ (.slice A5 j c5)) (w.heap.size + 1) 0 (.mk k o t v s' A5 c5 ys)) : World).heap.size = wr.heap.size := by rw [setSix_size, size_set_]
          have a9 : After w (setSix (wr.setCell ⟨w.heap.size, 5, none⟩ (.slice A5 j c5)) (w.heap.size + 1) 0 (.mk k o t v s' A5 c5 ys)) := setSix_after inferInstance (by omega) _ _
          have y0 : (setSix (wr.setCell ⟨w.heap.size, 5, none⟩ (.slice A5 j c5)) (w.heap.size + 1) 0 (.mk k o t v s' A5 c5 ys)).cell? ⟨w.heap.size + 1, 0, none⟩ = some (.int .i64 k) := (R9.cell 0).trans rfl
          have y1 : (setSix (wr.setCell ⟨w.heap.size, 5, none⟩ (.slice A5 j c5)) (w.heap.size + 1) 0 (.mk k o t v s' A5 c5 ys)).cell? ⟨w.heap.size + 1, 1, none⟩ = some (.int .i64 o) := (R9.cell 1).trans rfl
          have y2 : (setSix (wr.setCell ⟨w.heap.size, 5, none⟩ (.slice A5 j c5)) (w.heap.size + 1) 0 (.mk k o t v s' A5 c5 ys)).cell? ⟨w.heap.size + 1, 2, none⟩ = some (.int .i64 t) := (R9.cell 2).trans rfl
          have y3 : (setSix (wr.setCell ⟨w.heap.size, 5, none⟩ (.slice A5 j c5)) (w.heap.size + 1) 0 (.mk k o t v s' A5 c5 ys)).cell? ⟨w.heap.size + 1, 3, none⟩ = some (.int .i64 v) := (R9.cell 3).trans rfl
          have y4 : (setSix (wr.setCell ⟨w.heap.size, 5, none⟩ (.slice A5 j c5)) (w.heap.size + 1) 0 (.mk k o t v s' A5 c5 ys)).cell? ⟨w.heap.size + 1, 4, none⟩ = some (.string s') := (R9.cell 4).trans rfl
          have y5 : (setSix (wr.setCell ⟨w.heap.size, 5, none⟩ (.slice A5 j c5)) (w.heap.size + 1) 0 (.mk k o t v s' A5 c5 ys)).cell? ⟨w.heap.size + 1, 5, none⟩ = some (.slice A5 ys.length c5) := (R9.cell 5).trans rfl
          have hx9 : RX (setSix (wr.setCell ⟨w.heap.size, 5, none⟩ (.slice A5 j c5)) (w.heap.size + 1) 0 (.mk k o t v s' A5 c5 ys)) (rowX A5 c5 ys) := RX.stay (fun b_ hb_ _ => hk9 b_ hb_) (Nat.le_of_eq hz9.symm) hx5.out hft5.out
          simp only [setSix, Tx.kind, Tx.op, Tx.ty, Tx.va, Tx.name, Tx.ad, Tx.args, Tx.cap, Nat.zero_add, hyl] at a9 y0 y1 y2 y3 y4 y5 hx9
          refine bodyPost_ret (v := .agg #[.int .i64 k, .int .i64 o, .int .i64 t, .int .i64 v, .string s', .slice A5 j c5]) (by simp [results, Try.results35, go_sem, y0, y1, y2, y3, y4, y5]) rfl ⟨A5, c5, ys, by rw [HRN.out, hyl], HER.out, ?_, ?_, a9⟩
          · unfold rowX at hx9; rw [RX] at hx9; rw [HRN.out, RX]; exact ⟨hsl, hx9.2⟩
          · have h_ := hft5.out; unfold rowX at h_; rw [Foot] at h_; rw [Foot]
            exact ⟨h_.1.imp id fun ⟨b_, o_, q1, q2⟩ => ⟨b_, o_, q1, by omega⟩, h_.2.mono fun b_ hb_ => by omega⟩
    | true =>
      cases nb with
      | false =>
        have hss : s' = s := by simpa using hs'.symm
        have HB1 : Hid (Blk V w.heap.size 24 #[.int .i64 k, .int .i64 o, .int .i64 t, .int .i64 v, .string s', .slice A xs.length c]) := Lib.hid (by rw [hss]; exact HBV.out)
        have HZ1 := HZV
        have aw1 := awV
        clear hs' hss
        obtain ⟨n, hn⟩ : ∃ n, xs.length = n := ⟨_, rfl⟩
        have HXL := Lib.hid hn
        have hnb : n ≤ 1000000 := by omega
        go_wp2_with fail
        go_loopw [7, 8] (fun q i wr => ∃ (j : Nat) (rj : Value) (ys : List Tx), ys.length = j ∧ j ≤ n ∧ i = .int .i64 (j : Nat) ∧ rj = q ∧ Hid (Tx.ers ys = Ex.rens fr tw (Tx.ers (xs.take j))) ∧ Hid (wr.ownsRow (w.heap.size + 2) 24 6 rj ys.length (flat ys)) ∧ Hid (Blk wr w.heap.size 24 #[.int .i64 k, .int .i64 o, .int .i64 t, .int .i64 v, .string s', .slice A xs.length c]) ∧ Hid (Blk wr (w.heap.size + 1) 24 #[.int .i64 0, .int .i64 0, .int .i64 0, .int .i64 0, .string ⟨#[]⟩, .slice none 0 0]) ∧ Hid (∀ e ∈ ys, RX wr e) ∧ Hid (Foots (fun b_ => w.heap.size + 2 ≤ b_ ∧ b_ < wr.heap.size ∧ some b_ ≠ rj.ownBlock) ys) ∧ After w wr) (fun _ i _ => n - (intOf i).toNat)
        case atStart => exact ⟨0, .slice none 0 0, [], rfl, by omega, rfl, rfl, Lib.hid (by simp [Tx.ers, Ex.rens]), Lib.hid (World.ownsRow_nil _ _ _ _), HB1, HZ1, Lib.hid (by simp), Lib.hid (by rw [Foots]; trivial), aw1⟩
        case round =>
          obtain ⟨j, rj, ys, hyl, hj, rfl, rfl, HER, HOW, HBr, HZr, HRX, HFT, ar⟩ := hrel
          have lB_wr : Le (w.heap.size + 1) wr := HBr.out.is_le
          have lZ_wr : Le (w.heap.size + 1 + 1) wr := HZr.out.is_le
          have hBw : w.heap.size + 2 ≤ wr.heap.size := lZ_wr.le
          have r0 : wr.cell? ⟨w.heap.size, 0, none⟩ = some (.int .i64 k) := (HBr.out.cell 0).trans rfl
          have r1 : wr.cell? ⟨w.heap.size, 1, none⟩ = some (.int .i64 o) := (HBr.out.cell 1).trans rfl
          have r2 : wr.cell? ⟨w.heap.size, 2, none⟩ = some (.int .i64 t) := (HBr.out.cell 2).trans rfl
          have r3 : wr.cell? ⟨w.heap.size, 3, none⟩ = some (.int .i64 v) := (HBr.out.cell 3).trans rfl
          have r4 : wr.cell? ⟨w.heap.size, 4, none⟩ = some (.string s') := (HBr.out.cell 4).trans rfl
          have r5 : wr.cell? ⟨w.heap.size, 5, none⟩ = some (.slice A xs.length c) := (HBr.out.cell 5).trans rfl
          rw [HXL.out] at r5
          have a0r : After w0 wr := after_after aft ar
          by_cases hlt_ : j < n
          · have hltI : (j : Int) < (n : Int) := by omega
            have hlt : j < xs.length := by rw [HXL.out]; exact hlt_
            obtain ⟨b, p, k1, o1, t1, v1, s1, A1, c1, xs1, rfl, hb1, HX1, HR1, e0, e1, e2, e3, e4, e5⟩ := (x.out.here wr).part (i := j) hlt
            have x1_ := Lib.hid (x.out.all (.mk k1 o1 t1 v1 s1 A1 c1 xs1) (List.mem_of_getElem? HX1.out))
            have hme := Tx.sizes_mem HX1.out
            have HC : Hid (∀ U, After wr U → Calls Try.prog 35 #[.agg #[.int .i64 k1, .int .i64 o1, .int .i64 t1, .int .i64 v1, .string s1, .slice A1 xs1.length c1], .string fr, .string tw] U fun e w' => RenP fr tw k1 o1 t1 v1 s1 xs1 U e w') := Lib.hid fun U hU => ih.out _ _ _ _ _ _ _ _ w0 (by omega) x1_.out U (after_after a0r hU)
            have HRT := Lib.hid (rens_take (a := fr) (b := tw) HX1.out)
            clear hme
            go_wp2_with fail
            refine (HC.out _ inferInstance).mono ?_
            rintro e w2 ⟨A3, c3, xs3, rfl, HE3, HR3, HF3, a3⟩
            replace HE3 := Lib.hid HE3
            replace HR3 := Lib.hid HR3
            replace HF3 := Lib.hid HF3
            obtain ⟨s3, hs3⟩ : ∃ s3, renN fr tw k1 s1 = s3 := ⟨_, rfl⟩
            rw [hs3] at HR3 HF3 ⊢
            replace hs3 := Lib.hid hs3
            skip
            have HB3 := Lib.hid (HBr.out.after (k := a3))
            have HZ3 := Lib.hid (HZr.out.after (k := a3))
            have lB_2 : Le (w.heap.size + 1) w2 := HB3.out.is_le
            have lZ_2 : Le (w.heap.size + 1 + 1) w2 := HZ3.out.is_le
            have how2 := own_after HOW.out a3
            have hne1 : some w.heap.size ≠ rj.ownBlock := own_ne HOW.out (by omega)
            have hne2 : some (w.heap.size + 1) ≠ rj.ownBlock := own_ne HOW.out (by omega)
            have h2s := a3.below.size
            clear e0 e1 e2 e3 e4 e5
            go_wp2_with (at_builtin; refine wpList_append_any (w2.alloc (.cells #[.int .i64 k1, .int .i64 o1, .int .i64 t1, .int .i64 v1, .string s3, .slice A3 xs3.length c3] 24)) rfl (.tmp 26) (.tmp 35) 22 rfl (w.heap.size + 2) 24 i0 _ 6 72 Try.underlying22 hi0 hz0 hz1 hz2 rfl (by decide) rj ys.length (flat ys) rfl (own_after how2 (w' := w2.alloc (.cells #[.int .i64 k1, .int .i64 o1, .int .i64 t1, .int .i64 v1, .string s3, .slice A3 xs3.length c3] 24)) inferInstance) _ _ 1 1 (Tx.mk k1 o1 t1 v1 s3 A3 c3 xs3).cellsL rfl (cells_flat (w := w2) rfl #[.int .i64 k1, .int .i64 o1, .int .i64 t1, .int .i64 v1, .string s3, .slice A3 xs3.length c3] 24 _ rfl 1 6 rfl) (by intro u hu; simp only [Tx.cellsL, List.mem_cons, List.not_mem_nil, or_false] at hu; rcases hu with rfl | rfl | rfl | rfl | rfl | rfl <;> rfl) (by unfold maxLen; omega) (by omega) (by rw [size_alloc_]; omega) ?_; intro r4 W4 own4 hg4 hnx4; have hr4 := app_round (y := .mk k1 o1 t1 v1 s3 A3 c3 xs3) HOW.out hBw a3 HRX.out HFT.out HR3.out HF3.out hg4 hnx4; have HB4 := Lib.hid ((HB3.out.alloc _).grown hg4 hne1); have HZ4 := Lib.hid ((HZ3.out.alloc _).grown hg4 hne2); have a4 : After w W4 := @after_grown_ w (w2.alloc (.cells #[.int .i64 k1, .int .i64 o1, .int .i64 t1, .int .i64 v1, .string s3, .slice A3 xs3.length c3] 24)) W4 (after_after (after_after ar a3) inferInstance) (w.heap.size + 2) 24 6 _ rj _ (own_after how2 inferInstance) (by omega) hg4; have own5 := Lib.hid own4; have hr5 := Lib.hid hr4; clear own4 hg4 hnx4 hr4)
            go_roundw
            case rel =>
              refine ⟨j + 1, r4, ys ++ [.mk k1 o1 t1 v1 s3 A3 c3 xs3], by rw [List.length_append, hyl]; rfl, by omega, by go_num, rfl, ?_, ?_, HB4, HZ4, Lib.hid hr5.out.1, Lib.hid hr5.out.2, a4⟩
              · exact Lib.hid (by rw [ers_append, HER.out, HRT.out, Tx.ers, Tx.ers, Tx.er, Tx.er, Ex.ren, hs3.out, HE3.out])
              · exact Lib.hid (by have h_ := own5.out; rw [List.length_append, List.length_singleton, flat_append, flat_one]; exact h_)
            case measure => simp [intOf]; omega
          · obtain rfl : j = n := by omega
            obtain ⟨A5, c5, hrj, hx5⟩ := rowX_of_own HOW.out (by omega) HRX.out
            subst hrj
            replace hx5 := Lib.hid hx5
            have hft5 := Lib.hid (row_foot (S := fun b_ => w.heap.size + 2 ≤ b_) HOW.out (fun g hg => hg) (HFT.out.mono fun b_ hb_ => hb_.1))
            skip
            have z0 : wr.cell? ⟨(w.heap.size + 1), 0, none⟩ = some (.int .i64 0) := (HZr.out.cell 0).trans rfl
            have z1 : wr.cell? ⟨(w.heap.size + 1), 1, none⟩ = some (.int .i64 0) := (HZr.out.cell 1).trans rfl
            have z2 : wr.cell? ⟨(w.heap.size + 1), 2, none⟩ = some (.int .i64 0) := (HZr.out.cell 2).trans rfl
            have z3 : wr.cell? ⟨(w.heap.size + 1), 3, none⟩ = some (.int .i64 0) := (HZr.out.cell 3).trans rfl
            have z4 : wr.cell? ⟨(w.heap.size + 1), 4, none⟩ = some (.string ⟨#[]⟩) := (HZr.out.cell 4).trans rfl
            have z5 : wr.cell? ⟨(w.heap.size + 1), 5, none⟩ = some (.slice none 0 0) := (HZr.out.cell 5).trans rfl
            have zf0 := HZr.out.frozen 0
            have zf1 := HZr.out.frozen 1
            have zf2 := HZr.out.frozen 2
            have zf3 := HZr.out.frozen 3
            have zf4 := HZr.out.frozen 4
            have zf5 := HZr.out.frozen 5
            have bf5 := HBr.out.frozen 5
            rw [show List.take j xs = xs by rw [← HXL.out, List.take_length]] at HER
            go_wp2_with fail
            have R9 : Blk (setSix (wr.setCell ⟨w.heap.size, 5, none⟩ (.slice A5 j c5)) (w.heap.size + 1) 0 (.mk k o t v s' A5 c5 ys)) (w.heap.size + 1) 24 (set6 #[.int .i64 0, .int .i64 0, .int .i64 0, .int .i64 0, .string ⟨#[]⟩, .slice none 0 0] 0 (.mk k o t v s' A5 c5 ys)) := setSix_blk (HZr.out.far (by show w.heap.size + 1 ≠ w.heap.size; omega) _) 0 _
            rw [set6_lit] at R9
            have hk9 : ∀ b_, w.heap.size + 2 ≤ b_ → ((setSix (wr.setCell ⟨w.heap.size, 5, none⟩ (.slice A5 j c5)) (w.heap.size + 1) 0 (.mk k o t v s' A5 c5 ys)) : World).heap[b_]? = wr.heap[b_]? := fun b_ hb_ => (setSix_heap _ _ _ _ (by omega)).trans (Below.heap_setCell _ _ _ _ (by show b_ ≠ w.heap.size; omega))
            have hz9 : ((setSix (wr.setCell ⟨w.heap.size, 5, none⟩ (.slice A5 j c5)) (w.heap.size + 1) 0 (.mk k o t v s' A5 c5 ys)) : World).heap.size = wr.heap.size := by rw [setSix_size, size_set_]
            have a9 : After w (setSix (wr.setCell ⟨w.heap.size, 5, none⟩ (.slice A5 j c5)) (w.heap.size + 1) 0 (.mk k o t v s' A5 c5 ys)) := setSix_after inferInstance (by omega) _ _
            have y0 : (setSix (wr.setCell ⟨w.heap.size, 5, none⟩ (.slice A5 j c5)) (w.heap.size + 1) 0 (.mk k o t v s' A5 c5 ys)).cell? ⟨w.heap.size + 1, 0, none⟩ = some (.int .i64 k) := (R9.cell 0).trans rfl
            have y1 : (setSix (wr.setCell ⟨w.heap.size, 5, none⟩ (.slice A5 j c5)) (w.heap.size + 1) 0 (.mk k o t v s' A5 c5 ys)).cell? ⟨w.heap.size + 1, 1, none⟩ = some (.int .i64 o) := (R9.cell 1).trans rfl
            have y2 : (setSix (wr.setCell ⟨w.heap.size, 5, none⟩ (.slice A5 j c5)) (w.heap.size + 1) 0 (.mk k o t v s' A5 c5 ys)).cell? ⟨w.heap.size + 1, 2, none⟩ = some (.int .i64 t) := (R9.cell 2).trans rfl
            have y3 : (setSix (wr.setCell ⟨w.heap.size, 5, none⟩ (.slice A5 j c5)) (w.heap.size + 1) 0 (.mk k o t v s' A5 c5 ys)).cell? ⟨w.heap.size + 1, 3, none⟩ = some (.int .i64 v) := (R9.cell 3).trans rfl
            have y4 : (setSix (wr.setCell ⟨w.heap.size, 5, none⟩ (.slice A5 j c5)) (w.heap.size + 1) 0 (.mk k o t v s' A5 c5 ys)).cell? ⟨w.heap.size + 1, 4, none⟩ = some (.string s') := (R9.cell 4).trans rfl
            have y5 : (setSix (wr.setCell ⟨w.heap.size, 5, none⟩ (.slice A5 j c5)) (w.heap.size + 1) 0 (.mk k o t v s' A5 c5 ys)).cell? ⟨w.heap.size + 1, 5, none⟩ = some (.slice A5 ys.length c5) := (R9.cell 5).trans rfl
            have hx9 : RX (setSix (wr.setCell ⟨w.heap.size, 5, none⟩ (.slice A5 j c5)) (w.heap.size + 1) 0 (.mk k o t v s' A5 c5 ys)) (rowX A5 c5 ys) := RX.stay (fun b_ hb_ _ => hk9 b_ hb_) (Nat.le_of_eq hz9.symm) hx5.out hft5.out
            simp only [setSix, Tx.kind, Tx.op, Tx.ty, Tx.va, Tx.name, Tx.ad, Tx.args, Tx.cap, Nat.zero_add, hyl] at a9 y0 y1 y2 y3 y4 y5 hx9
            refine bodyPost_ret (v := .agg #[.int .i64 k, .int .i64 o, .int .i64 t, .int .i64 v, .string s', .slice A5 j c5]) (by simp [results, Try.results35, go_sem, y0, y1, y2, y3, y4, y5]) rfl ⟨A5, c5, ys, by rw [HRN.out, hyl], HER.out, ?_, ?_, a9⟩
            · unfold rowX at hx9; rw [RX] at hx9; rw [HRN.out, RX]; exact ⟨hsl, hx9.2⟩
            · have h_ := hft5.out; unfold rowX at h_; rw [Foot] at h_; rw [Foot]
              exact ⟨h_.1.imp id fun ⟨b_, o_, q1, q2⟩ => ⟨b_, o_, q1, by omega⟩, h_.2.mono fun b_ hb_ => by omega⟩
      | true =>
        have hss : tw = s' := by simpa using hs'
        subst hss
        have HB1 : Hid (Blk (V.setCell ⟨w.heap.size, 4, none⟩ (.string tw)) w.heap.size 24 #[.int .i64 k, .int .i64 o, .int .i64 t, .int .i64 v, .string tw, .slice A xs.length c]) := Lib.hid (HBV.out.set_ 4 (.string tw))
        have HZ1 : Hid (Blk (V.setCell ⟨w.heap.size, 4, none⟩ (.string tw)) (w.heap.size + 1) 24 #[.int .i64 0, .int .i64 0, .int .i64 0, .int .i64 0, .string ⟨#[]⟩, .slice none 0 0]) := Lib.hid (HZV.out.far (by show w.heap.size + 1 ≠ w.heap.size; omega) _)
        have aw1 : After w (V.setCell ⟨w.heap.size, 4, none⟩ (.string tw)) := inferInstance
        clear hs'
        obtain ⟨n, hn⟩ : ∃ n, xs.length = n := ⟨_, rfl⟩
        have HXL := Lib.hid hn
        have hnb : n ≤ 1000000 := by omega
        go_wp2_with fail
        go_loopw [7, 8] (fun q i wr => ∃ (j : Nat) (rj : Value) (ys : List Tx), ys.length = j ∧ j ≤ n ∧ i = .int .i64 (j : Nat) ∧ rj = q ∧ Hid (Tx.ers ys = Ex.rens fr tw (Tx.ers (xs.take j))) ∧ Hid (wr.ownsRow (w.heap.size + 2) 24 6 rj ys.length (flat ys)) ∧ Hid (Blk wr w.heap.size 24 #[.int .i64 k, .int .i64 o, .int .i64 t, .int .i64 v, .string tw, .slice A xs.length c]) ∧ Hid (Blk wr (w.heap.size + 1) 24 #[.int .i64 0, .int .i64 0, .int .i64 0, .int .i64 0, .string ⟨#[]⟩, .slice none 0 0]) ∧ Hid (∀ e ∈ ys, RX wr e) ∧ Hid (Foots (fun b_ => w.heap.size + 2 ≤ b_ ∧ b_ < wr.heap.size ∧ some b_ ≠ rj.ownBlock) ys) ∧ After w wr) (fun _ i _ => n - (intOf i).toNat)
        case atStart => exact ⟨0, .slice none 0 0, [], rfl, by omega, rfl, rfl, Lib.hid (by simp [Tx.ers, Ex.rens]), Lib.hid (World.ownsRow_nil _ _ _ _), HB1, HZ1, Lib.hid (by simp), Lib.hid (by rw [Foots]; trivial), aw1⟩
        case round =>
          obtain ⟨j, rj, ys, hyl, hj, rfl, rfl, HER, HOW, HBr, HZr, HRX, HFT, ar⟩ := hrel
          have lB_wr : Le (w.heap.size + 1) wr := HBr.out.is_le
          have lZ_wr : Le (w.heap.size + 1 + 1) wr := HZr.out.is_le
          have hBw : w.heap.size + 2 ≤ wr.heap.size := lZ_wr.le
          have r0 : wr.cell? ⟨w.heap.size, 0, none⟩ = some (.int .i64 k) := (HBr.out.cell 0).trans rfl
          have r1 : wr.cell? ⟨w.heap.size, 1, none⟩ = some (.int .i64 o) := (HBr.out.cell 1).trans rfl
          have r2 : wr.cell? ⟨w.heap.size, 2, none⟩ = some (.int .i64 t) := (HBr.out.cell 2).trans rfl
          have r3 : wr.cell? ⟨w.heap.size, 3, none⟩ = some (.int .i64 v) := (HBr.out.cell 3).trans rfl
          have r4 : wr.cell? ⟨w.heap.size, 4, none⟩ = some (.string tw) := (HBr.out.cell 4).trans rfl
          have r5 : wr.cell? ⟨w.heap.size, 5, none⟩ = some (.slice A xs.length c) := (HBr.out.cell 5).trans rfl
          rw [HXL.out] at r5
          have a0r : After w0 wr := after_after aft ar
          by_cases hlt_ : j < n
          · have hltI : (j : Int) < (n : Int) := by omega
            have hlt : j < xs.length := by rw [HXL.out]; exact hlt_
            obtain ⟨b, p, k1, o1, t1, v1, s1, A1, c1, xs1, rfl, hb1, HX1, HR1, e0, e1, e2, e3, e4, e5⟩ := (x.out.here wr).part (i := j) hlt
            have x1_ := Lib.hid (x.out.all (.mk k1 o1 t1 v1 s1 A1 c1 xs1) (List.mem_of_getElem? HX1.out))
            have hme := Tx.sizes_mem HX1.out
            have HC : Hid (∀ U, After wr U → Calls Try.prog 35 #[.agg #[.int .i64 k1, .int .i64 o1, .int .i64 t1, .int .i64 v1, .string s1, .slice A1 xs1.length c1], .string fr, .string tw] U fun e w' => RenP fr tw k1 o1 t1 v1 s1 xs1 U e w') := Lib.hid fun U hU => ih.out _ _ _ _ _ _ _ _ w0 (by omega) x1_.out U (after_after a0r hU)
            have HRT := Lib.hid (rens_take (a := fr) (b := tw) HX1.out)
            clear hme
            go_wp2_with fail
            refine (HC.out _ inferInstance).mono ?_
            rintro e w2 ⟨A3, c3, xs3, rfl, HE3, HR3, HF3, a3⟩
            replace HE3 := Lib.hid HE3
            replace HR3 := Lib.hid HR3
            replace HF3 := Lib.hid HF3
            obtain ⟨s3, hs3⟩ : ∃ s3, renN fr tw k1 s1 = s3 := ⟨_, rfl⟩
            rw [hs3] at HR3 HF3 ⊢
            replace hs3 := Lib.hid hs3
            skip
            have HB3 := Lib.hid (HBr.out.after (k := a3))
            have HZ3 := Lib.hid (HZr.out.after (k := a3))
            have lB_2 : Le (w.heap.size + 1) w2 := HB3.out.is_le
            have lZ_2 : Le (w.heap.size + 1 + 1) w2 := HZ3.out.is_le
            have how2 := own_after HOW.out a3
            have hne1 : some w.heap.size ≠ rj.ownBlock := own_ne HOW.out (by omega)
            have hne2 : some (w.heap.size + 1) ≠ rj.ownBlock := own_ne HOW.out (by omega)
            have h2s := a3.below.size
            clear e0 e1 e2 e3 e4 e5
            go_wp2_with (at_builtin; refine wpList_append_any (w2.alloc (.cells #[.int .i64 k1, .int .i64 o1, .int .i64 t1, .int .i64 v1, .string s3, .slice A3 xs3.length c3] 24)) rfl (.tmp 26) (.tmp 35) 22 rfl (w.heap.size + 2) 24 i0 _ 6 72 Try.underlying22 hi0 hz0 hz1 hz2 rfl (by decide) rj ys.length (flat ys) rfl (own_after how2 (w' := w2.alloc (.cells #[.int .i64 k1, .int .i64 o1, .int .i64 t1, .int .i64 v1, .string s3, .slice A3 xs3.length c3] 24)) inferInstance) _ _ 1 1 (Tx.mk k1 o1 t1 v1 s3 A3 c3 xs3).cellsL rfl (cells_flat (w := w2) rfl #[.int .i64 k1, .int .i64 o1, .int .i64 t1, .int .i64 v1, .string s3, .slice A3 xs3.length c3] 24 _ rfl 1 6 rfl) (by intro u hu; simp only [Tx.cellsL, List.mem_cons, List.not_mem_nil, or_false] at hu; rcases hu with rfl | rfl | rfl | rfl | rfl | rfl <;> rfl) (by unfold maxLen; omega) (by omega) (by rw [size_alloc_]; omega) ?_; intro r4 W4 own4 hg4 hnx4; have hr4 := app_round (y := .mk k1 o1 t1 v1 s3 A3 c3 xs3) HOW.out hBw a3 HRX.out HFT.out HR3.out HF3.out hg4 hnx4; have HB4 := Lib.hid ((HB3.out.alloc _).grown hg4 hne1); have HZ4 := Lib.hid ((HZ3.out.alloc _).grown hg4 hne2); have a4 : After w W4 := @after_grown_ w (w2.alloc (.cells #[.int .i64 k1, .int .i64 o1, .int .i64 t1, .int .i64 v1, .string s3, .slice A3 xs3.length c3] 24)) W4 (after_after (after_after ar a3) inferInstance) (w.heap.size + 2) 24 6 _ rj _ (own_after how2 inferInstance) (by omega) hg4; have own5 := Lib.hid own4; have hr5 := Lib.hid hr4; clear own4 hg4 hnx4 hr4)
            go_roundw
            case rel =>
              refine ⟨j + 1, r4, ys ++ [.mk k1 o1 t1 v1 s3 A3 c3 xs3], by rw [List.length_append, hyl]; rfl, by omega, by go_num, rfl, ?_, ?_, HB4, HZ4, Lib.hid hr5.out.1, Lib.hid hr5.out.2, a4⟩
              · exact Lib.hid (by rw [ers_append, HER.out, HRT.out, Tx.ers, Tx.ers, Tx.er, Tx.er, Ex.ren, hs3.out, HE3.out])
              · exact Lib.hid (by have h_ := own5.out; rw [List.length_append, List.length_singleton, flat_append, flat_one]; exact h_)
            case measure => simp [intOf]; omega
          · obtain rfl : j = n := by omega
            obtain ⟨A5, c5, hrj, hx5⟩ := rowX_of_own HOW.out (by omega) HRX.out
            subst hrj
            replace hx5 := Lib.hid hx5
            have hft5 := Lib.hid (row_foot (S := fun b_ => w.heap.size + 2 ≤ b_) HOW.out (fun g hg => hg) (HFT.out.mono fun b_ hb_ => hb_.1))
            skip
            have z0 : wr.cell? ⟨(w.heap.size + 1), 0, none⟩ = some (.int .i64 0) := (HZr.out.cell 0).trans rfl
            have z1 : wr.cell? ⟨(w.heap.size + 1), 1, none⟩ = some (.int .i64 0) := (HZr.out.cell 1).trans rfl
            have z2 : wr.cell? ⟨(w.heap.size + 1), 2, none⟩ = some (.int .i64 0) := (HZr.out.cell 2).trans rfl
            have z3 : wr.cell? ⟨(w.heap.size + 1), 3, none⟩ = some (.int .i64 0) := (HZr.out.cell 3).trans rfl
            have z4 : wr.cell? ⟨(w.heap.size + 1), 4, none⟩ = some (.string ⟨#[]⟩) := (HZr.out.cell 4).trans rfl
            have z5 : wr.cell? ⟨(w.heap.size + 1), 5, none⟩ = some (.slice none 0 0) := (HZr.out.cell 5).trans rfl
            have zf0 := HZr.out.frozen 0
            have zf1 := HZr.out.frozen 1
            have zf2 := HZr.out.frozen 2
            have zf3 := HZr.out.frozen 3
            have zf4 := HZr.out.frozen 4
            have zf5 := HZr.out.frozen 5
            have bf5 := HBr.out.frozen 5
            rw [show List.take j xs = xs by rw [← HXL.out, List.take_length]] at HER
            go_wp2_with fail
            have R9 : Blk (setSix (wr.setCell ⟨w.heap.size, 5, none⟩ (.slice A5 j c5)) (w.heap.size + 1) 0 (.mk k o t v tw A5 c5 ys)) (w.heap.size + 1) 24 (set6 #[.int .i64 0, .int .i64 0, .int .i64 0, .int .i64 0, .string ⟨#[]⟩, .slice none 0 0] 0 (.mk k o t v tw A5 c5 ys)) := setSix_blk (HZr.out.far (by show w.heap.size + 1 ≠ w.heap.size; omega) _) 0 _
            rw [set6_lit] at R9
            have hk9 : ∀ b_, w.heap.size + 2 ≤ b_ → ((setSix (wr.setCell ⟨w.heap.size, 5, none⟩ (.slice A5 j c5)) (w.heap.size + 1) 0 (.mk k o t v tw A5 c5 ys)) : World).heap[b_]? = wr.heap[b_]? := fun b_ hb_ => (setSix_heap _ _ _ _ (by omega)).trans (Below.heap_setCell _ _ _ _ (by show b_ ≠ w.heap.size; omega))
            have hz9 : ((setSix (wr.setCell ⟨w.heap.size, 5, none⟩ (.slice A5 j c5)) (w.heap.size + 1) 0 (.mk k o t v tw A5 c5 ys)) : World).heap.size = wr.heap.size := by rw [setSix_size, size_set_]
            have a9 : After w (setSix (wr.setCell ⟨w.heap.size, 5, none⟩ (.slice A5 j c5)) (w.heap.size + 1) 0 (.mk k o t v tw A5 c5 ys)) := setSix_after inferInstance (by omega) _ _
            have y0 : (setSix (wr.setCell ⟨w.heap.size, 5, none⟩ (.slice A5 j c5)) (w.heap.size + 1) 0 (.mk k o t v tw A5 c5 ys)).cell? ⟨w.heap.size + 1, 0, none⟩ = some (.int .i64 k) := (R9.cell 0).trans rfl
            have y1 : (setSix (wr.setCell ⟨w.heap.size, 5, none⟩ (.slice A5 j c5)) (w.heap.size + 1) 0 (.mk k o t v tw A5 c5 ys)).cell? ⟨w.heap.size + 1, 1, none⟩ = some (.int .i64 o) := (R9.cell 1).trans rfl
            have y2 : (setSix (wr.setCell ⟨w.heap.size, 5, none⟩ (.slice A5 j c5)) (w.heap.size + 1) 0 (.mk k o t v tw A5 c5 ys)).cell? ⟨w.heap.size + 1, 2, none⟩ = some (.int .i64 t) := (R9.cell 2).trans rfl
            have y3 : (setSix (wr.setCell ⟨w.heap.size, 5, none⟩ (.slice A5 j c5)) (w.heap.size + 1) 0 (.mk k o t v tw A5 c5 ys)).cell? ⟨w.heap.size + 1, 3, none⟩ = some (.int .i64 v) := (R9.cell 3).trans rfl
            have y4 : (setSix (wr.setCell ⟨w.heap.size, 5, none⟩ (.slice A5 j c5)) (w.heap.size + 1) 0 (.mk k o t v tw A5 c5 ys)).cell? ⟨w.heap.size + 1, 4, none⟩ = some (.string tw) := (R9.cell 4).trans rfl
            have y5 : (setSix (wr.setCell ⟨w.heap.size, 5, none⟩ (.slice A5 j c5)) (w.heap.size + 1) 0 (.mk k o t v tw A5 c5 ys)).cell? ⟨w.heap.size + 1, 5, none⟩ = some (.slice A5 ys.length c5) := (R9.cell 5).trans rfl
            have hx9 : RX (setSix (wr.setCell ⟨w.heap.size, 5, none⟩ (.slice A5 j c5)) (w.heap.size + 1) 0 (.mk k o t v tw A5 c5 ys)) (rowX A5 c5 ys) := RX.stay (fun b_ hb_ _ => hk9 b_ hb_) (Nat.le_of_eq hz9.symm) hx5.out hft5.out
            simp only [setSix, Tx.kind, Tx.op, Tx.ty, Tx.va, Tx.name, Tx.ad, Tx.args, Tx.cap, Nat.zero_add, hyl] at a9 y0 y1 y2 y3 y4 y5 hx9
            refine bodyPost_ret (v := .agg #[.int .i64 k, .int .i64 o, .int .i64 t, .int .i64 v, .string tw, .slice A5 j c5]) (by simp [results, Try.results35, go_sem, y0, y1, y2, y3, y4, y5]) rfl ⟨A5, c5, ys, by rw [HRN.out, hyl], HER.out, ?_, ?_, a9⟩
            · unfold rowX at hx9; rw [RX] at hx9; rw [HRN.out, RX]; exact ⟨hsl, hx9.2⟩
            · have h_ := hft5.out; unfold rowX at h_; rw [Foot] at h_; rw [Foot]
              exact ⟨h_.1.imp id fun ⟨b_, o_, q1, q2⟩ => ⟨b_, o_, q1, by omega⟩, h_.2.mono fun b_ hb_ => by omega⟩
theorem rren_any (fr tw : ByteArray) (hbl : tw.size ≤ 140737488355328) {k o t v : Int} {s : ByteArray} {A : Option Addr} {c : Nat} {xs : List Tx} {w0 : World} (hs : (Tx.mk k o t v s A c xs).size ≤ 1000000) (x : RX w0 (.mk k o t v s A c xs)) (w : World) (aft : After w0 w) :
    Calls Try.prog 35 #[.agg #[.int .i64 k, .int .i64 o, .int .i64 t, .int .i64 v, .string s, .slice A xs.length c], .string fr, .string tw] w fun e w' => RenP fr tw k o t v s xs w e w' := rren_n fr tw hbl 1000000 (Nat.le_refl _) _ _ _ _ _ _ _ _ _ hs x w aft
end Go.Proofs.Ytfoddappedcplaa
