/-
  Contracts: variable of the program and of the reference; the reference's list and List.
-/
import Derived.Test.YtdghfhnkacfahaaERow
set_option linter.unusedVariables false
set_option linter.unusedSimpArgs false
namespace Go.Proofs.Ytdghfhnkacfahaa
open Go.RowKit Go.BigFrame

theorem exprInfo : (Try.prog.info? 25).map (fun i => (i.zero, i.size, i.bytes)) = some (some (.agg #[.int .i64 0, .int .i64 0, .int .i64 0, .int .i64 0, .string ByteArray.empty, .slice none 0 0]), 6, 72) := by kernel_rfl

set_option maxRecDepth 100000 in
set_option maxHeartbeats 1600000 in
theorem rlist_n (N : Nat) (hN : N ≤ 2000000) : ∀ (k o t v : Int) (s : ByteArray) (A : Option Addr) (c : Nat) (xs : List Tx) (w0 : World) (B n : Nat) (r : Value) (ys : List Value), (Tx.mk k o t v s A c xs).size ≤ N → RX w0 (.mk k o t v s A c xs) → w0.heap.size ≤ B → ∀ w : World, After w0 w → B ≤ w.heap.size → w.ownsRow B 25 6 r n ys → n + (Tx.mk k o t v s A c xs).size ≤ 2000000 →
    Calls Try.prog 78 #[.agg #[.int .i64 k, .int .i64 o, .int .i64 t, .int .i64 v, .string s, .slice A xs.length c], r] w fun e w' => ∃ r', e = .returned r' ∧ w'.ownsRow B 25 6 r' (n + (Tx.mk k o t v s A c xs).size) (ys ++ flat (Tx.mk k o t v s A c xs).list) ∧ RowTo w w' r r' := by
  induction N with
  | zero =>
    intro k o t v s A c xs w0 B n r ys hs
    simp [Tx.size] at hs
  | succ N ih =>
    intro k o t v s A c xs w0 B n r ys hs x hB w aft hBw own hn
    replace x := Lib.hid x
    replace ih := Lib.hid (ih (by omega))
    rw [Tx.size] at hs hn
    rw [Tx.size, Tx.list]
    have hbd := x.out.bounds
    simp only [Tx.args, Tx.cap, Tx.name] at hbd
    obtain ⟨hb1_, hb2_, hb3_, hb4_⟩ := hbd
    obtain ⟨i0, hi0, hz0, hz1, hz2⟩ := info_parts exprInfo
    have hne : some w.heap.size ≠ r.ownBlock := by intro e; have := (own.lt _ e.symm).2; omega
    go_enter Try.func78, Try.ntmps78
    go_wp2_with (at_builtin; refine wpList_append_any ((w.alloc (.cells #[.int .i64 k, .int .i64 o, .int .i64 t, .int .i64 v, .string s, .slice A xs.length c] 25)).alloc (.cells #[.int .i64 k, .int .i64 o, .int .i64 t, .int .i64 v, .string s, .slice A xs.length c] 25)) rfl (.tmp 6) (.tmp 8) 23 rfl B 25 i0 _ 6 72 Try.underlying23 hi0 hz0 hz1 hz2 rfl (by decide) r n ys rfl (own_after own (w' := (w.alloc (.cells #[.int .i64 k, .int .i64 o, .int .i64 t, .int .i64 v, .string s, .slice A xs.length c] 25)).alloc (.cells #[.int .i64 k, .int .i64 o, .int .i64 t, .int .i64 v, .string s, .slice A xs.length c] 25)) inferInstance) _ _ 1 1 (Tx.mk k o t v s A c xs).cellsL rfl (cells_flat (w := w.alloc (.cells #[.int .i64 k, .int .i64 o, .int .i64 t, .int .i64 v, .string s, .slice A xs.length c] 25)) (size_alloc_ _ _) #[.int .i64 k, .int .i64 o, .int .i64 t, .int .i64 v, .string s, .slice A xs.length c] 25 _ rfl 1 6 rfl) (by intro u hu; simp only [Tx.cellsL, List.mem_cons, List.not_mem_nil, or_false] at hu; rcases hu with rfl | rfl | rfl | rfl | rfl | rfl <;> rfl) (by unfold maxLen; omega) (by omega) (by simp only [size_alloc_]; omega) ?_; intro r1 W1 own1 hg1 hnx1; have HB1 := Lib.hid (((Blk.new w 25 #[.int .i64 k, .int .i64 o, .int .i64 t, .int .i64 v, .string s, .slice A xs.length c]).alloc _).grown hg1 hne); have rt1 := Lib.hid (RowTo.pre (inferInstance : After (w.alloc (.cells #[.int .i64 k, .int .i64 o, .int .i64 t, .int .i64 v, .string s, .slice A xs.length c] 25)) ((w.alloc (.cells #[.int .i64 k, .int .i64 o, .int .i64 t, .int .i64 v, .string s, .slice A xs.length c] 25)).alloc (.cells #[.int .i64 k, .int .i64 o, .int .i64 t, .int .i64 v, .string s, .slice A xs.length c] 25))) (RowTo.of_app hg1 hnx1)); clear hg1 hnx1; replace own1 := Lib.hid own1)
    obtain ⟨W0, hW0, aw0, s0⟩ : ∃ W0, w.alloc (.cells #[.int .i64 k, .int .i64 o, .int .i64 t, .int .i64 v, .string s, .slice A xs.length c] 25) = W0 ∧ After w W0 ∧ W0.heap.size = w.heap.size + 1 := ⟨_, rfl, inferInstance, size_alloc_ _ _⟩
    rw [hW0] at rt1
    clear hW0
    have ownW0 := Lib.hid (own_after own aw0)
    have a0W0 : After w0 W0 := after_after aft aw0
    clear own
    obtain ⟨eT, heT⟩ : ∃ eT, Tx.mk k o t v s A c xs = eT := ⟨_, rfl⟩
    replace heT := Lib.hid heT
    go_loopw [1, 5] (fun l i wr => ∃ (j : Nat) (rj : Value), j ≤ xs.length ∧ i = .int .i64 (j : Nat) ∧ rj = l ∧ Hid (wr.ownsRow B 25 6 rj (n + (Tx.sizes (xs.take j) + 1)) (ys ++ flat (eT :: Tx.lists (xs.take j)))) ∧ Hid (RowTo W0 wr r rj) ∧ Hid (Blk wr w.heap.size 25 #[.int .i64 k, .int .i64 o, .int .i64 t, .int .i64 v, .string s, .slice A xs.length c])) (fun _ i _ => xs.length - (intOf i).toNat)
    case atStart => exact ⟨0, r1, by omega, rfl, rfl, by have h_ := own1.out; show World.ownsRow _ _ _ _ _ _ _; rw [show (Tx.mk k o t v s A c xs).cellsL = flat [eT] by rw [flat_one, ← heT.out]] at h_; simpa [Tx.sizes, Tx.lists] using h_, rt1, HB1⟩
    case round =>
      obtain ⟨j, rj, hj, rfl, rfl, ownj, rtj, HBj⟩ := hrel
      have lB_wr : Le (w.heap.size + 1) wr := ⟨by have := rtj.out.size; omega⟩
      have a0_wr : After w0 wr := rtj.out.aft a0W0 ownW0.out hB
      have hnej : some w.heap.size ≠ rj.ownBlock := rtj.out.old (by omega) hne
      have h0_wr : wr.cell? ⟨w.heap.size, 0, none⟩ = some (.int .i64 k) := by rw [HBj.out.cell]; rfl
      have h1_wr : wr.cell? ⟨w.heap.size, 1, none⟩ = some (.int .i64 o) := by rw [HBj.out.cell]; rfl
      have h2_wr : wr.cell? ⟨w.heap.size, 2, none⟩ = some (.int .i64 t) := by rw [HBj.out.cell]; rfl
      have h3_wr : wr.cell? ⟨w.heap.size, 3, none⟩ = some (.int .i64 v) := by rw [HBj.out.cell]; rfl
      have h4_wr : wr.cell? ⟨w.heap.size, 4, none⟩ = some (.string s) := by rw [HBj.out.cell]; rfl
      have h5_wr : wr.cell? ⟨w.heap.size, 5, none⟩ = some (.slice A xs.length c) := by rw [HBj.out.cell]; rfl
      have htl := Tx.sizes_take_le xs j
      by_cases hlt : j < xs.length
      · have hltI : (j : Int) < (xs.length : Int) := by omega
        obtain ⟨b, p, k1, o1, t1, v1, s1, A1, c1, xs1, rfl, hb1, HX1, HR1, e0, e1, e2, e3, e4, e5⟩ := (x.out.here wr).part (i := j) hlt
        have x1_ := Lib.hid (x.out.all (.mk k1 o1 t1 v1 s1 A1 c1 xs1) (List.mem_of_getElem? HX1.out))
        have hst := Tx.sizes_take HX1.out
        have HLT := Lib.hid (Tx.lists_take HX1.out)
        have htl1 := Tx.sizes_take_le xs (j + 1)
        have hle1 : Tx.sizes (xs.take (j + 1)) ≤ N := by have := Tx.sizes_take_le xs (j + 1); omega
        have HC : Hid (Calls Try.prog 78 #[.agg #[.int .i64 k1, .int .i64 o1, .int .i64 t1, .int .i64 v1, .string s1, .slice A1 xs1.length c1], rj] wr fun e w' => ∃ r', e = .returned r' ∧ w'.ownsRow B 25 6 r' (n + (Tx.sizes (xs.take j) + 1) + (Tx.mk k1 o1 t1 v1 s1 A1 c1 xs1).size) (ys ++ flat (eT :: Tx.lists (xs.take j)) ++ flat (Tx.mk k1 o1 t1 v1 s1 A1 c1 xs1).list) ∧ RowTo wr w' rj r') := Lib.hid (ih.out _ _ _ _ _ _ _ _ w0 B _ _ _ (by omega) x1_.out hB wr a0_wr (by have := rtj.out.size; omega) ownj.out (by omega))
        have hst2 := Lib.hid hst
        clear hst hle1 htl htl1
        go_wp2_with fail
        refine HC.out.mono ?_
        rintro e w2 ⟨r2, rfl, own2, rt2⟩
        replace own2 := Lib.hid own2
        replace rt2 := Lib.hid rt2
        have HB2 := Lib.hid (rt2.out.blk HBj.out hnej)
        go_wp2_with fail
        go_roundw
        case rel =>
          refine ⟨j + 1, r2, by omega, by go_num, rfl, ?_, rtj.out.trans rt2.out, HB2⟩
          show World.ownsRow _ _ _ _ _ _ _
          rw [hst2.out, HLT.out]
          have h_ := own2.out
          rw [List.append_assoc] at h_
          rw [show n + (Tx.sizes (xs.take j) + (Tx.mk k1 o1 t1 v1 s1 A1 c1 xs1).size + 1) = n + (Tx.sizes (xs.take j) + 1) + (Tx.mk k1 o1 t1 v1 s1 A1 c1 xs1).size by omega, ← List.cons_append, flat_append]
          exact h_
        case measure => simp [intOf]; omega
      · obtain rfl : j = xs.length := by omega
        rw [List.take_length] at *
        go_wp2_with fail
        go_ret
        rw [heT.out]
        exact ⟨_, rfl, ownj.out, rtj.out.pre aw0⟩
end Go.Proofs.Ytdghfhnkacfahaa
