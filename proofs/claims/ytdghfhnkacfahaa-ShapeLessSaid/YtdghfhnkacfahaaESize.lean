/-
  Contracts: the reference's Size, Depth, Weigh; the program's Depth; the law's heavy.
-/
import Derived.Test.YtdghfhnkacfahaaEx
import Derived.Test.YtdghfhnkacfahaaGives
set_option linter.unusedVariables false
set_option linter.unusedSimpArgs false
namespace Go.Proofs.Ytdghfhnkacfahaa
open Go.RowKit Go.BigFrame

theorem after_after {w0 w1 w2 : World} (a : After w0 w1) (b : After w1 w2) : After w0 w2 := ⟨a.below.trans (b.below.mono a.below.size)⟩
theorem Blk.new1 (w : World) (o : Obj) (t : TypeId) (cs : Array Value) : Blk ((w.alloc o).alloc (.cells cs t)) (w.heap.size + 1) t cs := by
  have := Blk.new (w.alloc o) t cs; rwa [size_alloc_] at this

set_option maxRecDepth 100000 in
set_option maxHeartbeats 1600000 in
theorem rsize_n (N : Nat) (hN : N ≤ 2000000) : ∀ (k o t v : Int) (s : ByteArray) (A : Option Addr) (c : Nat) (xs : List Tx) (w0 : World), (Tx.mk k o t v s A c xs).size ≤ N → RX w0 (.mk k o t v s A c xs) → ∀ w : World, After w0 w →
    Calls Try.prog 43 #[.agg #[.int .i64 k, .int .i64 o, .int .i64 t, .int .i64 v, .string s, .slice A xs.length c]] w fun e w' => e = .returned (.int .i64 ((Tx.mk k o t v s A c xs).size : Nat)) ∧ After w w' := by
  induction N with
  | zero =>
    intro k o t v s A c xs w0 hs
    simp [Tx.size] at hs
  | succ N ih =>
    intro k o t v s A c xs w0 hs x w aft
    replace x := Lib.hid x
    replace ih := Lib.hid (ih (by omega))
    rw [Tx.size] at hs
    rw [Tx.size]
    have hbd := x.out.bounds
    simp only [Tx.args, Tx.cap, Tx.name] at hbd
    obtain ⟨hb1_, hb2_, hb3_, hb4_⟩ := hbd
    obtain ⟨W0, hW0, HK, hs0, aw0⟩ : ∃ W0, (w.alloc (.cells #[.int .i64 k, .int .i64 o, .int .i64 t, .int .i64 v, .string s, .slice A xs.length c] 25)) = W0 ∧ Hid (∀ U : World, After W0 U → U.cell? ⟨w.heap.size, 0, none⟩ = some (.int .i64 k) ∧ U.cell? ⟨w.heap.size, 1, none⟩ = some (.int .i64 o) ∧ U.cell? ⟨w.heap.size, 2, none⟩ = some (.int .i64 t) ∧ U.cell? ⟨w.heap.size, 3, none⟩ = some (.int .i64 v) ∧ U.cell? ⟨w.heap.size, 4, none⟩ = some (.string s) ∧ U.cell? ⟨w.heap.size, 5, none⟩ = some (.slice A xs.length c)) ∧ w.heap.size < W0.heap.size ∧ After w W0 := by
      refine ⟨_, rfl, fun U k_ => ?_, by simp, inferInstance⟩
      have f_ := (Blk.new w 25 #[.int .i64 k, .int .i64 o, .int .i64 t, .int .i64 v, .string s, .slice A xs.length c]).after (w' := U)
      exact ⟨by rw [f_.cell]; rfl, by rw [f_.cell]; rfl, by rw [f_.cell]; rfl, by rw [f_.cell]; rfl, by rw [f_.cell]; rfl, by rw [f_.cell]; rfl⟩
    have aB_W0 : After W0 W0 := inferInstance
    have lB_W0 : Le (w.heap.size + 1) W0 := ⟨hs0⟩
    obtain ⟨h0_W0, h1_W0, h2_W0, h3_W0, h4_W0, h5_W0⟩ := HK.out W0 inferInstance
    go_enter Try.func43, Try.ntmps43
    go_wp2_with fail
    try rw [hW0]
    clear hW0
    go_loopw [3, 4] (fun n i wr => ∃ j : Nat, j ≤ xs.length ∧ i = .int .i64 (j : Nat) ∧ n = .int .i64 ((Tx.sizes (xs.take j) + 1 : Nat) : Int) ∧ After W0 wr) (fun _ i _ => xs.length - (intOf i).toNat)
    case atStart => exact ⟨0, by omega, rfl, by simp [Tx.sizes], inferInstance⟩
    case round =>
      obtain ⟨j, hj, rfl, rfl, ar⟩ := hrel
      have aB_wr : After W0 wr := ar
      have lB_wr : Le (w.heap.size + 1) wr := ⟨Nat.le_trans hs0 aB_wr.below.size⟩
      obtain ⟨h0_wr, h1_wr, h2_wr, h3_wr, h4_wr, h5_wr⟩ := HK.out wr aB_wr
      have a0_wr : After w0 wr := after_after aft (after_after aw0 aB_wr)
      have htl := Tx.sizes_take_le xs j
      by_cases hlt : j < xs.length
      · have hltI : (j : Int) < (xs.length : Int) := by omega
        obtain ⟨b, p, k1, o1, t1, v1, s1, A1, c1, xs1, rfl, hb1, HX1, HR1, e0, e1, e2, e3, e4, e5⟩ := (x.out.here wr).part (i := j) hlt
        have HST := Lib.hid (Tx.sizes_take HX1.out)
        have hme := Tx.sizes_mem HX1.out
        have hle1 : Tx.sizes (xs.take j) + (Tx.mk k1 o1 t1 v1 s1 A1 c1 xs1).size ≤ N := by have := Tx.sizes_take_le xs (j + 1); have h_ := Tx.sizes_take HX1.out; omega
        have HC : Hid (∀ U, After wr U → Calls Try.prog 43 #[.agg #[.int .i64 k1, .int .i64 o1, .int .i64 t1, .int .i64 v1, .string s1, .slice A1 xs1.length c1]] U fun e w' => e = .returned (.int .i64 ((Tx.mk k1 o1 t1 v1 s1 A1 c1 xs1).size : Nat)) ∧ After U w') := fun U hU => ih.out _ _ _ _ _ _ _ _ wr (by omega) HR1.out U hU
        obtain ⟨z1, hz1⟩ : ∃ z, (Tx.mk k1 o1 t1 v1 s1 A1 c1 xs1).size = z := ⟨_, rfl⟩
        obtain ⟨z0, hz0⟩ : ∃ z, Tx.sizes (xs.take j) = z := ⟨_, rfl⟩
        rw [hz1] at HC hle1 hme HST
        rw [hz0] at hle1 htl HST
        rw [hz0]
        clear hz0
        go_wp2_with fail
        refine (HC.out _ inferInstance).mono ?_
        rintro e w2 ⟨rfl, k2⟩
        have k2' : After wr w2 := after_after inferInstance k2
        have aB_w2 : After W0 w2 := after_after ar k2'
        have lB_w2 : Le (w.heap.size + 1) w2 := ⟨Nat.le_trans hs0 aB_w2.below.size⟩
        obtain ⟨h0_w2, h1_w2, h2_w2, h3_w2, h4_w2, h5_w2⟩ := HK.out w2 aB_w2
        have a0_w2 : After w0 w2 := after_after aft (after_after aw0 aB_w2)
        go_wp2_with fail
        go_roundw
        case rel => exact ⟨j + 1, by omega, by go_num, by rw [HST.out]; go_num, after_after ar k2'⟩
        case measure => simp [intOf]; omega
      · obtain rfl : j = xs.length := by omega
        rw [List.take_length] at *
        go_wp2_with fail
        go_ret
        exact ⟨rfl, after_after aw0 ar⟩
theorem rsize_any {k o t v : Int} {s : ByteArray} {A : Option Addr} {c : Nat} {xs : List Tx} {w0 : World} (hs : (Tx.mk k o t v s A c xs).size ≤ 2000000) (x : RX w0 (.mk k o t v s A c xs)) (w : World) (aft : After w0 w) :
    Calls Try.prog 43 #[.agg #[.int .i64 k, .int .i64 o, .int .i64 t, .int .i64 v, .string s, .slice A xs.length c]] w fun e w' => e = .returned (.int .i64 ((Tx.mk k o t v s A c xs).size : Nat)) ∧ After w w' := rsize_n 2000000 (Nat.le_refl _) _ _ _ _ _ _ _ _ _ hs x w aft

set_option maxRecDepth 100000 in
set_option maxHeartbeats 1600000 in
theorem rdepth_n (N : Nat) (hN : N ≤ 2000000) : ∀ (k o t v : Int) (s : ByteArray) (A : Option Addr) (c : Nat) (xs : List Tx) (w0 : World), (Tx.mk k o t v s A c xs).size ≤ N → RX w0 (.mk k o t v s A c xs) → ∀ w : World, After w0 w →
    Calls Try.prog 44 #[.agg #[.int .i64 k, .int .i64 o, .int .i64 t, .int .i64 v, .string s, .slice A xs.length c]] w fun e w' => e = .returned (.int .i64 ((Tx.mk k o t v s A c xs).depth : Nat)) ∧ After w w' := by
  induction N with
  | zero =>
    intro k o t v s A c xs w0 hs
    simp [Tx.size] at hs
  | succ N ih =>
    intro k o t v s A c xs w0 hs x w aft
    replace x := Lib.hid x
    replace ih := Lib.hid (ih (by omega))
    rw [Tx.size] at hs
    rw [Tx.depth]
    have hbd := x.out.bounds
    simp only [Tx.args, Tx.cap, Tx.name] at hbd
    obtain ⟨hb1_, hb2_, hb3_, hb4_⟩ := hbd
    obtain ⟨W0, hW0, HK, hs0, aw0⟩ : ∃ W0, (w.alloc (.cells #[.int .i64 k, .int .i64 o, .int .i64 t, .int .i64 v, .string s, .slice A xs.length c] 25)) = W0 ∧ Hid (∀ U : World, After W0 U → U.cell? ⟨w.heap.size, 0, none⟩ = some (.int .i64 k) ∧ U.cell? ⟨w.heap.size, 1, none⟩ = some (.int .i64 o) ∧ U.cell? ⟨w.heap.size, 2, none⟩ = some (.int .i64 t) ∧ U.cell? ⟨w.heap.size, 3, none⟩ = some (.int .i64 v) ∧ U.cell? ⟨w.heap.size, 4, none⟩ = some (.string s) ∧ U.cell? ⟨w.heap.size, 5, none⟩ = some (.slice A xs.length c)) ∧ w.heap.size < W0.heap.size ∧ After w W0 := by
      refine ⟨_, rfl, fun U k_ => ?_, by simp, inferInstance⟩
      have f_ := (Blk.new w 25 #[.int .i64 k, .int .i64 o, .int .i64 t, .int .i64 v, .string s, .slice A xs.length c]).after (w' := U)
      exact ⟨by rw [f_.cell]; rfl, by rw [f_.cell]; rfl, by rw [f_.cell]; rfl, by rw [f_.cell]; rfl, by rw [f_.cell]; rfl, by rw [f_.cell]; rfl⟩
    have aB_W0 : After W0 W0 := inferInstance
    have lB_W0 : Le (w.heap.size + 1) W0 := ⟨hs0⟩
    obtain ⟨h0_W0, h1_W0, h2_W0, h3_W0, h4_W0, h5_W0⟩ := HK.out W0 inferInstance
    go_enter Try.func44, Try.ntmps44
    go_wp2_with fail
    try rw [hW0]
    clear hW0
    go_loopw [3, 4] (fun n i wr => ∃ j : Nat, j ≤ xs.length ∧ i = .int .i64 (j : Nat) ∧ n = .int .i64 ((Tx.depths (xs.take j) : Nat) : Int) ∧ After W0 wr) (fun _ i _ => xs.length - (intOf i).toNat)
    case atStart => exact ⟨0, by omega, rfl, by simp [Tx.depths], inferInstance⟩
    case round =>
      obtain ⟨j, hj, rfl, rfl, ar⟩ := hrel
      have aB_wr : After W0 wr := ar
      have lB_wr : Le (w.heap.size + 1) wr := ⟨Nat.le_trans hs0 aB_wr.below.size⟩
      obtain ⟨h0_wr, h1_wr, h2_wr, h3_wr, h4_wr, h5_wr⟩ := HK.out wr aB_wr
      have a0_wr : After w0 wr := after_after aft (after_after aw0 aB_wr)
      have htl := Tx.sizes_take_le xs j
      have hdl := Tx.depths_le_sizes (xs.take j)
      by_cases hlt : j < xs.length
      · have hltI : (j : Int) < (xs.length : Int) := by omega
        obtain ⟨b, p, k1, o1, t1, v1, s1, A1, c1, xs1, rfl, hb1, HX1, HR1, e0, e1, e2, e3, e4, e5⟩ := (x.out.here wr).part (i := j) hlt
        have HST := Lib.hid (Tx.depths_take HX1.out)
        have hme := Tx.sizes_mem HX1.out
        have hle1 : Tx.sizes (xs.take j) + (Tx.mk k1 o1 t1 v1 s1 A1 c1 xs1).size ≤ N := by have := Tx.sizes_take_le xs (j + 1); have h_ := Tx.sizes_take HX1.out; omega
        have hdz := Tx.depth_le_size (Tx.mk k1 o1 t1 v1 s1 A1 c1 xs1)
        have HC : Hid (∀ U, After wr U → Calls Try.prog 44 #[.agg #[.int .i64 k1, .int .i64 o1, .int .i64 t1, .int .i64 v1, .string s1, .slice A1 xs1.length c1]] U fun e w' => e = .returned (.int .i64 ((Tx.mk k1 o1 t1 v1 s1 A1 c1 xs1).depth : Nat)) ∧ After U w') := fun U hU => ih.out _ _ _ _ _ _ _ _ wr (by omega) HR1.out U hU
        obtain ⟨z1, hz1⟩ : ∃ z, (Tx.mk k1 o1 t1 v1 s1 A1 c1 xs1).depth = z := ⟨_, rfl⟩
        obtain ⟨z0, hz0⟩ : ∃ z, Tx.depths (xs.take j) = z := ⟨_, rfl⟩
        rw [hz1] at HC hdz HST
        rw [hz0] at hdl HST
        rw [hz0]
        clear hz0
        go_wp2_with fail
        refine (HC.out _ inferInstance).mono ?_
        rintro e w2 ⟨rfl, k2⟩
        have k2' : After wr w2 := after_after inferInstance k2
        have aB_w2 : After W0 w2 := after_after ar k2'
        have lB_w2 : Le (w.heap.size + 1) w2 := ⟨Nat.le_trans hs0 aB_w2.below.size⟩
        obtain ⟨h0_w2, h1_w2, h2_w2, h3_w2, h4_w2, h5_w2⟩ := HK.out w2 aB_w2
        have a0_w2 : After w0 w2 := after_after aft (after_after aw0 aB_w2)
        go_wp2_with fail
        go_roundw
        case rel => exact ⟨j + 1, by omega, by go_num, by rw [HST.out]; go_num, after_after ar k2'⟩
        case measure => simp [intOf]; omega
      · obtain rfl : j = xs.length := by omega
        rw [List.take_length] at *
        go_wp2_with fail
        go_ret
        exact ⟨rfl, after_after aw0 ar⟩
theorem rdepth_any {k o t v : Int} {s : ByteArray} {A : Option Addr} {c : Nat} {xs : List Tx} {w0 : World} (hs : (Tx.mk k o t v s A c xs).size ≤ 2000000) (x : RX w0 (.mk k o t v s A c xs)) (w : World) (aft : After w0 w) :
    Calls Try.prog 44 #[.agg #[.int .i64 k, .int .i64 o, .int .i64 t, .int .i64 v, .string s, .slice A xs.length c]] w fun e w' => e = .returned (.int .i64 ((Tx.mk k o t v s A c xs).depth : Nat)) ∧ After w w' := rdepth_n 2000000 (Nat.le_refl _) _ _ _ _ _ _ _ _ _ hs x w aft

set_option maxRecDepth 100000 in
set_option maxHeartbeats 1600000 in
theorem depth_n (N : Nat) : ∀ (k o t v : Int) (s : ByteArray) (A : Option Addr) (c : Nat) (xs : List Tx) (w0 : World), (Tx.mk k o t v s A c xs).size ≤ N → RX w0 (.mk k o t v s A c xs) → ∀ w : World, After w0 w →
    Calls Try.prog 37 #[.agg #[.int .i64 k, .int .i64 o, .int .i64 t, .int .i64 v, .string s, .slice A xs.length c]] w fun e w' => e = .returned (.int .i64 (dpW (Tx.mk k o t v s A c xs))) ∧ After w w' := by
  induction N with
  | zero =>
    intro k o t v s A c xs w0 hs
    simp [Tx.size] at hs
  | succ N ih =>
    intro k o t v s A c xs w0 hs x w aft
    replace x := Lib.hid x
    replace ih := Lib.hid ih
    rw [Tx.size] at hs
    rw [dpW]
    have hbd := x.out.bounds
    simp only [Tx.args, Tx.cap, Tx.name] at hbd
    obtain ⟨hb1_, hb2_, hb3_, hb4_⟩ := hbd
    obtain ⟨W0, hW0, HK, hs0, aw0⟩ : ∃ W0, (w.alloc (.cells #[.int .i64 k, .int .i64 o, .int .i64 t, .int .i64 v, .string s, .slice A xs.length c] 25)) = W0 ∧ Hid (∀ U : World, After W0 U → U.cell? ⟨w.heap.size, 0, none⟩ = some (.int .i64 k) ∧ U.cell? ⟨w.heap.size, 1, none⟩ = some (.int .i64 o) ∧ U.cell? ⟨w.heap.size, 2, none⟩ = some (.int .i64 t) ∧ U.cell? ⟨w.heap.size, 3, none⟩ = some (.int .i64 v) ∧ U.cell? ⟨w.heap.size, 4, none⟩ = some (.string s) ∧ U.cell? ⟨w.heap.size, 5, none⟩ = some (.slice A xs.length c)) ∧ w.heap.size < W0.heap.size ∧ After w W0 := by
      refine ⟨_, rfl, fun U k_ => ?_, by simp, inferInstance⟩
      have f_ := (Blk.new w 25 #[.int .i64 k, .int .i64 o, .int .i64 t, .int .i64 v, .string s, .slice A xs.length c]).after (w' := U)
      exact ⟨by rw [f_.cell]; rfl, by rw [f_.cell]; rfl, by rw [f_.cell]; rfl, by rw [f_.cell]; rfl, by rw [f_.cell]; rfl, by rw [f_.cell]; rfl⟩
    have aB_W0 : After W0 W0 := inferInstance
    have lB_W0 : Le (w.heap.size + 1) W0 := ⟨hs0⟩
    obtain ⟨h0_W0, h1_W0, h2_W0, h3_W0, h4_W0, h5_W0⟩ := HK.out W0 inferInstance
    go_enter Try.func37, Try.ntmps37
    go_wp2_with fail
    try rw [hW0]
    clear hW0
    go_loopw [3, 9] (fun n i wr => ∃ j : Nat, j ≤ xs.length ∧ i = .int .i64 (j : Nat) ∧ n = .int .i64 (dpsW (xs.take j)) ∧ After W0 wr) (fun _ i _ => xs.length - (intOf i).toNat)
    case atStart => exact ⟨0, by omega, rfl, by simp [dpsW], inferInstance⟩
    case round =>
      obtain ⟨j, hj, rfl, rfl, ar⟩ := hrel
      have aB_wr : After W0 wr := ar
      have lB_wr : Le (w.heap.size + 1) wr := ⟨Nat.le_trans hs0 aB_wr.below.size⟩
      obtain ⟨h0_wr, h1_wr, h2_wr, h3_wr, h4_wr, h5_wr⟩ := HK.out wr aB_wr
      have a0_wr : After w0 wr := after_after aft (after_after aw0 aB_wr)
      have htl := Tx.sizes_take_le xs j
      by_cases hlt : j < xs.length
      · have hltI : (j : Int) < (xs.length : Int) := by omega
        obtain ⟨b, p, k1, o1, t1, v1, s1, A1, c1, xs1, rfl, hb1, HX1, HR1, e0, e1, e2, e3, e4, e5⟩ := (x.out.here wr).part (i := j) hlt
        have HST := Lib.hid (dpsW_take HX1.out)
        have hme := Tx.sizes_mem HX1.out
        have hle1 : Tx.sizes (xs.take j) + (Tx.mk k1 o1 t1 v1 s1 A1 c1 xs1).size ≤ N := by have := Tx.sizes_take_le xs (j + 1); have h_ := Tx.sizes_take HX1.out; omega
        have HC : Hid (∀ U, After wr U → Calls Try.prog 37 #[.agg #[.int .i64 k1, .int .i64 o1, .int .i64 t1, .int .i64 v1, .string s1, .slice A1 xs1.length c1]] U fun e w' => e = .returned (.int .i64 (dpW (Tx.mk k1 o1 t1 v1 s1 A1 c1 xs1))) ∧ After U w') := fun U hU => ih.out _ _ _ _ _ _ _ _ wr (by omega) HR1.out U hU
        obtain ⟨z1, hz1⟩ : ∃ z, dpW (Tx.mk k1 o1 t1 v1 s1 A1 c1 xs1) = z := ⟨_, rfl⟩
        obtain ⟨z0, hz0⟩ : ∃ z, dpsW (xs.take j) = z := ⟨_, rfl⟩
        rw [hz1] at HC HST
        rw [hz0] at HST
        rw [hz0]
        clear hz0
        go_wp2_with fail
        refine (HC.out _ inferInstance).mono ?_
        rintro e w2 ⟨rfl, k2⟩
        have k2' : After wr w2 := after_after inferInstance k2
        have aB_w2 : After W0 w2 := after_after ar k2'
        have lB_w2 : Le (w.heap.size + 1) w2 := ⟨Nat.le_trans hs0 aB_w2.below.size⟩
        obtain ⟨h0_w2, h1_w2, h2_w2, h3_w2, h4_w2, h5_w2⟩ := HK.out w2 aB_w2
        have a0_w2 : After w0 w2 := after_after aft (after_after aw0 aB_w2)
        go_wp2_with fail
        go_roundw
        case rel => exact ⟨j + 1, by omega, by go_num, by rw [HST.out]; go_num, after_after ar k2'⟩
        case measure => simp [intOf]; omega
      · obtain rfl : j = xs.length := by omega
        rw [List.take_length] at *
        go_wp2_with fail
        go_ret
        exact ⟨rfl, after_after aw0 ar⟩
theorem depth_any {k o t v : Int} {s : ByteArray} {A : Option Addr} {c : Nat} {xs : List Tx} {w0 : World} (x : RX w0 (.mk k o t v s A c xs)) (w : World) (aft : After w0 w) :
    Calls Try.prog 37 #[.agg #[.int .i64 k, .int .i64 o, .int .i64 t, .int .i64 v, .string s, .slice A xs.length c]] w fun e w' => e = .returned (.int .i64 (dpW (Tx.mk k o t v s A c xs))) ∧ After w w' := depth_n _ _ _ _ _ _ _ _ _ _ (Nat.le_refl _) x w aft

end Go.Proofs.Ytdghfhnkacfahaa
