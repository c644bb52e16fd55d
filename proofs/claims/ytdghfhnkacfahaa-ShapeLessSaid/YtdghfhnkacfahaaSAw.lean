/-
  Contract: the law's awake (printed by gen_saw.py).
-/
import Derived.Test.YtdghfhnkacfahaaSAwA
set_option linter.unusedVariables false
set_option linter.unusedSimpArgs false
namespace Go.Proofs.Ytdghfhnkacfahaa
open Go.RowKit Go.BigFrame

theorem grown_set (w : World) (g i : Nat) (v : Value) : w.grownBy (w.setCell ⟨g, i, none⟩ v) (some g) := by
  have hb := (Below.refl 0 w).setCell (p := ⟨g, i, none⟩) (Nat.zero_le _) v
  exact ⟨hb.os, hb.tape, hb.output, hb.size, fun k _ hg => Below.heap_setCell w _ v k (fun e => hg (by rw [e]))⟩
theorem Light.other {w U : World} {G g : Nat} (h : Light w G) (hg : w.grownBy U (some g)) (hn : G + 7 < g) : Light U G :=
  ⟨h.b2.grown hg (by intro e; injection e with e; omega), h.b3.grown hg (by intro e; injection e with e; omega), h.b4.grown hg (by intro e; injection e with e; omega), h.b6.grown hg (by intro e; injection e with e; omega), h.b7.grown hg (by intro e; injection e with e; omega)⟩
theorem const_rx (w : World) (t v : Int) : RX w (constT t v) := by
  unfold constT
  rw [RX]
  exact ⟨by decide, by decide, by decide, by decide, .inl rfl⟩
theorem const_tb (t v : Int) (h : t ≤ 9223372036854775807) : TxB (constT t v) := by
  intro x hx
  simp only [constT, Tx.list, Tx.lists, List.mem_cons, List.not_mem_nil, or_false] at hx
  subst hx
  exact h
theorem after_of_more {w w1 w2 : World} (h : ∃ y, w2 = w1.more y) (a : After w w1) : After w w2 := by obtain ⟨y, rfl⟩ := h; exact inferInstance
def ndCells (x : NdD) : List Value := [.string x.name, .slice x.ins.A x.ins.l.length x.ins.c, .slice x.outs.A x.outs.l.length x.outs.c, .slice x.locals.A x.locals.l.length x.locals.c, .slice x.eqs.A x.eqs.l.length x.eqs.c, .slice x.autos.A x.autos.l.length x.autos.c, .slice x.assume.A x.assume.l.length x.assume.c, .slice x.ensure.A x.ensure.l.length x.ensure.c]
theorem ndCells_len (x : NdD) : (ndCells x).length = 8 := rfl
theorem nodeInfo : (Try.prog.info? 45).map (fun i => (i.zero, i.size, i.bytes)) = some (some (.agg #[.string ⟨#[]⟩, .slice none 0 0, .slice none 0 0, .slice none 0 0, .slice none 0 0, .slice none 0 0, .slice none 0 0, .slice none 0 0]), 8, 184) := by kernel_rfl
set_option maxRecDepth 100000 in
set_option maxHeartbeats 6400000 in
theorem awake_any (w : World) : Calls Try.prog 10 #[] w fun e w' => e = .returned (.bool true) ∧ After w w' := by
  go_enter Try.func10, Try.ntmps10
  go_wp2_with fail
  refine (light_any _).mono ?_
  rintro e w1 ⟨G1, rfl, a1, g1_, L1, n1⟩
  obtain ⟨gp, hgp⟩ : ∃ g, w1.heap.size = g := ⟨_, rfl⟩
  obtain ⟨W1, hW1, bW1, HKp⟩ : ∃ W, w1.alloc (.cells #[.slice (some ⟨G1 + 7, 0, none⟩) 1 1, .slice (some ⟨G1 + 8, 0, none⟩) 1 1] 32) = W ∧ After w1 W ∧ Hid (∀ V, After W V → V.cell? ⟨gp, 0, none⟩ = some (.slice (some ⟨G1 + 7, 0, none⟩) 1 1) ∧ V.cell? ⟨gp, 1, none⟩ = some (.slice (some ⟨G1 + 8, 0, none⟩) 1 1) ∧ Le (gp + 1) V) := by
    refine ⟨_, rfl, inferInstance, fun V k_ => ?_⟩
    have f_ := (Blk.new w1 32 #[.slice (some ⟨G1 + 7, 0, none⟩) 1 1, .slice (some ⟨G1 + 8, 0, none⟩) 1 1]).after (w' := V)
    rw [hgp] at f_
    exact ⟨(f_.cell 0).trans rfl, (f_.cell 1).trans rfl, f_.is_le⟩
  have L1' := Lib.hid L1
  have N1' := Lib.hid n1
  clear L1 n1
  obtain ⟨p0, p1, pl⟩ := HKp.out W1 (after_refl _)
  have aW1 : After w W1 := after_after a1 bW1
  have C1 := Lib.hid (pcheck_any (light_enums (L1'.out.here W1)) (light_nodes (S := False) (L1'.out.here W1) (N1'.out.after (w' := W1))) W1 (after_refl _))
  rw [light_check] at C1
  go_wp2_with fail
  try rw [hW1]
  try rw [hgp]
  clear hgp hW1
  refine C1.out.mono ?_
  rintro e w2 ⟨rfl, a2⟩
  clear C1
  go_wp2_with fail
  obtain ⟨gw, hgw⟩ : ∃ g, w2.heap.size = g := ⟨_, rfl⟩
  obtain ⟨W2, hW2, bW2, HKw⟩ : ∃ W, w2.alloc (.cells #[.int .i64 0, .int .i64 0] 35) = W ∧ After w2 W ∧ Hid (∀ V, After W V → V.cell? ⟨gw, 0, none⟩ = some (.int .i64 0) ∧ V.cell? ⟨gw, 1, none⟩ = some (.int .i64 0) ∧ Le (gw + 1) V) := by
    refine ⟨_, rfl, inferInstance, fun V k_ => ?_⟩
    have f_ := (Blk.new w2 35 #[.int .i64 0, .int .i64 0]).after (w' := V)
    rw [hgw] at f_
    exact ⟨(f_.cell 0).trans rfl, (f_.cell 1).trans rfl, f_.is_le⟩
  have aW2 : After w W2 := after_after aW1 (after_after a2 bW2)
  try rw [hW2]
  try rw [hgw]
  clear hgw hW2 p0 p1 pl
  refine (light_any _).mono ?_
  rintro e w3 ⟨G2, rfl, a3, g2_, L2, n2⟩
  obtain ⟨gq, hgq⟩ : ∃ g, w3.heap.size = g := ⟨_, rfl⟩
  obtain ⟨W3, hW3, bW3, HKq0⟩ : ∃ W, w3.alloc (.cells #[.slice (some ⟨G2 + 7, 0, none⟩) 1 1, .slice (some ⟨G2 + 8, 0, none⟩) 1 1] 32) = W ∧ After w3 W ∧ Hid (∀ V, After W V → V.cell? ⟨gq, 0, none⟩ = some (.slice (some ⟨G2 + 7, 0, none⟩) 1 1) ∧ V.cell? ⟨gq, 1, none⟩ = some (.slice (some ⟨G2 + 8, 0, none⟩) 1 1) ∧ Le (gq + 1) V) := by
    refine ⟨_, rfl, inferInstance, fun V k_ => ?_⟩
    have f_ := (Blk.new w3 32 #[.slice (some ⟨G2 + 7, 0, none⟩) 1 1, .slice (some ⟨G2 + 8, 0, none⟩) 1 1]).after (w' := V)
    rw [hgq] at f_
    exact ⟨(f_.cell 0).trans rfl, (f_.cell 1).trans rfl, f_.is_le⟩
  have aW3 : After w W3 := after_after aW2 (after_after a3 bW3)
  have a13 : After W1 W3 := after_after a2 (after_after bW2 (after_after a3 bW3))
  have hGq : G2 + 8 < gq := by rw [← hgq]; exact n2.lt
  have L2' := Lib.hid (L2.here W3)
  have N2' := Lib.hid (n2.after (w' := W3))
  have hq0 := Lib.hid (show Blk W3 gq 32 #[.slice (some ⟨G2 + 7, 0, none⟩) 1 1, .slice (some ⟨G2 + 8, 0, none⟩) 1 1] from by subst hW3; subst hgq; exact Blk.new _ _ _)
  obtain ⟨q0, q1, ql⟩ := HKq0.out W3 (after_refl _)
  clear L2 n2 HKq0
  have own := own_of_blk (base := W2.heap.size) (n := 1) (sz := 8) N2'.out (by omega) rfl (by decide)
  have hngq : gq ≠ G2 + 8 := by omega
  obtain ⟨i0, hi0, hz0, hz1, hz2⟩ := info_parts nodeInfo
  have fq1 := hq0.out.frozen 1
  have hgG : G2 + 8 < W3.heap.size := N2'.out.lt
  have s3_ := (after_after a3 bW3).below.size
  have q3_ : W2.heap.size ≤ gq := by rw [← hgq]; exact a3.below.size
  have hgq9 : gq < W3.heap.size := hq0.out.lt
  go_wp2_with (at_builtin; refine wpList_append_any (W3.alloc (.cells #[.string ⟨#[103]⟩, .slice none 0 0, .slice none 0 0, .slice none 0 0, .slice none 0 0, .slice none 0 0, .slice none 0 0, .slice none 0 0] 45)) rfl (.tmp 18) (.tmp 20) 30 rfl W2.heap.size 45 i0 _ 8 _ Try.underlying30 hi0 hz0 hz1 hz2 rfl (by decide) _ 1 _ rfl (own_after own (w' := W3.alloc (.cells #[.string ⟨#[103]⟩, .slice none 0 0, .slice none 0 0, .slice none 0 0, .slice none 0 0, .slice none 0 0, .slice none 0 0, .slice none 0 0] 45)) inferInstance) _ _ 1 1 [.string ⟨#[103]⟩, .slice none 0 0, .slice none 0 0, .slice none 0 0, .slice none 0 0, .slice none 0 0, .slice none 0 0, .slice none 0 0] rfl (cells_flat (w := W3) rfl #[.string ⟨#[103]⟩, .slice none 0 0, .slice none 0 0, .slice none 0 0, .slice none 0 0, .slice none 0 0, .slice none 0 0, .slice none 0 0] 45 _ rfl 1 8 rfl) (by intro u hu; simp only [List.mem_cons, List.not_mem_nil, or_false] at hu; rcases hu with rfl | rfl | rfl | rfl | rfl | rfl | rfl | rfl <;> rfl) (by decide) (by decide) (by simp only [size_alloc_]; omega) ?_; intro r4 W4 own4 hg4 hnx4; obtain ⟨A4, c4, hA4, _, _⟩ := own_slice own4; subst hA4; have BW4 := Lib.hid ((hq0.out.alloc (.cells #[.string ⟨#[103]⟩, .slice none 0 0, .slice none 0 0, .slice none 0 0, .slice none 0 0, .slice none 0 0, .slice none 0 0, .slice none 0 0] 45)).grown hg4 (by intro h; exact hngq (Option.some.inj (show some gq = some (G2 + 8) from h)))); have cq4 : W4.cell? ⟨gq, 1, none⟩ = some (.slice (some ⟨G2 + 8, 0, none⟩) 1 1) := (BW4.out.cell 1).trans rfl; have dq4 : W4.cell? ⟨gq, 0, none⟩ = some (.slice (some ⟨G2 + 7, 0, none⟩) 1 1) := (BW4.out.cell 0).trans rfl; have fq4 := BW4.out.frozen 1; have lq4 := BW4.out.is_le; replace own4 := Lib.hid own4; replace hnx4 := Lib.hid hnx4; replace hg4 := Lib.hid hg4)
  clear q0 q1 ql fq1 hW3 hgq
  obtain ⟨W5, hW5, B5, G5, hr4⟩ : ∃ W, W4.setCell ⟨gq, 1, none⟩ (.slice A4 2 c4) = W ∧ Blk W gq 32 #[.slice (some ⟨G2 + 7, 0, none⟩) 1 1, .slice A4 2 c4] ∧ W4.grownBy W (some gq) ∧ (Value.slice A4 2 c4).ownBlock ≠ some gq := by
    refine ⟨_, rfl, BW4.out.set_ 1 _, grown_set W4 _ _ _, ?_⟩
    intro h
    rcases hnx4.out with h1 | h1
    · rw [show (Value.slice A4 (1 + 1) c4).ownBlock = (Value.slice A4 2 c4).ownBlock from rfl] at h1; rw [h1] at h; exact hngq (Option.some.inj (show some (G2 + 8) = some gq from h)).symm
    · rw [show (Value.slice A4 (1 + 1) c4).ownBlock = (Value.slice A4 2 c4).ownBlock from rfl] at h1; rw [h1, size_alloc_] at h; have h3 := Option.some.inj h; omega
  have aX : After W2 (W3.alloc (.cells #[.string ⟨#[103]⟩, .slice none 0 0, .slice none 0 0, .slice none 0 0, .slice none 0 0, .slice none 0 0, .slice none 0 0, .slice none 0 0] 45)) := after_after (after_after a3 bW3) inferInstance
  have a4 : After W2 W4 := @after_grown_ W2 _ W4 aX _ _ 8 1 _ _ (own_after own (w' := W3.alloc (.cells #[.string ⟨#[103]⟩, .slice none 0 0, .slice none 0 0, .slice none 0 0, .slice none 0 0, .slice none 0 0, .slice none 0 0, .slice none 0 0] 45)) inferInstance) (Nat.le_refl _) hg4.out
  have n5_ : New W2 gq := ⟨q3_⟩
  have aW5 : After W2 W5 := by rw [← hW5]; exact inferInstance
  have L4 : Light W4 G2 := ⟨(L2'.out.b2.alloc _).grown hg4.out (by intro h; have h3 := Option.some.inj (show some (G2 + 2) = some (G2 + 8) from h); omega), (L2'.out.b3.alloc _).grown hg4.out (by intro h; have h3 := Option.some.inj (show some (G2 + 3) = some (G2 + 8) from h); omega), (L2'.out.b4.alloc _).grown hg4.out (by intro h; have h3 := Option.some.inj (show some (G2 + 4) = some (G2 + 8) from h); omega), (L2'.out.b6.alloc _).grown hg4.out (by intro h; have h3 := Option.some.inj (show some (G2 + 6) = some (G2 + 8) from h); omega), (L2'.out.b7.alloc _).grown hg4.out (by intro h; have h3 := Option.some.inj (show some (G2 + 7) = some (G2 + 8) from h); omega)⟩
  have L5 := Lib.hid (L4.other G5 (by omega))
  have own5 := Lib.hid (own4.out.kept G5 (.inr hr4))
  obtain ⟨A5, c5, hA5, RQ_⟩ := RowOf.of_own (P := PNd False) (cells := ndCells) (l := [lightN G2, gNode]) ndCells_len own5.out (by simp) (by
    intro b o y hb hy hc
    simp only [List.mem_cons, List.not_mem_nil, or_false] at hy
    rcases hy with rfl | rfl
    · exact light_node L5.out hc
    · exact ⟨hc 0 _ rfl, hc 1 _ rfl, hc 2 _ rfl, hc 3 _ rfl, hc 4 _ rfl, hc 5 _ rfl, hc 6 _ rfl, hc 7 _ rfl, by decide, RowOf.nil _, RowOf.nil _, RowOf.nil _, RowOf.nil _, RowOf.nil _, RowOf.nil _, RowOf.nil _⟩)
  injection hA5 with h1_ h2_ h3_
  clear h2_
  subst h1_; subst h3_
  have RQ := Lib.hid RQ_
  try rw [hW5]
  clear hW5 cq4 dq4 fq4 lq4
  have HKq : Hid (∀ V, After W5 V → V.cell? ⟨gq, 0, none⟩ = some (.slice (some ⟨G2 + 7, 0, none⟩) 1 1) ∧ V.cell? ⟨gq, 1, none⟩ = some (.slice A4 2 c4) ∧ Le (gq + 1) V) := fun V k_ => by
    have f_ := B5.after (w' := V)
    exact ⟨(f_.cell 0).trans rfl, (f_.cell 1).trans rfl, f_.is_le⟩
  have C2 := Lib.hid (pcheck_any (light_enums L5.out) RQ.out W5 (after_refl _))
  rw [light_check2] at C2
  replace C2 : Hid (Calls Try.prog 13 #[.agg #[.slice (some ⟨G2 + 7, 0, none⟩) 1 1, .slice A4 2 c4]] W5 fun e w' => e = .returned (.tuple #[.agg #[.int .i64 1, .int .i64 (-1)], .int .i64 8]) ∧ After W5 w') := C2
  have aw5 : After w W5 := after_after aW2 aW5
  have a15 : After W1 W5 := after_after a2 (after_after bW2 aW5)
  replace B5 := Lib.hid B5
  clear aX a4 L4 hnx4 G5 hr4 own4 own5 hg4 N2' L2' hq0 own BW4 hi0 hz0 hz1 hz2 n5_ hngq hgG s3_ q3_ hgq9 hGq
  refine C2.out.mono ?_
  rintro e w6 ⟨rfl, a6⟩
  clear C2
  obtain ⟨q0, q1, ql⟩ := HKq.out w6 a6
  go_wp2_with fail
  obtain ⟨gx, hgx⟩ : ∃ g, w6.heap.size = g := ⟨_, rfl⟩
  obtain ⟨W6, hW6, bW6, HKx⟩ : ∃ W, w6.alloc (.cells #[.int .i64 1, .int .i64 (-1)] 35) = W ∧ After w6 W ∧ Hid (∀ V, After W V → V.cell? ⟨gx, 0, none⟩ = some (.int .i64 1) ∧ V.cell? ⟨gx, 1, none⟩ = some (.int .i64 (-1)) ∧ Le (gx + 1) V) := by
    refine ⟨_, rfl, inferInstance, fun V k_ => ?_⟩
    have f_ := (Blk.new w6 35 #[.int .i64 1, .int .i64 (-1)]).after (w' := V)
    rw [hgx] at f_
    exact ⟨(f_.cell 0).trans rfl, (f_.cell 1).trans rfl, f_.is_le⟩
  try rw [hW6]
  try rw [hgx]
  clear hgx hW6 q0 q1 ql
  have a56 : After W5 W6 := after_after a6 bW6
  have C3 := Lib.hid (sfind_any (eA := some ⟨G2 + 7, 0, none⟩) (en := 1) (ec := 1) RQ.out ⟨#[103]⟩ W6 a56)
  rw [light_find] at C3
  refine C3.out.mono ?_
  rintro e w7 ⟨rfl, hy_⟩
  have a7 : After W6 w7 := after_of_more hy_ (after_refl _)
  clear hy_ C3
  obtain ⟨x0, x1, xl⟩ := HKx.out w7 a7
  go_wp2_with fail
  obtain ⟨gt, hgt⟩ : ∃ g, w7.heap.size = g := ⟨_, rfl⟩
  obtain ⟨W8, hW8, bW8, HKt⟩ : ∃ W, w7.alloc (.cells #[.int .i64 1, .int .i64 0, .int .i64 3, .int .i64 2, .string ⟨#[]⟩, .slice none 0 0] 25) = W ∧ After w7 W ∧ Hid (∀ V, After W V → V.cell? ⟨gt, 0, none⟩ = some (.int .i64 1) ∧ V.cell? ⟨gt, 1, none⟩ = some (.int .i64 0) ∧ V.cell? ⟨gt, 2, none⟩ = some (.int .i64 3) ∧ V.cell? ⟨gt, 3, none⟩ = some (.int .i64 2) ∧ V.cell? ⟨gt, 4, none⟩ = some (.string ⟨#[]⟩) ∧ V.cell? ⟨gt, 5, none⟩ = some (.slice none 0 0) ∧ Le (gt + 1) V) := by
    refine ⟨_, rfl, inferInstance, fun V k_ => ?_⟩
    have f_ := (Blk.new w7 25 #[.int .i64 1, .int .i64 0, .int .i64 3, .int .i64 2, .string ⟨#[]⟩, .slice none 0 0]).after (w' := V)
    rw [hgt] at f_
    exact ⟨(f_.cell 0).trans rfl, (f_.cell 1).trans rfl, (f_.cell 2).trans rfl, (f_.cell 3).trans rfl, (f_.cell 4).trans rfl, (f_.cell 5).trans rfl, f_.is_le⟩
  try rw [hW8]
  try rw [hgt]
  clear hgt hW8 x0 x1 xl
  have a68 : After W6 W8 := after_after a7 bW8
  have a58 : After W5 W8 := after_after a56 a68
  have a18 : After W1 W8 := after_after a15 a58
  have aw8 : After w W8 := after_after aw5 a58
  have HK : Hid (∀ V, After W8 V → V.cell? ⟨gp, 0, none⟩ = some (.slice (some ⟨G1 + 7, 0, none⟩) 1 1) ∧ V.cell? ⟨gp, 1, none⟩ = some (.slice (some ⟨G1 + 8, 0, none⟩) 1 1) ∧ V.cell? ⟨gx, 0, none⟩ = some (.int .i64 1) ∧ V.cell? ⟨gx, 1, none⟩ = some (.int .i64 (-1)) ∧ V.cell? ⟨gq, 0, none⟩ = some (.slice (some ⟨G2 + 7, 0, none⟩) 1 1) ∧ V.cell? ⟨gq, 1, none⟩ = some (.slice A4 2 c4) ∧ V.cell? ⟨gt, 0, none⟩ = some (.int .i64 1) ∧ V.cell? ⟨gt, 1, none⟩ = some (.int .i64 0) ∧ V.cell? ⟨gt, 2, none⟩ = some (.int .i64 3) ∧ V.cell? ⟨gt, 3, none⟩ = some (.int .i64 2) ∧ V.cell? ⟨gt, 4, none⟩ = some (.string ⟨#[]⟩) ∧ V.cell? ⟨gt, 5, none⟩ = some (.slice none 0 0)) := fun V k_ => ⟨(HKp.out V (after_after a18 k_)).1, (HKp.out V (after_after a18 k_)).2.1, (HKx.out V (after_after a68 k_)).1, (HKx.out V (after_after a68 k_)).2.1, (HKq.out V (after_after a58 k_)).1, (HKq.out V (after_after a58 k_)).2.1, (HKt.out V k_).1, (HKt.out V k_).2.1, (HKt.out V k_).2.2.1, (HKt.out V k_).2.2.2.1, (HKt.out V k_).2.2.2.2.1, (HKt.out V k_).2.2.2.2.2.1⟩
  have M := HK.out W8 (after_refl _)
  have L18 := Lib.hid (L1'.out.here W8 (k := after_after bW1 a18))
  have N18 := Lib.hid (N1'.out.after (w' := W8) (k := after_after bW1 a18))
  have D1 := Lib.hid (light_enums L18.out)
  have D2 := Lib.hid (light_nodes (S := False) L18.out N18.out)
  have D3 := Lib.hid ((light_enums L5.out).enums W8 (k := a58))
  have D4 := Lib.hid (RQ.out.nds W8 (k := a58))
  have C4 : Gives W8 22 #[.agg #[.slice (some ⟨G1 + 7, 0, none⟩) 1 1, .slice (some ⟨G1 + 8, 0, none⟩) 1 1]] (.bool true) := fun U hU => splain_any (S := False) D2.out U hU
  have C6 : Gives W8 11 #[.agg #[.slice (some ⟨G1 + 7, 0, none⟩) 1 1, .slice (some ⟨G1 + 8, 0, none⟩) 1 1], .agg #[.slice (some ⟨G2 + 7, 0, none⟩) 1 1, .slice A4 2 c4]] (.bool false) := fun U hU => (psame_any (S := False) D1.out D3.out D2.out D4.out U hU).mono fun e w_ h_ => ⟨by rw [h_.1, light_other], have := h_.2; After.is_more _ _⟩
  have C7 : Gives W8 8 #[.slice (some ⟨G1 + 7, 0, none⟩) 1 1, .agg #[.int .i64 1, .int .i64 0, .int .i64 3, .int .i64 2, .string ⟨#[]⟩, .slice none 0 0]] (.int .i64 14) := fun U hU => (sexpr_any (x := ⟨some ⟨G1 + 7, 0, none⟩, 1, [lightU G1]⟩) (k := 1) (o := 0) (t := 3) (v := 2) (s := ⟨#[]⟩) (A := none) (c := 0) (xs := []) D1.out (by decide) (const_rx W8 3 2) (const_tb 3 2 (by decide)) U hU).mono fun e w_ h_ => ⟨by rw [h_.1, show Tx.mk 1 0 3 2 ⟨#[]⟩ none 0 [] = constT 3 2 from rfl, ex_three], have := h_.2; After.is_more _ _⟩
  obtain ⟨tk1, tk2, tk3, tk4, tk5⟩ : True ∧ True ∧ True ∧ True ∧ True := by trivial
  go_region_held3 (fun V => V.cell? ⟨gp, 0, none⟩ = some (.slice (some ⟨G1 + 7, 0, none⟩) 1 1) ∧ V.cell? ⟨gp, 1, none⟩ = some (.slice (some ⟨G1 + 8, 0, none⟩) 1 1) ∧ V.cell? ⟨gx, 0, none⟩ = some (.int .i64 1) ∧ V.cell? ⟨gx, 1, none⟩ = some (.int .i64 (-1)) ∧ V.cell? ⟨gq, 0, none⟩ = some (.slice (some ⟨G2 + 7, 0, none⟩) 1 1) ∧ V.cell? ⟨gq, 1, none⟩ = some (.slice A4 2 c4) ∧ V.cell? ⟨gt, 0, none⟩ = some (.int .i64 1) ∧ V.cell? ⟨gt, 1, none⟩ = some (.int .i64 0) ∧ V.cell? ⟨gt, 2, none⟩ = some (.int .i64 3) ∧ V.cell? ⟨gt, 3, none⟩ = some (.int .i64 2) ∧ V.cell? ⟨gt, 4, none⟩ = some (.string ⟨#[]⟩) ∧ V.cell? ⟨gt, 5, none⟩ = some (.slice none 0 0)) (exact HK.out _ inferInstance)
    (first
      | (have _t := tk1; go_at_call 22; (with_reducible refine (Gives.on C4 _ inferInstance).mono ?_); rintro e v1 ⟨rfl, hy⟩; have u1 : After W8 v1 := after_of_more hy inferInstance; clear hy _t tk1)
      | (have _t := tk2; go_at_call 20; (with_reducible refine (light_any _).mono ?_); rintro e v2 ⟨G3, rfl, hy, g3_, L3, n3⟩; have u2 : After W8 v2 := after_after inferInstance hy; have L3' := Lib.hid L3; have N3' := Lib.hid n3; have C5 : Gives v2 11 #[.agg #[.slice (some ⟨G1 + 7, 0, none⟩) 1 1, .slice (some ⟨G1 + 8, 0, none⟩) 1 1], .agg #[.slice (some ⟨G3 + 7, 0, none⟩) 1 1, .slice (some ⟨G3 + 8, 0, none⟩) 1 1]] (.bool true) := fun U hU => (psame_any (S := False) (D1.out.enums v2) (light_enums L3'.out) (D2.out.nds v2) (light_nodes L3'.out N3'.out) U hU).mono (fun e w_ h_ => ⟨by rw [h_.1, light_same], have := h_.2; After.is_more _ _⟩); clear hy L3 n3 g3_ _t tk2)
      | (have _t := tk3; go_at_call 11; (with_reducible refine (Gives.on C5 _ inferInstance).mono ?_); rintro e v3 ⟨rfl, hy⟩; have u3 : After W8 v3 := after_of_more hy (after_after u2 inferInstance); clear hy _t tk3)
      | (have _t := tk4; go_at_call 11; (with_reducible refine (Gives.on C6 _ inferInstance).mono ?_); rintro e v4 ⟨rfl, hy⟩; have u4 : After W8 v4 := after_of_more hy inferInstance; clear hy _t tk4)
      | (have _t := tk5; go_at_call 8; (with_reducible refine (Gives.on C7 _ inferInstance).mono ?_); rintro e v5 ⟨rfl, hy⟩; have u5 : After W8 v5 := after_of_more hy inferInstance; clear hy _t tk5))
  go_wp2_with fail
  go_ret
  exact ⟨rfl, after_after aw8 (after_after u5 inferInstance)⟩
end Go.Proofs.Ytdghfhnkacfahaa
