import Derived.Test.YtdghfhnkacfahaaSWd
set_option linter.unusedVariables false
set_option linter.unusedSimpArgs false
namespace Go.Proofs.Ytdghfhnkacfahaa
open Go.RowKit Go.BigFrame
theorem wide_end_0 {m : Int} (hm : -1 ≤ m ∧ m ≤ 3) {w WF : World} {n c G g : Nat} {A : Option Addr} (hn : (n : Int) = 24 + m) (h : LI [(G + 2, 83, #[.string ⟨#[120]⟩, .int .i64 3, .slice none 0 0]), (G + 3, 9, #[.string ⟨#[120]⟩]), (G + 4, 48, #[.slice (some ⟨G + 3, 0, none⟩) 1 1, .int .i64 1, .int .i64 0, .int .i64 3, .int .i64 0, .string ⟨#[]⟩, .slice none 0 0]), (G + 6, 9, #[.string ⟨#[82, 101, 100]⟩, .string ⟨#[71, 114, 101, 101, 110]⟩]), (G + 8, 45, lightC G)] (g) 0 32 (#[.slice (some ⟨G + 7, 0, none⟩) 1 1, .slice (some ⟨G + 8, 0, none⟩) 1 1]) w.heap.size 59 2 (rep [.string ⟨#[76, 105, 103, 104, 116]⟩, .slice (some ⟨G + 6, 0, none⟩) 2 2]) n A c WF) (a : After w WF) : WideR w m (.returned (.agg #[.slice A n c, .slice (some ⟨G + 8, 0, none⟩) 1 1])) WF := by
  exact ⟨_, _, _, _, List.replicate n (lightU G), [lightN G], by (rw [List.length_replicate]; rfl), row_enum (h.kl (G + 6, 9, #[.string ⟨#[82, 101, 100]⟩, .string ⟨#[71, 114, 101, 101, 110]⟩]) (by simp)) h.own (by omega), wide_node (h.kl (G + 2, 83, #[.string ⟨#[120]⟩, .int .i64 3, .slice none 0 0]) (by simp)) (x := lightN G) (h.kl (G + 8, 45, lightC G) (by simp)) rfl rfl rfl (RowOf.nil WF) (RowOf.nil WF) (wide_eqs (h.kl (G + 3, 9, #[.string ⟨#[120]⟩]) (by simp)) (h.kl (G + 4, 48, #[.slice (some ⟨G + 3, 0, none⟩) 1 1, .int .i64 1, .int .i64 0, .int .i64 3, .int .i64 0, .string ⟨#[]⟩, .slice none 0 0]) (by simp))) (RowOf.nil WF) (RowOf.nil WF), (check_enums G n (by omega)).trans (limE_m (decide_eq_decide.2 (by omega))), a⟩
set_option maxRecDepth 100000 in
set_option maxHeartbeats 6400000 in
theorem wide_0 (m : Int) (hm : -1 ≤ m ∧ m ≤ 3) (w : World) : Calls Try.prog 14 #[.int .i64 0, .int .i64 m] w fun e w' => WideR w m e w' := by
  obtain ⟨r, hr⟩ : ∃ r, w.heap.size = r := ⟨_, rfl⟩
  have br0 := Blk.new w 32 #[.slice none 0 0, .slice none 0 0]
  rw [hr] at br0
  go_enter Try.func14, Try.ntmps14
  go_wp2_with fail
  try rw [hr]
  refine (light_any _).mono ?_
  rintro e w1 ⟨G, rfl, a1, hG, L1, n1⟩
  rw [size_alloc_, hr] at hG
  have br1 := br0.after (k := a1)
  have aw1 : After w w1 := after_after inferInstance a1
  have u2 := L1.b2.lt
  have u8 := n1.lt
  have ul4 := L1.b4.is_le
  have ul8 := n1.is_le
  have e0 : w1.cell? ⟨G + 8, 4, none⟩ = some (.slice (some ⟨G + 4, 0, none⟩) 1 1) := (n1.cell 4).trans rfl
  have q0 : w1.cell? ⟨G + 4, 0, none⟩ = some (.slice (some ⟨G + 3, 0, none⟩) 1 1) := (L1.b4.cell 0).trans rfl
  have q1 : w1.cell? ⟨G + 4, 1, none⟩ = some (.int .i64 1) := (L1.b4.cell 1).trans rfl
  have q2 : w1.cell? ⟨G + 4, 2, none⟩ = some (.int .i64 0) := (L1.b4.cell 2).trans rfl
  have q3 : w1.cell? ⟨G + 4, 3, none⟩ = some (.int .i64 3) := (L1.b4.cell 3).trans rfl
  have q4 : w1.cell? ⟨G + 4, 4, none⟩ = some (.int .i64 0) := (L1.b4.cell 4).trans rfl
  have q5 : w1.cell? ⟨G + 4, 5, none⟩ = some (.string ⟨#[]⟩) := (L1.b4.cell 5).trans rfl
  have q6 : w1.cell? ⟨G + 4, 6, none⟩ = some (.slice none 0 0) := (L1.b4.cell 6).trans rfl
  go_wp2_with fail
  obtain ⟨g, hg⟩ : ∃ g, w1.heap.size = g := ⟨_, rfl⟩
  try rw [hg]
  obtain ⟨W2, hW2, a2, c1, c2, c3, c4, c5⟩ : ∃ W, (((((w1.alloc (.cells #[.slice (some ⟨G + 7, 0, none⟩) 1 1, .slice (some ⟨G + 8, 0, none⟩) 1 1] 32)).alloc (.cells #[.slice (some ⟨G + 3, 0, none⟩) 1 1, .int .i64 1, .int .i64 0, .int .i64 3, .int .i64 0, .string ⟨#[]⟩, .slice none 0 0] 48)).alloc (.cells #[.int .i64 1, .int .i64 0, .int .i64 1, .int .i64 1, .string ⟨#[]⟩, .slice none 0 0] 25)).alloc (.cells #[.slice (some ⟨G + 3, 0, none⟩) 1 1, .int .i64 1, .int .i64 0, .int .i64 3, .int .i64 0, .string ⟨#[]⟩, .slice none 0 0] 48)).alloc (.cells #[.string ⟨#[65]⟩, .slice none 0 0, .slice (some ⟨g + 3, 0, none⟩) 1 1, .slice none 0 0, .slice none 0 0, .slice none 0 0] 80)) = W ∧ After w1 W ∧ Blk W (g) 32 #[.slice (some ⟨G + 7, 0, none⟩) 1 1, .slice (some ⟨G + 8, 0, none⟩) 1 1] ∧ Blk W (g + 1) 48 #[.slice (some ⟨G + 3, 0, none⟩) 1 1, .int .i64 1, .int .i64 0, .int .i64 3, .int .i64 0, .string ⟨#[]⟩, .slice none 0 0] ∧ Blk W (g + 2) 25 #[.int .i64 1, .int .i64 0, .int .i64 1, .int .i64 1, .string ⟨#[]⟩, .slice none 0 0] ∧ Blk W (g + 3) 48 #[.slice (some ⟨G + 3, 0, none⟩) 1 1, .int .i64 1, .int .i64 0, .int .i64 3, .int .i64 0, .string ⟨#[]⟩, .slice none 0 0] ∧ Blk W (g + 4) 80 #[.string ⟨#[65]⟩, .slice none 0 0, .slice (some ⟨g + 3, 0, none⟩) 1 1, .slice none 0 0, .slice none 0 0, .slice none 0 0] := by
    have d0 := Blk.new w1 32 #[.slice (some ⟨G + 7, 0, none⟩) 1 1, .slice (some ⟨G + 8, 0, none⟩) 1 1]
    obtain ⟨v1, hv1⟩ : ∃ v, w1.alloc (.cells #[.slice (some ⟨G + 7, 0, none⟩) 1 1, .slice (some ⟨G + 8, 0, none⟩) 1 1] 32) = v := ⟨_, rfl⟩
    have s1 : v1.heap.size = g + 1 := by rw [← hv1, size_alloc_, hg]
    have k1 : After w1 v1 := by rw [← hv1]; exact inferInstance
    rw [hv1, hg] at d0
    rw [hv1]
    clear hv1
    have d1 := Blk.new v1 48 #[.slice (some ⟨G + 3, 0, none⟩) 1 1, .int .i64 1, .int .i64 0, .int .i64 3, .int .i64 0, .string ⟨#[]⟩, .slice none 0 0]
    obtain ⟨v2, hv2⟩ : ∃ v, v1.alloc (.cells #[.slice (some ⟨G + 3, 0, none⟩) 1 1, .int .i64 1, .int .i64 0, .int .i64 3, .int .i64 0, .string ⟨#[]⟩, .slice none 0 0] 48) = v := ⟨_, rfl⟩
    have s2 : v2.heap.size = g + 2 := by rw [← hv2, size_alloc_, s1]
    have k2 : After v1 v2 := by rw [← hv2]; exact inferInstance
    rw [hv2, s1] at d1
    rw [hv2]
    clear hv2
    have d2 := Blk.new v2 25 #[.int .i64 1, .int .i64 0, .int .i64 1, .int .i64 1, .string ⟨#[]⟩, .slice none 0 0]
    obtain ⟨v3, hv3⟩ : ∃ v, v2.alloc (.cells #[.int .i64 1, .int .i64 0, .int .i64 1, .int .i64 1, .string ⟨#[]⟩, .slice none 0 0] 25) = v := ⟨_, rfl⟩
    have s3 : v3.heap.size = g + 3 := by rw [← hv3, size_alloc_, s2]
    have k3 : After v2 v3 := by rw [← hv3]; exact inferInstance
    rw [hv3, s2] at d2
    rw [hv3]
    clear hv3
    have d3 := Blk.new v3 48 #[.slice (some ⟨G + 3, 0, none⟩) 1 1, .int .i64 1, .int .i64 0, .int .i64 3, .int .i64 0, .string ⟨#[]⟩, .slice none 0 0]
    obtain ⟨v4, hv4⟩ : ∃ v, v3.alloc (.cells #[.slice (some ⟨G + 3, 0, none⟩) 1 1, .int .i64 1, .int .i64 0, .int .i64 3, .int .i64 0, .string ⟨#[]⟩, .slice none 0 0] 48) = v := ⟨_, rfl⟩
    have s4 : v4.heap.size = g + 4 := by rw [← hv4, size_alloc_, s3]
    have k4 : After v3 v4 := by rw [← hv4]; exact inferInstance
    rw [hv4, s3] at d3
    rw [hv4]
    clear hv4
    have d4 := Blk.new v4 80 #[.string ⟨#[65]⟩, .slice none 0 0, .slice (some ⟨g + 3, 0, none⟩) 1 1, .slice none 0 0, .slice none 0 0, .slice none 0 0]
    obtain ⟨v5, hv5⟩ : ∃ v, v4.alloc (.cells #[.string ⟨#[65]⟩, .slice none 0 0, .slice (some ⟨g + 3, 0, none⟩) 1 1, .slice none 0 0, .slice none 0 0, .slice none 0 0] 80) = v := ⟨_, rfl⟩
    have s5 : v5.heap.size = g + 5 := by rw [← hv5, size_alloc_, s4]
    have k5 : After v4 v5 := by rw [← hv5]; exact inferInstance
    rw [hv5, s4] at d4
    rw [hv5]
    clear hv5
    exact ⟨v5, rfl, after_after k1 (after_after k2 (after_after k3 (after_after k4 (after_after k5 (after_refl v5))))), d0.after (k := after_after k2 (after_after k3 (after_after k4 (after_after k5 (after_refl v5))))), d1.after (k := after_after k3 (after_after k4 (after_after k5 (after_refl v5)))), d2.after (k := after_after k4 (after_after k5 (after_refl v5))), d3.after (k := after_after k5 (after_refl v5)), d4.after (k := after_refl v5)⟩
  have hW2' : (((((w1.alloc (.cells #[.slice (some ⟨G + 7, 0, none⟩) 1 1, .slice (some ⟨G + 8, 0, none⟩) 1 1] 32)).alloc (.cells #[.slice (some ⟨G + 3, 0, none⟩) 1 1, .int .i64 1, .int .i64 0, .int .i64 3, .int .i64 0, .string ⟨#[]⟩, .slice none 0 0] 48)).alloc (.cells #[.int .i64 1, .int .i64 0, .int .i64 1, .int .i64 1, .string ⟨#[]⟩, .slice none 0 0] 25)).alloc (.cells #[.slice (some ⟨G + 3, 0, none⟩) 1 1, .int .i64 1, .int .i64 0, .int .i64 3, .int .i64 0, .string ⟨#[]⟩, .slice none 0 0] 48)).alloc (.cells #[.string ⟨#[65]⟩, .slice none 0 0, .slice (some ⟨g + 1 + 1 + 1, 0, none⟩) 1 1, .slice none 0 0, .slice none 0 0, .slice none 0 0] 80)) = W2 := hW2
  try rw [hW2']
  try rw [hW2]
  try rw [show g + 1 + 1 = g + 2 from rfl, show g + 2 + 1 = g + 3 from rfl, show g + 3 + 1 = g + 4 from rfl]
  clear hW2 hW2'
  have L2 := L1.here W2
  have n2 := n1.after (w' := W2)
  have br2 := br1.after (w' := W2)
  have aw2 : After w W2 := after_after aw1 a2
  have u8g : G + 8 < g := by rw [← hg]; exact u8
  have hrg : w.heap.size ≤ r := Nat.le_of_eq hr
  clear q0 q1 q2 q3 q4 q5 q6 e0 ul4 ul8 a1 a2 L1 n1 br0 br1 u2 u8 hg hr aw1
  have hwm : IntKind.i64.wrap (24 + m) = 24 + m := by rw [IntKind.wrap_i64]; omega
  have HL : Hid (LI [(r, 32, #[.slice none 0 0, .slice none 0 0]), (G + 2, 83, #[.string ⟨#[120]⟩, .int .i64 3, .slice none 0 0]), (G + 3, 9, #[.string ⟨#[120]⟩]), (G + 4, 48, #[.slice (some ⟨G + 3, 0, none⟩) 1 1, .int .i64 1, .int .i64 0, .int .i64 3, .int .i64 0, .string ⟨#[]⟩, .slice none 0 0]), (G + 6, 9, #[.string ⟨#[82, 101, 100]⟩, .string ⟨#[71, 114, 101, 101, 110]⟩]), (G + 8, 45, lightC G)] (g) 0 32 (#[.slice (some ⟨G + 7, 0, none⟩) 1 1, .slice (some ⟨G + 8, 0, none⟩) 1 1]) w.heap.size 59 2 (rep [.string ⟨#[76, 105, 103, 104, 116]⟩, .slice (some ⟨G + 6, 0, none⟩) 2 2]) 1 (some ⟨G + 7, 0, none⟩) 1 W2) := by
    refine ⟨fun x hx => ?_, ?_, own_of_blk L2.b7 (by omega) rfl (by decide), fun x hx => ?_, ?_, fun x hx => ?_, ?_, ?_⟩
    · simp only [List.mem_cons, List.not_mem_nil, or_false] at hx
      rcases hx with rfl | rfl | rfl | rfl | rfl | rfl
      · exact br2
      · exact L2.b2
      · exact L2.b3
      · exact L2.b4
      · exact L2.b6
      · exact n2
    · exact c1
    · simp only [List.mem_cons, List.not_mem_nil, or_false] at hx
      rcases hx with rfl | rfl | rfl | rfl | rfl | rfl <;> (simp [Value.ownBlock] <;> omega)
    · simp [Value.ownBlock] <;> omega
    · simp only [List.mem_cons, List.not_mem_nil, or_false] at hx
      rcases hx with rfl | rfl | rfl | rfl | rfl | rfl <;> (simp only []; omega)
    · exact After.size w W2
    · exact (by decide : 0 < 2)
  clear c1 c2 c3 c4 c5 L2 n2 br2
  go_loopw [] (fun wr => ∃ (n : Nat) (A : Option Addr) (c : Nat), 1 ≤ n ∧ ((n : Int) ≤ 24 + m) ∧ Hid (LI [(r, 32, #[.slice none 0 0, .slice none 0 0]), (G + 2, 83, #[.string ⟨#[120]⟩, .int .i64 3, .slice none 0 0]), (G + 3, 9, #[.string ⟨#[120]⟩]), (G + 4, 48, #[.slice (some ⟨G + 3, 0, none⟩) 1 1, .int .i64 1, .int .i64 0, .int .i64 3, .int .i64 0, .string ⟨#[]⟩, .slice none 0 0]), (G + 6, 9, #[.string ⟨#[82, 101, 100]⟩, .string ⟨#[71, 114, 101, 101, 110]⟩]), (G + 8, 45, lightC G)] (g) 0 32 (#[.slice (some ⟨G + 7, 0, none⟩) 1 1, .slice (some ⟨G + 8, 0, none⟩) 1 1]) w.heap.size 59 2 (rep [.string ⟨#[76, 105, 103, 104, 116]⟩, .slice (some ⟨G + 6, 0, none⟩) 2 2]) n A c wr) ∧ After w wr) (fun wr => 400 - lenAt wr (g) 0)
  case atStart => exact ⟨1, (some ⟨G + 7, 0, none⟩), 1, by omega, by omega, HL, aw2⟩
  case round =>
    clear HL
    obtain ⟨n, A, c, h1, h2, hI, aw⟩ := hrel
    have e0 : wr.cell? ⟨g, 0, none⟩ = some (.slice A n c) := hI.out.cell
    have kp : ∀ x ∈ [(r, 32, #[.slice none 0 0, .slice none 0 0]), (G + 2, 83, #[.string ⟨#[120]⟩, .int .i64 3, .slice none 0 0]), (G + 3, 9, #[.string ⟨#[120]⟩]), (G + 4, 48, #[.slice (some ⟨G + 3, 0, none⟩) 1 1, .int .i64 1, .int .i64 0, .int .i64 3, .int .i64 0, .string ⟨#[]⟩, .slice none 0 0]), (G + 6, 9, #[.string ⟨#[82, 101, 100]⟩, .string ⟨#[71, 114, 101, 101, 110]⟩]), (G + 8, 45, lightC G)], Blk wr x.1 x.2.1 x.2.2 := hI.out.kl
    have bp := hI.out.bc
    have br := kp (r, 32, #[.slice none 0 0, .slice none 0 0]) (by simp)
    have lp := bp.is_le
    have lr := br.is_le
    have r0 := (br.cell 0).trans rfl
    have r1 := (br.cell 1).trans rfl
    have rf0 := br.frozen 0
    have rf1 := br.frozen 1
    have p0 := (bp.cell 0).trans rfl
    have p1 := (bp.cell 1).trans rfl
    clear kp
    have ef := hI.out.frozen
    have el := hI.out.le
    by_cases hlt : (n : Int) < 24 + m
    · obtain ⟨b0, rfl, lb0, hc0⟩ := hI.out.row0 h1
      have x0 := hc0 0 _ rfl
      have x1 := hc0 1 _ rfl
      clear hc0
      have hnI : ¬ ((n : Int) ≤ 0) := by omega
      have hnJ : (0 : Int) < (n : Int) := by omega
      have hnK : 0 < n := h1
      have hnL : n ≠ 0 := by omega
      go_wp2_with fail
      go_region_law (obtain ⟨i0, hi0, hz0, hz1, hz2⟩ := info_parts enumInfo; refine step_append_any (wr.drew.alloc (.cells #[.string ⟨#[76, 105, 103, 104, 116]⟩, .slice (some ⟨G + 6, 0, none⟩) 2 2] 59)) rfl (.tmp 55) (.tmp 60) 22 rfl w.heap.size 59 i0 _ 2 _ Try.underlying22 hi0 hz0 hz1 hz2 rfl (by decide) _ n _ rfl (own_after hI.out.own (w' := (wr.drew.alloc (.cells #[.string ⟨#[76, 105, 103, 104, 116]⟩, .slice (some ⟨G + 6, 0, none⟩) 2 2] 59))) inferInstance) _ _ 1 1 [.string ⟨#[76, 105, 103, 104, 116]⟩, .slice (some ⟨G + 6, 0, none⟩) 2 2] rfl (cells_flat (w := wr.drew) rfl #[.string ⟨#[76, 105, 103, 104, 116]⟩, .slice (some ⟨G + 6, 0, none⟩) 2 2] 59 _ rfl 1 2 rfl) (by intro u hu; simp only [List.mem_cons, List.not_mem_nil, or_false] at hu; rcases hu with rfl | rfl <;> rfl) (by unfold maxLen; omega) (by omega) (Nat.le_trans hI.out.hB (After.size wr (wr.drew.alloc (.cells #[.string ⟨#[76, 105, 103, 104, 116]⟩, .slice (some ⟨G + 6, 0, none⟩) 2 2] 59)))) ?_; intro r4 W4 own4 hg4 hnx4; obtain ⟨A4, c4, hA4, e4, ef4, el4, aw4, hI5⟩ := (hI.out.here (wr.drew.alloc (.cells #[.string ⟨#[76, 105, 103, 104, 116]⟩, .slice (some ⟨G + 6, 0, none⟩) 2 2] 59))).push (w0 := w) (after_after aw inferInstance) (Nat.le_refl _) (rep_succ _ n) own4 hg4 hnx4; subst hA4; clear own4 hg4 hnx4 hi0 hz0 hz1 hz2)
      all_goals (try go_wp2_with fail)
      all_goals first | exact ⟨⟨n + 1, A4, c4, by omega, by omega, hI5, after_set (k := ⟨by omega⟩) _ _⟩, by (rw [lenAt_of hI5.out.cell, lenAt_of e0]; omega)⟩ | (go_roundw; exact ⟨n + 1, A4, c4, by omega, by omega, hI5, after_set (k := ⟨by omega⟩) _ _⟩; (rw [lenAt_of hI5.out.cell, lenAt_of e0]; omega))
    · go_wp2_with fail
      have bf := (br.set_ 0 (.slice A n c)).set_ 1 (.slice (some ⟨G + 8, 0, none⟩) 1 1)
      have hf := (hI.out.drop.set (g := r) (i := 0) (u := .slice A n c) (fun y hy => by simp only [List.mem_cons, List.not_mem_nil, or_false] at hy; rcases hy with rfl | rfl | rfl | rfl | rfl <;> (simp only []; omega)) (by omega) (hI.out.ne _ (List.mem_cons_self ..))).set (g := r) (i := 1) (u := .slice (some ⟨G + 8, 0, none⟩) 1 1) (fun y hy => by simp only [List.mem_cons, List.not_mem_nil, or_false] at hy; rcases hy with rfl | rfl | rfl | rfl | rfl <;> (simp only []; omega)) (by omega) (hI.out.ne _ (List.mem_cons_self ..))
      have af : After w ((wr.setCell ⟨r, 0, none⟩ (.slice A n c)).setCell ⟨r, 1, none⟩ (.slice (some ⟨G + 8, 0, none⟩) 1 1)) := after_set (h := after_set (h := aw) (k := ⟨hrg⟩) _ _) (k := ⟨hrg⟩) _ _
      have f0 := (bf.cell 0).trans rfl
      have f1 := (bf.cell 1).trans rfl
      obtain ⟨WF, hWF⟩ : ∃ W, (wr.setCell ⟨r, 0, none⟩ (.slice A n c)).setCell ⟨r, 1, none⟩ (.slice (some ⟨G + 8, 0, none⟩) 1 1) = W := ⟨_, rfl⟩
      rw [hWF] at bf hf af f0 f1
      rw [hWF]
      clear hWF hI aw e0 bp br lp lr r0 r1 rf0 rf1 p0 p1 ef el bf
      have hn : (n : Int) = 24 + m := by omega
      clear hlt h1 h2 hwm
      exact bodyPost_ret (v := .agg #[.slice A n c, .slice (some ⟨G + 8, 0, none⟩) 1 1]) (by simp [results, Try.results14, go_sem, f0, f1]) rfl (wide_end_0 hm hn hf af)
end Go.Proofs.Ytdghfhnkacfahaa
set_option linter.unusedVariables false
set_option linter.unusedSimpArgs false
namespace Go.Proofs.Ytdghfhnkacfahaa
open Go.RowKit Go.BigFrame
theorem wide_end_1 {m : Int} (hm : -1 ≤ m ∧ m ≤ 3) {w WF : World} {n c G g : Nat} {A : Option Addr} (hn : (n : Int) = 96 + m) (h : LI [(G + 2, 83, #[.string ⟨#[120]⟩, .int .i64 3, .slice none 0 0]), (G + 3, 9, #[.string ⟨#[120]⟩]), (G + 4, 48, #[.slice (some ⟨G + 3, 0, none⟩) 1 1, .int .i64 1, .int .i64 0, .int .i64 3, .int .i64 0, .string ⟨#[]⟩, .slice none 0 0]), (G + 6, 9, #[.string ⟨#[82, 101, 100]⟩, .string ⟨#[71, 114, 101, 101, 110]⟩]), (G + 7, 59, #[.string ⟨#[76, 105, 103, 104, 116]⟩, .slice (some ⟨G + 6, 0, none⟩) 2 2])] (g) 1 32 (#[.slice (some ⟨G + 7, 0, none⟩) 1 1, .slice (some ⟨G + 8, 0, none⟩) 1 1]) w.heap.size 45 8 (rep [.string ⟨#[102]⟩, .slice none 0 0, .slice (some ⟨G + 2, 0, none⟩) 1 1, .slice none 0 0, .slice (some ⟨G + 4, 0, none⟩) 1 1, .slice none 0 0, .slice none 0 0, .slice none 0 0]) n A c WF) (a : After w WF) : WideR w m (.returned (.agg #[.slice (some ⟨G + 7, 0, none⟩) 1 1, .slice A n c])) WF := by
  have L : Light WF G := ⟨(h.kl (G + 2, 83, #[.string ⟨#[120]⟩, .int .i64 3, .slice none 0 0]) (by simp)), (h.kl (G + 3, 9, #[.string ⟨#[120]⟩]) (by simp)), (h.kl (G + 4, 48, #[.slice (some ⟨G + 3, 0, none⟩) 1 1, .int .i64 1, .int .i64 0, .int .i64 3, .int .i64 0, .string ⟨#[]⟩, .slice none 0 0]) (by simp)), (h.kl (G + 6, 9, #[.string ⟨#[82, 101, 100]⟩, .string ⟨#[71, 114, 101, 101, 110]⟩]) (by simp)), (h.kl (G + 7, 59, #[.string ⟨#[76, 105, 103, 104, 116]⟩, .slice (some ⟨G + 6, 0, none⟩) 2 2]) (by simp))⟩
  exact ⟨_, _, _, _, [lightU G], List.replicate n (lightN G), by (rw [List.length_replicate]; rfl), (wide_enums (h.kl (G + 6, 9, #[.string ⟨#[82, 101, 100]⟩, .string ⟨#[71, 114, 101, 101, 110]⟩]) (by simp)) (h.kl (G + 7, 59, #[.string ⟨#[76, 105, 103, 104, 116]⟩, .slice (some ⟨G + 6, 0, none⟩) 2 2]) (by simp))), row_node L h.own (by omega), (check_nodes G n).trans (limE_m (decide_eq_decide.2 (by omega))), a⟩
set_option maxRecDepth 100000 in
set_option maxHeartbeats 6400000 in
theorem wide_1 (m : Int) (hm : -1 ≤ m ∧ m ≤ 3) (w : World) : Calls Try.prog 14 #[.int .i64 1, .int .i64 m] w fun e w' => WideR w m e w' := by
  obtain ⟨r, hr⟩ : ∃ r, w.heap.size = r := ⟨_, rfl⟩
  have br0 := Blk.new w 32 #[.slice none 0 0, .slice none 0 0]
  rw [hr] at br0
  go_enter Try.func14, Try.ntmps14
  go_wp2_with fail
  try rw [hr]
  refine (light_any _).mono ?_
  rintro e w1 ⟨G, rfl, a1, hG, L1, n1⟩
  rw [size_alloc_, hr] at hG
  have br1 := br0.after (k := a1)
  have aw1 : After w w1 := after_after inferInstance a1
  have u2 := L1.b2.lt
  have u8 := n1.lt
  have ul4 := L1.b4.is_le
  have ul8 := n1.is_le
  have e0 : w1.cell? ⟨G + 8, 4, none⟩ = some (.slice (some ⟨G + 4, 0, none⟩) 1 1) := (n1.cell 4).trans rfl
  have q0 : w1.cell? ⟨G + 4, 0, none⟩ = some (.slice (some ⟨G + 3, 0, none⟩) 1 1) := (L1.b4.cell 0).trans rfl
  have q1 : w1.cell? ⟨G + 4, 1, none⟩ = some (.int .i64 1) := (L1.b4.cell 1).trans rfl
  have q2 : w1.cell? ⟨G + 4, 2, none⟩ = some (.int .i64 0) := (L1.b4.cell 2).trans rfl
  have q3 : w1.cell? ⟨G + 4, 3, none⟩ = some (.int .i64 3) := (L1.b4.cell 3).trans rfl
  have q4 : w1.cell? ⟨G + 4, 4, none⟩ = some (.int .i64 0) := (L1.b4.cell 4).trans rfl
  have q5 : w1.cell? ⟨G + 4, 5, none⟩ = some (.string ⟨#[]⟩) := (L1.b4.cell 5).trans rfl
  have q6 : w1.cell? ⟨G + 4, 6, none⟩ = some (.slice none 0 0) := (L1.b4.cell 6).trans rfl
  go_wp2_with fail
  obtain ⟨g, hg⟩ : ∃ g, w1.heap.size = g := ⟨_, rfl⟩
  try rw [hg]
  obtain ⟨W2, hW2, a2, c1, c2, c3, c4, c5⟩ : ∃ W, (((((w1.alloc (.cells #[.slice (some ⟨G + 7, 0, none⟩) 1 1, .slice (some ⟨G + 8, 0, none⟩) 1 1] 32)).alloc (.cells #[.slice (some ⟨G + 3, 0, none⟩) 1 1, .int .i64 1, .int .i64 0, .int .i64 3, .int .i64 0, .string ⟨#[]⟩, .slice none 0 0] 48)).alloc (.cells #[.int .i64 1, .int .i64 0, .int .i64 1, .int .i64 1, .string ⟨#[]⟩, .slice none 0 0] 25)).alloc (.cells #[.slice (some ⟨G + 3, 0, none⟩) 1 1, .int .i64 1, .int .i64 0, .int .i64 3, .int .i64 0, .string ⟨#[]⟩, .slice none 0 0] 48)).alloc (.cells #[.string ⟨#[65]⟩, .slice none 0 0, .slice (some ⟨g + 3, 0, none⟩) 1 1, .slice none 0 0, .slice none 0 0, .slice none 0 0] 80)) = W ∧ After w1 W ∧ Blk W (g) 32 #[.slice (some ⟨G + 7, 0, none⟩) 1 1, .slice (some ⟨G + 8, 0, none⟩) 1 1] ∧ Blk W (g + 1) 48 #[.slice (some ⟨G + 3, 0, none⟩) 1 1, .int .i64 1, .int .i64 0, .int .i64 3, .int .i64 0, .string ⟨#[]⟩, .slice none 0 0] ∧ Blk W (g + 2) 25 #[.int .i64 1, .int .i64 0, .int .i64 1, .int .i64 1, .string ⟨#[]⟩, .slice none 0 0] ∧ Blk W (g + 3) 48 #[.slice (some ⟨G + 3, 0, none⟩) 1 1, .int .i64 1, .int .i64 0, .int .i64 3, .int .i64 0, .string ⟨#[]⟩, .slice none 0 0] ∧ Blk W (g + 4) 80 #[.string ⟨#[65]⟩, .slice none 0 0, .slice (some ⟨g + 3, 0, none⟩) 1 1, .slice none 0 0, .slice none 0 0, .slice none 0 0] := by
    have d0 := Blk.new w1 32 #[.slice (some ⟨G + 7, 0, none⟩) 1 1, .slice (some ⟨G + 8, 0, none⟩) 1 1]
    obtain ⟨v1, hv1⟩ : ∃ v, w1.alloc (.cells #[.slice (some ⟨G + 7, 0, none⟩) 1 1, .slice (some ⟨G + 8, 0, none⟩) 1 1] 32) = v := ⟨_, rfl⟩
    have s1 : v1.heap.size = g + 1 := by rw [← hv1, size_alloc_, hg]
    have k1 : After w1 v1 := by rw [← hv1]; exact inferInstance
    rw [hv1, hg] at d0
    rw [hv1]
    clear hv1
    have d1 := Blk.new v1 48 #[.slice (some ⟨G + 3, 0, none⟩) 1 1, .int .i64 1, .int .i64 0, .int .i64 3, .int .i64 0, .string ⟨#[]⟩, .slice none 0 0]
    obtain ⟨v2, hv2⟩ : ∃ v, v1.alloc (.cells #[.slice (some ⟨G + 3, 0, none⟩) 1 1, .int .i64 1, .int .i64 0, .int .i64 3, .int .i64 0, .string ⟨#[]⟩, .slice none 0 0] 48) = v := ⟨_, rfl⟩
    have s2 : v2.heap.size = g + 2 := by rw [← hv2, size_alloc_, s1]
    have k2 : After v1 v2 := by rw [← hv2]; exact inferInstance
    rw [hv2, s1] at d1
    rw [hv2]
    clear hv2
    have d2 := Blk.new v2 25 #[.int .i64 1, .int .i64 0, .int .i64 1, .int .i64 1, .string ⟨#[]⟩, .slice none 0 0]
    obtain ⟨v3, hv3⟩ : ∃ v, v2.alloc (.cells #[.int .i64 1, .int .i64 0, .int .i64 1, .int .i64 1, .string ⟨#[]⟩, .slice none 0 0] 25) = v := ⟨_, rfl⟩
    have s3 : v3.heap.size = g + 3 := by rw [← hv3, size_alloc_, s2]
    have k3 : After v2 v3 := by rw [← hv3]; exact inferInstance
    rw [hv3, s2] at d2
    rw [hv3]
    clear hv3
    have d3 := Blk.new v3 48 #[.slice (some ⟨G + 3, 0, none⟩) 1 1, .int .i64 1, .int .i64 0, .int .i64 3, .int .i64 0, .string ⟨#[]⟩, .slice none 0 0]
    obtain ⟨v4, hv4⟩ : ∃ v, v3.alloc (.cells #[.slice (some ⟨G + 3, 0, none⟩) 1 1, .int .i64 1, .int .i64 0, .int .i64 3, .int .i64 0, .string ⟨#[]⟩, .slice none 0 0] 48) = v := ⟨_, rfl⟩
    have s4 : v4.heap.size = g + 4 := by rw [← hv4, size_alloc_, s3]
    have k4 : After v3 v4 := by rw [← hv4]; exact inferInstance
    rw [hv4, s3] at d3
    rw [hv4]
    clear hv4
    have d4 := Blk.new v4 80 #[.string ⟨#[65]⟩, .slice none 0 0, .slice (some ⟨g + 3, 0, none⟩) 1 1, .slice none 0 0, .slice none 0 0, .slice none 0 0]
    obtain ⟨v5, hv5⟩ : ∃ v, v4.alloc (.cells #[.string ⟨#[65]⟩, .slice none 0 0, .slice (some ⟨g + 3, 0, none⟩) 1 1, .slice none 0 0, .slice none 0 0, .slice none 0 0] 80) = v := ⟨_, rfl⟩
    have s5 : v5.heap.size = g + 5 := by rw [← hv5, size_alloc_, s4]
    have k5 : After v4 v5 := by rw [← hv5]; exact inferInstance
    rw [hv5, s4] at d4
    rw [hv5]
    clear hv5
    exact ⟨v5, rfl, after_after k1 (after_after k2 (after_after k3 (after_after k4 (after_after k5 (after_refl v5))))), d0.after (k := after_after k2 (after_after k3 (after_after k4 (after_after k5 (after_refl v5))))), d1.after (k := after_after k3 (after_after k4 (after_after k5 (after_refl v5)))), d2.after (k := after_after k4 (after_after k5 (after_refl v5))), d3.after (k := after_after k5 (after_refl v5)), d4.after (k := after_refl v5)⟩
  have hW2' : (((((w1.alloc (.cells #[.slice (some ⟨G + 7, 0, none⟩) 1 1, .slice (some ⟨G + 8, 0, none⟩) 1 1] 32)).alloc (.cells #[.slice (some ⟨G + 3, 0, none⟩) 1 1, .int .i64 1, .int .i64 0, .int .i64 3, .int .i64 0, .string ⟨#[]⟩, .slice none 0 0] 48)).alloc (.cells #[.int .i64 1, .int .i64 0, .int .i64 1, .int .i64 1, .string ⟨#[]⟩, .slice none 0 0] 25)).alloc (.cells #[.slice (some ⟨G + 3, 0, none⟩) 1 1, .int .i64 1, .int .i64 0, .int .i64 3, .int .i64 0, .string ⟨#[]⟩, .slice none 0 0] 48)).alloc (.cells #[.string ⟨#[65]⟩, .slice none 0 0, .slice (some ⟨g + 1 + 1 + 1, 0, none⟩) 1 1, .slice none 0 0, .slice none 0 0, .slice none 0 0] 80)) = W2 := hW2
  try rw [hW2']
  try rw [hW2]
  try rw [show g + 1 + 1 = g + 2 from rfl, show g + 2 + 1 = g + 3 from rfl, show g + 3 + 1 = g + 4 from rfl]
  clear hW2 hW2'
  have L2 := L1.here W2
  have n2 := n1.after (w' := W2)
  have br2 := br1.after (w' := W2)
  have aw2 : After w W2 := after_after aw1 a2
  have u8g : G + 8 < g := by rw [← hg]; exact u8
  have hrg : w.heap.size ≤ r := Nat.le_of_eq hr
  clear q0 q1 q2 q3 q4 q5 q6 e0 ul4 ul8 a1 a2 L1 n1 br0 br1 u2 u8 hg hr aw1
  have hwm : IntKind.i64.wrap (96 + m) = 96 + m := by rw [IntKind.wrap_i64]; omega
  have HL : Hid (LI [(r, 32, #[.slice none 0 0, .slice none 0 0]), (G + 2, 83, #[.string ⟨#[120]⟩, .int .i64 3, .slice none 0 0]), (G + 3, 9, #[.string ⟨#[120]⟩]), (G + 4, 48, #[.slice (some ⟨G + 3, 0, none⟩) 1 1, .int .i64 1, .int .i64 0, .int .i64 3, .int .i64 0, .string ⟨#[]⟩, .slice none 0 0]), (G + 6, 9, #[.string ⟨#[82, 101, 100]⟩, .string ⟨#[71, 114, 101, 101, 110]⟩]), (G + 7, 59, #[.string ⟨#[76, 105, 103, 104, 116]⟩, .slice (some ⟨G + 6, 0, none⟩) 2 2])] (g) 1 32 (#[.slice (some ⟨G + 7, 0, none⟩) 1 1, .slice (some ⟨G + 8, 0, none⟩) 1 1]) w.heap.size 45 8 (rep [.string ⟨#[102]⟩, .slice none 0 0, .slice (some ⟨G + 2, 0, none⟩) 1 1, .slice none 0 0, .slice (some ⟨G + 4, 0, none⟩) 1 1, .slice none 0 0, .slice none 0 0, .slice none 0 0]) 1 (some ⟨G + 8, 0, none⟩) 1 W2) := by
    refine ⟨fun x hx => ?_, ?_, own_of_blk n2 (by omega) rfl (by decide), fun x hx => ?_, ?_, fun x hx => ?_, ?_, ?_⟩
    · simp only [List.mem_cons, List.not_mem_nil, or_false] at hx
      rcases hx with rfl | rfl | rfl | rfl | rfl | rfl
      · exact br2
      · exact L2.b2
      · exact L2.b3
      · exact L2.b4
      · exact L2.b6
      · exact L2.b7
    · exact c1
    · simp only [List.mem_cons, List.not_mem_nil, or_false] at hx
      rcases hx with rfl | rfl | rfl | rfl | rfl | rfl <;> (simp [Value.ownBlock] <;> omega)
    · simp [Value.ownBlock] <;> omega
    · simp only [List.mem_cons, List.not_mem_nil, or_false] at hx
      rcases hx with rfl | rfl | rfl | rfl | rfl | rfl <;> (simp only []; omega)
    · exact After.size w W2
    · exact (by decide : 1 < 2)
  clear c1 c2 c3 c4 c5 L2 n2 br2
  go_loopw [] (fun wr => ∃ (n : Nat) (A : Option Addr) (c : Nat), 1 ≤ n ∧ ((n : Int) ≤ 96 + m) ∧ Hid (LI [(r, 32, #[.slice none 0 0, .slice none 0 0]), (G + 2, 83, #[.string ⟨#[120]⟩, .int .i64 3, .slice none 0 0]), (G + 3, 9, #[.string ⟨#[120]⟩]), (G + 4, 48, #[.slice (some ⟨G + 3, 0, none⟩) 1 1, .int .i64 1, .int .i64 0, .int .i64 3, .int .i64 0, .string ⟨#[]⟩, .slice none 0 0]), (G + 6, 9, #[.string ⟨#[82, 101, 100]⟩, .string ⟨#[71, 114, 101, 101, 110]⟩]), (G + 7, 59, #[.string ⟨#[76, 105, 103, 104, 116]⟩, .slice (some ⟨G + 6, 0, none⟩) 2 2])] (g) 1 32 (#[.slice (some ⟨G + 7, 0, none⟩) 1 1, .slice (some ⟨G + 8, 0, none⟩) 1 1]) w.heap.size 45 8 (rep [.string ⟨#[102]⟩, .slice none 0 0, .slice (some ⟨G + 2, 0, none⟩) 1 1, .slice none 0 0, .slice (some ⟨G + 4, 0, none⟩) 1 1, .slice none 0 0, .slice none 0 0, .slice none 0 0]) n A c wr) ∧ After w wr) (fun wr => 400 - lenAt wr (g) 1)
  case atStart => exact ⟨1, (some ⟨G + 8, 0, none⟩), 1, by omega, by omega, HL, aw2⟩
  case round =>
    clear HL
    obtain ⟨n, A, c, h1, h2, hI, aw⟩ := hrel
    have e0 : wr.cell? ⟨g, 1, none⟩ = some (.slice A n c) := hI.out.cell
    have kp : ∀ x ∈ [(r, 32, #[.slice none 0 0, .slice none 0 0]), (G + 2, 83, #[.string ⟨#[120]⟩, .int .i64 3, .slice none 0 0]), (G + 3, 9, #[.string ⟨#[120]⟩]), (G + 4, 48, #[.slice (some ⟨G + 3, 0, none⟩) 1 1, .int .i64 1, .int .i64 0, .int .i64 3, .int .i64 0, .string ⟨#[]⟩, .slice none 0 0]), (G + 6, 9, #[.string ⟨#[82, 101, 100]⟩, .string ⟨#[71, 114, 101, 101, 110]⟩]), (G + 7, 59, #[.string ⟨#[76, 105, 103, 104, 116]⟩, .slice (some ⟨G + 6, 0, none⟩) 2 2])], Blk wr x.1 x.2.1 x.2.2 := hI.out.kl
    have bp := hI.out.bc
    have br := kp (r, 32, #[.slice none 0 0, .slice none 0 0]) (by simp)
    have lp := bp.is_le
    have lr := br.is_le
    have r0 := (br.cell 0).trans rfl
    have r1 := (br.cell 1).trans rfl
    have rf0 := br.frozen 0
    have rf1 := br.frozen 1
    have p0 := (bp.cell 0).trans rfl
    have p1 := (bp.cell 1).trans rfl
    clear kp
    have ef := hI.out.frozen
    have el := hI.out.le
    by_cases hlt : (n : Int) < 96 + m
    · obtain ⟨b0, rfl, lb0, hc0⟩ := hI.out.row0 h1
      have x0 := hc0 0 _ rfl
      have x1 := hc0 1 _ rfl
      have x2 := hc0 2 _ rfl
      have x3 := hc0 3 _ rfl
      have x4 := hc0 4 _ rfl
      have x5 := hc0 5 _ rfl
      have x6 := hc0 6 _ rfl
      have x7 := hc0 7 _ rfl
      clear hc0
      have hnI : ¬ ((n : Int) ≤ 0) := by omega
      have hnJ : (0 : Int) < (n : Int) := by omega
      have hnK : 0 < n := h1
      have hnL : n ≠ 0 := by omega
      go_wp2_with fail
      go_region_law (obtain ⟨i0, hi0, hz0, hz1, hz2⟩ := info_parts nodeInfo; refine step_append_any (wr.drew.alloc (.cells #[.string ⟨#[102]⟩, .slice none 0 0, .slice (some ⟨G + 2, 0, none⟩) 1 1, .slice none 0 0, .slice (some ⟨G + 4, 0, none⟩) 1 1, .slice none 0 0, .slice none 0 0, .slice none 0 0] 45)) rfl (.tmp 72) (.tmp 77) 30 rfl w.heap.size 45 i0 _ 8 _ Try.underlying30 hi0 hz0 hz1 hz2 rfl (by decide) _ n _ rfl (own_after hI.out.own (w' := (wr.drew.alloc (.cells #[.string ⟨#[102]⟩, .slice none 0 0, .slice (some ⟨G + 2, 0, none⟩) 1 1, .slice none 0 0, .slice (some ⟨G + 4, 0, none⟩) 1 1, .slice none 0 0, .slice none 0 0, .slice none 0 0] 45))) inferInstance) _ _ 1 1 [.string ⟨#[102]⟩, .slice none 0 0, .slice (some ⟨G + 2, 0, none⟩) 1 1, .slice none 0 0, .slice (some ⟨G + 4, 0, none⟩) 1 1, .slice none 0 0, .slice none 0 0, .slice none 0 0] rfl (cells_flat (w := wr.drew) rfl #[.string ⟨#[102]⟩, .slice none 0 0, .slice (some ⟨G + 2, 0, none⟩) 1 1, .slice none 0 0, .slice (some ⟨G + 4, 0, none⟩) 1 1, .slice none 0 0, .slice none 0 0, .slice none 0 0] 45 _ rfl 1 8 rfl) (by intro u hu; simp only [List.mem_cons, List.not_mem_nil, or_false] at hu; rcases hu with rfl | rfl | rfl | rfl | rfl | rfl | rfl | rfl <;> rfl) (by unfold maxLen; omega) (by omega) (Nat.le_trans hI.out.hB (After.size wr (wr.drew.alloc (.cells #[.string ⟨#[102]⟩, .slice none 0 0, .slice (some ⟨G + 2, 0, none⟩) 1 1, .slice none 0 0, .slice (some ⟨G + 4, 0, none⟩) 1 1, .slice none 0 0, .slice none 0 0, .slice none 0 0] 45)))) ?_; intro r4 W4 own4 hg4 hnx4; obtain ⟨A4, c4, hA4, e4, ef4, el4, aw4, hI5⟩ := (hI.out.here (wr.drew.alloc (.cells #[.string ⟨#[102]⟩, .slice none 0 0, .slice (some ⟨G + 2, 0, none⟩) 1 1, .slice none 0 0, .slice (some ⟨G + 4, 0, none⟩) 1 1, .slice none 0 0, .slice none 0 0, .slice none 0 0] 45))).push (w0 := w) (after_after aw inferInstance) (Nat.le_refl _) (rep_succ _ n) own4 hg4 hnx4; subst hA4; clear own4 hg4 hnx4 hi0 hz0 hz1 hz2)
      all_goals (try go_wp2_with fail)
      all_goals first | exact ⟨⟨n + 1, A4, c4, by omega, by omega, hI5, after_set (k := ⟨by omega⟩) _ _⟩, by (rw [lenAt_of hI5.out.cell, lenAt_of e0]; omega)⟩ | (go_roundw; exact ⟨n + 1, A4, c4, by omega, by omega, hI5, after_set (k := ⟨by omega⟩) _ _⟩; (rw [lenAt_of hI5.out.cell, lenAt_of e0]; omega))
    · go_wp2_with fail
      have bf := (br.set_ 0 (.slice (some ⟨G + 7, 0, none⟩) 1 1)).set_ 1 (.slice A n c)
      have hf := (hI.out.drop.set (g := r) (i := 0) (u := .slice (some ⟨G + 7, 0, none⟩) 1 1) (fun y hy => by simp only [List.mem_cons, List.not_mem_nil, or_false] at hy; rcases hy with rfl | rfl | rfl | rfl | rfl <;> (simp only []; omega)) (by omega) (hI.out.ne _ (List.mem_cons_self ..))).set (g := r) (i := 1) (u := .slice A n c) (fun y hy => by simp only [List.mem_cons, List.not_mem_nil, or_false] at hy; rcases hy with rfl | rfl | rfl | rfl | rfl <;> (simp only []; omega)) (by omega) (hI.out.ne _ (List.mem_cons_self ..))
      have af : After w ((wr.setCell ⟨r, 0, none⟩ (.slice (some ⟨G + 7, 0, none⟩) 1 1)).setCell ⟨r, 1, none⟩ (.slice A n c)) := after_set (h := after_set (h := aw) (k := ⟨hrg⟩) _ _) (k := ⟨hrg⟩) _ _
      have f0 := (bf.cell 0).trans rfl
      have f1 := (bf.cell 1).trans rfl
      obtain ⟨WF, hWF⟩ : ∃ W, (wr.setCell ⟨r, 0, none⟩ (.slice (some ⟨G + 7, 0, none⟩) 1 1)).setCell ⟨r, 1, none⟩ (.slice A n c) = W := ⟨_, rfl⟩
      rw [hWF] at bf hf af f0 f1
      rw [hWF]
      clear hWF hI aw e0 bp br lp lr r0 r1 rf0 rf1 p0 p1 ef el bf
      have hn : (n : Int) = 96 + m := by omega
      clear hlt h1 h2 hwm
      exact bodyPost_ret (v := .agg #[.slice (some ⟨G + 7, 0, none⟩) 1 1, .slice A n c]) (by simp [results, Try.results14, go_sem, f0, f1]) rfl (wide_end_1 hm hn hf af)
end Go.Proofs.Ytdghfhnkacfahaa
set_option linter.unusedVariables false
set_option linter.unusedSimpArgs false
namespace Go.Proofs.Ytdghfhnkacfahaa
open Go.RowKit Go.BigFrame
theorem wide_end_2 {m : Int} (hm : -1 ≤ m ∧ m ≤ 3) {w WF : World} {n c G g : Nat} {A : Option Addr} (hn : (n : Int) = 64 + m) (h : LI [(g, 32, #[.slice (some ⟨G + 7, 0, none⟩) 1 1, .slice (some ⟨G + 8, 0, none⟩) 1 1]), (G + 2, 83, #[.string ⟨#[120]⟩, .int .i64 3, .slice none 0 0]), (G + 3, 9, #[.string ⟨#[120]⟩]), (G + 4, 48, #[.slice (some ⟨G + 3, 0, none⟩) 1 1, .int .i64 1, .int .i64 0, .int .i64 3, .int .i64 0, .string ⟨#[]⟩, .slice none 0 0]), (G + 6, 9, #[.string ⟨#[82, 101, 100]⟩, .string ⟨#[71, 114, 101, 101, 110]⟩]), (G + 7, 59, #[.string ⟨#[76, 105, 103, 104, 116]⟩, .slice (some ⟨G + 6, 0, none⟩) 2 2])] (G + 8) 1 45 (lightC G) w.heap.size 83 3 (rep [.string ⟨#[97]⟩, .int .i64 2, .slice none 0 0]) n A c WF) (a : After w WF) : WideR w m (.returned (.agg #[.slice (some ⟨G + 7, 0, none⟩) 1 1, .slice (some ⟨G + 8, 0, none⟩) 1 1])) WF := by
  have R : RowOf 8 (PNd True) WF ⟨some ⟨G + 8, 0, none⟩, 1, [{ lightN G with ins := ⟨A, c, List.replicate n aDecl⟩ }]⟩ := wide_node (h.kl (G + 2, 83, #[.string ⟨#[120]⟩, .int .i64 3, .slice none 0 0]) (by simp)) (x := { lightN G with ins := ⟨A, c, List.replicate n aDecl⟩ }) (by have hb := h.bc; simp only [ndCells, List.length_replicate]; exact hb) rfl rfl rfl (row_decl h.own (by omega)) (RowOf.nil WF) (wide_eqs (h.kl (G + 3, 9, #[.string ⟨#[120]⟩]) (by simp)) (h.kl (G + 4, 48, #[.slice (some ⟨G + 3, 0, none⟩) 1 1, .int .i64 1, .int .i64 0, .int .i64 3, .int .i64 0, .string ⟨#[]⟩, .slice none 0 0]) (by simp))) (RowOf.nil WF) (RowOf.nil WF)
  refine ⟨_, _, _, _, [lightU G], [{ lightN G with ins := ⟨A, c, List.replicate n aDecl⟩ }], rfl, (wide_enums (h.kl (G + 6, 9, #[.string ⟨#[82, 101, 100]⟩, .string ⟨#[71, 114, 101, 101, 110]⟩]) (by simp)) (h.kl (G + 7, 59, #[.string ⟨#[76, 105, 103, 104, 116]⟩, .slice (some ⟨G + 6, 0, none⟩) 2 2]) (by simp))), R, ?_, a⟩
  rw [node_wide G (x := { lightN G with ins := ⟨A, c, List.replicate n aDecl⟩ }) rfl rfl rfl (firstE_rep (decl_a _ _) n) rfl (by simp only [lightN, firstE, eq_light (two_light G)]; rfl) rfl rfl (b := decide (m ≤ 0)) (by simp only [lightN, List.length_replicate, List.length_nil, List.length_cons]; simp; omega)]
  exact limE_m rfl
set_option maxRecDepth 100000 in
set_option maxHeartbeats 6400000 in
theorem wide_2 (m : Int) (hm : -1 ≤ m ∧ m ≤ 3) (w : World) : Calls Try.prog 14 #[.int .i64 2, .int .i64 m] w fun e w' => WideR w m e w' := by
  obtain ⟨r, hr⟩ : ∃ r, w.heap.size = r := ⟨_, rfl⟩
  have br0 := Blk.new w 32 #[.slice none 0 0, .slice none 0 0]
  rw [hr] at br0
  go_enter Try.func14, Try.ntmps14
  go_wp2_with fail
  try rw [hr]
  refine (light_any _).mono ?_
  rintro e w1 ⟨G, rfl, a1, hG, L1, n1⟩
  rw [size_alloc_, hr] at hG
  have br1 := br0.after (k := a1)
  have aw1 : After w w1 := after_after inferInstance a1
  have u2 := L1.b2.lt
  have u8 := n1.lt
  have ul4 := L1.b4.is_le
  have ul8 := n1.is_le
  have e0 : w1.cell? ⟨G + 8, 4, none⟩ = some (.slice (some ⟨G + 4, 0, none⟩) 1 1) := (n1.cell 4).trans rfl
  have q0 : w1.cell? ⟨G + 4, 0, none⟩ = some (.slice (some ⟨G + 3, 0, none⟩) 1 1) := (L1.b4.cell 0).trans rfl
  have q1 : w1.cell? ⟨G + 4, 1, none⟩ = some (.int .i64 1) := (L1.b4.cell 1).trans rfl
  have q2 : w1.cell? ⟨G + 4, 2, none⟩ = some (.int .i64 0) := (L1.b4.cell 2).trans rfl
  have q3 : w1.cell? ⟨G + 4, 3, none⟩ = some (.int .i64 3) := (L1.b4.cell 3).trans rfl
  have q4 : w1.cell? ⟨G + 4, 4, none⟩ = some (.int .i64 0) := (L1.b4.cell 4).trans rfl
  have q5 : w1.cell? ⟨G + 4, 5, none⟩ = some (.string ⟨#[]⟩) := (L1.b4.cell 5).trans rfl
  have q6 : w1.cell? ⟨G + 4, 6, none⟩ = some (.slice none 0 0) := (L1.b4.cell 6).trans rfl
  go_wp2_with fail
  obtain ⟨g, hg⟩ : ∃ g, w1.heap.size = g := ⟨_, rfl⟩
  try rw [hg]
  obtain ⟨W2, hW2, a2, c1, c2, c3, c4, c5⟩ : ∃ W, (((((w1.alloc (.cells #[.slice (some ⟨G + 7, 0, none⟩) 1 1, .slice (some ⟨G + 8, 0, none⟩) 1 1] 32)).alloc (.cells #[.slice (some ⟨G + 3, 0, none⟩) 1 1, .int .i64 1, .int .i64 0, .int .i64 3, .int .i64 0, .string ⟨#[]⟩, .slice none 0 0] 48)).alloc (.cells #[.int .i64 1, .int .i64 0, .int .i64 1, .int .i64 1, .string ⟨#[]⟩, .slice none 0 0] 25)).alloc (.cells #[.slice (some ⟨G + 3, 0, none⟩) 1 1, .int .i64 1, .int .i64 0, .int .i64 3, .int .i64 0, .string ⟨#[]⟩, .slice none 0 0] 48)).alloc (.cells #[.string ⟨#[65]⟩, .slice none 0 0, .slice (some ⟨g + 3, 0, none⟩) 1 1, .slice none 0 0, .slice none 0 0, .slice none 0 0] 80)) = W ∧ After w1 W ∧ Blk W (g) 32 #[.slice (some ⟨G + 7, 0, none⟩) 1 1, .slice (some ⟨G + 8, 0, none⟩) 1 1] ∧ Blk W (g + 1) 48 #[.slice (some ⟨G + 3, 0, none⟩) 1 1, .int .i64 1, .int .i64 0, .int .i64 3, .int .i64 0, .string ⟨#[]⟩, .slice none 0 0] ∧ Blk W (g + 2) 25 #[.int .i64 1, .int .i64 0, .int .i64 1, .int .i64 1, .string ⟨#[]⟩, .slice none 0 0] ∧ Blk W (g + 3) 48 #[.slice (some ⟨G + 3, 0, none⟩) 1 1, .int .i64 1, .int .i64 0, .int .i64 3, .int .i64 0, .string ⟨#[]⟩, .slice none 0 0] ∧ Blk W (g + 4) 80 #[.string ⟨#[65]⟩, .slice none 0 0, .slice (some ⟨g + 3, 0, none⟩) 1 1, .slice none 0 0, .slice none 0 0, .slice none 0 0] := by
    have d0 := Blk.new w1 32 #[.slice (some ⟨G + 7, 0, none⟩) 1 1, .slice (some ⟨G + 8, 0, none⟩) 1 1]
    obtain ⟨v1, hv1⟩ : ∃ v, w1.alloc (.cells #[.slice (some ⟨G + 7, 0, none⟩) 1 1, .slice (some ⟨G + 8, 0, none⟩) 1 1] 32) = v := ⟨_, rfl⟩
    have s1 : v1.heap.size = g + 1 := by rw [← hv1, size_alloc_, hg]
    have k1 : After w1 v1 := by rw [← hv1]; exact inferInstance
    rw [hv1, hg] at d0
    rw [hv1]
    clear hv1
    have d1 := Blk.new v1 48 #[.slice (some ⟨G + 3, 0, none⟩) 1 1, .int .i64 1, .int .i64 0, .int .i64 3, .int .i64 0, .string ⟨#[]⟩, .slice none 0 0]
    obtain ⟨v2, hv2⟩ : ∃ v, v1.alloc (.cells #[.slice (some ⟨G + 3, 0, none⟩) 1 1, .int .i64 1, .int .i64 0, .int .i64 3, .int .i64 0, .string ⟨#[]⟩, .slice none 0 0] 48) = v := ⟨_, rfl⟩
    have s2 : v2.heap.size = g + 2 := by rw [← hv2, size_alloc_, s1]
    have k2 : After v1 v2 := by rw [← hv2]; exact inferInstance
    rw [hv2, s1] at d1
    rw [hv2]
    clear hv2
    have d2 := Blk.new v2 25 #[.int .i64 1, .int .i64 0, .int .i64 1, .int .i64 1, .string ⟨#[]⟩, .slice none 0 0]
    obtain ⟨v3, hv3⟩ : ∃ v, v2.alloc (.cells #[.int .i64 1, .int .i64 0, .int .i64 1, .int .i64 1, .string ⟨#[]⟩, .slice none 0 0] 25) = v := ⟨_, rfl⟩
    have s3 : v3.heap.size = g + 3 := by rw [← hv3, size_alloc_, s2]
    have k3 : After v2 v3 := by rw [← hv3]; exact inferInstance
    rw [hv3, s2] at d2
    rw [hv3]
    clear hv3
    have d3 := Blk.new v3 48 #[.slice (some ⟨G + 3, 0, none⟩) 1 1, .int .i64 1, .int .i64 0, .int .i64 3, .int .i64 0, .string ⟨#[]⟩, .slice none 0 0]
    obtain ⟨v4, hv4⟩ : ∃ v, v3.alloc (.cells #[.slice (some ⟨G + 3, 0, none⟩) 1 1, .int .i64 1, .int .i64 0, .int .i64 3, .int .i64 0, .string ⟨#[]⟩, .slice none 0 0] 48) = v := ⟨_, rfl⟩
    have s4 : v4.heap.size = g + 4 := by rw [← hv4, size_alloc_, s3]
    have k4 : After v3 v4 := by rw [← hv4]; exact inferInstance
    rw [hv4, s3] at d3
    rw [hv4]
    clear hv4
    have d4 := Blk.new v4 80 #[.string ⟨#[65]⟩, .slice none 0 0, .slice (some ⟨g + 3, 0, none⟩) 1 1, .slice none 0 0, .slice none 0 0, .slice none 0 0]
    obtain ⟨v5, hv5⟩ : ∃ v, v4.alloc (.cells #[.string ⟨#[65]⟩, .slice none 0 0, .slice (some ⟨g + 3, 0, none⟩) 1 1, .slice none 0 0, .slice none 0 0, .slice none 0 0] 80) = v := ⟨_, rfl⟩
    have s5 : v5.heap.size = g + 5 := by rw [← hv5, size_alloc_, s4]
    have k5 : After v4 v5 := by rw [← hv5]; exact inferInstance
    rw [hv5, s4] at d4
    rw [hv5]
    clear hv5
    exact ⟨v5, rfl, after_after k1 (after_after k2 (after_after k3 (after_after k4 (after_after k5 (after_refl v5))))), d0.after (k := after_after k2 (after_after k3 (after_after k4 (after_after k5 (after_refl v5))))), d1.after (k := after_after k3 (after_after k4 (after_after k5 (after_refl v5)))), d2.after (k := after_after k4 (after_after k5 (after_refl v5))), d3.after (k := after_after k5 (after_refl v5)), d4.after (k := after_refl v5)⟩
  have hW2' : (((((w1.alloc (.cells #[.slice (some ⟨G + 7, 0, none⟩) 1 1, .slice (some ⟨G + 8, 0, none⟩) 1 1] 32)).alloc (.cells #[.slice (some ⟨G + 3, 0, none⟩) 1 1, .int .i64 1, .int .i64 0, .int .i64 3, .int .i64 0, .string ⟨#[]⟩, .slice none 0 0] 48)).alloc (.cells #[.int .i64 1, .int .i64 0, .int .i64 1, .int .i64 1, .string ⟨#[]⟩, .slice none 0 0] 25)).alloc (.cells #[.slice (some ⟨G + 3, 0, none⟩) 1 1, .int .i64 1, .int .i64 0, .int .i64 3, .int .i64 0, .string ⟨#[]⟩, .slice none 0 0] 48)).alloc (.cells #[.string ⟨#[65]⟩, .slice none 0 0, .slice (some ⟨g + 1 + 1 + 1, 0, none⟩) 1 1, .slice none 0 0, .slice none 0 0, .slice none 0 0] 80)) = W2 := hW2
  try rw [hW2']
  try rw [hW2]
  try rw [show g + 1 + 1 = g + 2 from rfl, show g + 2 + 1 = g + 3 from rfl, show g + 3 + 1 = g + 4 from rfl]
  clear hW2 hW2'
  have L2 := L1.here W2
  have n2 := n1.after (w' := W2)
  have br2 := br1.after (w' := W2)
  have aw2 : After w W2 := after_after aw1 a2
  have u8g : G + 8 < g := by rw [← hg]; exact u8
  have hrg : w.heap.size ≤ r := Nat.le_of_eq hr
  clear q0 q1 q2 q3 q4 q5 q6 e0 ul4 ul8 a1 a2 L1 n1 br0 br1 u2 u8 hg hr aw1
  have hwm : IntKind.i64.wrap (64 + m) = 64 + m := by rw [IntKind.wrap_i64]; omega
  have HL : Hid (LI [(r, 32, #[.slice none 0 0, .slice none 0 0]), (g, 32, #[.slice (some ⟨G + 7, 0, none⟩) 1 1, .slice (some ⟨G + 8, 0, none⟩) 1 1]), (G + 2, 83, #[.string ⟨#[120]⟩, .int .i64 3, .slice none 0 0]), (G + 3, 9, #[.string ⟨#[120]⟩]), (G + 4, 48, #[.slice (some ⟨G + 3, 0, none⟩) 1 1, .int .i64 1, .int .i64 0, .int .i64 3, .int .i64 0, .string ⟨#[]⟩, .slice none 0 0]), (G + 6, 9, #[.string ⟨#[82, 101, 100]⟩, .string ⟨#[71, 114, 101, 101, 110]⟩]), (G + 7, 59, #[.string ⟨#[76, 105, 103, 104, 116]⟩, .slice (some ⟨G + 6, 0, none⟩) 2 2])] (G + 8) 1 45 (lightC G) w.heap.size 83 3 (rep [.string ⟨#[97]⟩, .int .i64 2, .slice none 0 0]) 0 none 0 W2) := by
    refine ⟨fun x hx => ?_, ?_, World.ownsRow_nil .., fun x hx => ?_, ?_, fun x hx => ?_, ?_, ?_⟩
    · simp only [List.mem_cons, List.not_mem_nil, or_false] at hx
      rcases hx with rfl | rfl | rfl | rfl | rfl | rfl | rfl
      · exact br2
      · exact c1
      · exact L2.b2
      · exact L2.b3
      · exact L2.b4
      · exact L2.b6
      · exact L2.b7
    · exact n2
    · simp only [List.mem_cons, List.not_mem_nil, or_false] at hx
      rcases hx with rfl | rfl | rfl | rfl | rfl | rfl | rfl <;> (simp [Value.ownBlock] <;> omega)
    · simp [Value.ownBlock] <;> omega
    · simp only [List.mem_cons, List.not_mem_nil, or_false] at hx
      rcases hx with rfl | rfl | rfl | rfl | rfl | rfl | rfl <;> (simp only []; omega)
    · exact After.size w W2
    · exact (by decide : 1 < 8)
  clear c1 c2 c3 c4 c5 L2 n2 br2
  go_loopw [] (fun wr => ∃ (n : Nat) (A : Option Addr) (c : Nat), 0 ≤ n ∧ ((n : Int) ≤ 64 + m) ∧ Hid (LI [(r, 32, #[.slice none 0 0, .slice none 0 0]), (g, 32, #[.slice (some ⟨G + 7, 0, none⟩) 1 1, .slice (some ⟨G + 8, 0, none⟩) 1 1]), (G + 2, 83, #[.string ⟨#[120]⟩, .int .i64 3, .slice none 0 0]), (G + 3, 9, #[.string ⟨#[120]⟩]), (G + 4, 48, #[.slice (some ⟨G + 3, 0, none⟩) 1 1, .int .i64 1, .int .i64 0, .int .i64 3, .int .i64 0, .string ⟨#[]⟩, .slice none 0 0]), (G + 6, 9, #[.string ⟨#[82, 101, 100]⟩, .string ⟨#[71, 114, 101, 101, 110]⟩]), (G + 7, 59, #[.string ⟨#[76, 105, 103, 104, 116]⟩, .slice (some ⟨G + 6, 0, none⟩) 2 2])] (G + 8) 1 45 (lightC G) w.heap.size 83 3 (rep [.string ⟨#[97]⟩, .int .i64 2, .slice none 0 0]) n A c wr) ∧ After w wr) (fun wr => 400 - lenAt wr (G + 8) 1)
  case atStart => exact ⟨0, none, 0, by omega, by omega, HL, aw2⟩
  case round =>
    clear HL
    obtain ⟨n, A, c, h1, h2, hI, aw⟩ := hrel
    have e0 : wr.cell? ⟨G + 8, 1, none⟩ = some (.slice A n c) := hI.out.cell
    have kp : ∀ x ∈ [(r, 32, #[.slice none 0 0, .slice none 0 0]), (g, 32, #[.slice (some ⟨G + 7, 0, none⟩) 1 1, .slice (some ⟨G + 8, 0, none⟩) 1 1]), (G + 2, 83, #[.string ⟨#[120]⟩, .int .i64 3, .slice none 0 0]), (G + 3, 9, #[.string ⟨#[120]⟩]), (G + 4, 48, #[.slice (some ⟨G + 3, 0, none⟩) 1 1, .int .i64 1, .int .i64 0, .int .i64 3, .int .i64 0, .string ⟨#[]⟩, .slice none 0 0]), (G + 6, 9, #[.string ⟨#[82, 101, 100]⟩, .string ⟨#[71, 114, 101, 101, 110]⟩]), (G + 7, 59, #[.string ⟨#[76, 105, 103, 104, 116]⟩, .slice (some ⟨G + 6, 0, none⟩) 2 2])], Blk wr x.1 x.2.1 x.2.2 := hI.out.kl
    have bp := kp (g, 32, #[.slice (some ⟨G + 7, 0, none⟩) 1 1, .slice (some ⟨G + 8, 0, none⟩) 1 1]) (by simp)
    have br := kp (r, 32, #[.slice none 0 0, .slice none 0 0]) (by simp)
    have lp := bp.is_le
    have lr := br.is_le
    have r0 := (br.cell 0).trans rfl
    have r1 := (br.cell 1).trans rfl
    have rf0 := br.frozen 0
    have rf1 := br.frozen 1
    have p0 := (bp.cell 0).trans rfl
    have p1 := (bp.cell 1).trans rfl
    clear kp
    have ef := hI.out.frozen
    have el := hI.out.le
    by_cases hlt : (n : Int) < 64 + m
    · go_wp2_with (at_builtin; obtain ⟨i0, hi0, hz0, hz1, hz2⟩ := info_parts declInfo; refine wpList_append_any (wr.alloc (.cells #[.string ⟨#[97]⟩, .int .i64 2, .slice none 0 0] 83)) rfl (.tmp 94) (.tmp 96) 41 rfl w.heap.size 83 i0 _ 3 _ Try.underlying41 hi0 hz0 hz1 hz2 rfl (by decide) _ n _ rfl (own_after hI.out.own (w' := (wr.alloc (.cells #[.string ⟨#[97]⟩, .int .i64 2, .slice none 0 0] 83))) inferInstance) _ _ 1 1 [.string ⟨#[97]⟩, .int .i64 2, .slice none 0 0] rfl (cells_flat (w := wr) rfl #[.string ⟨#[97]⟩, .int .i64 2, .slice none 0 0] 83 _ rfl 1 3 rfl) (by intro u hu; simp only [List.mem_cons, List.not_mem_nil, or_false] at hu; rcases hu with rfl | rfl | rfl <;> rfl) (by unfold maxLen; omega) (by omega) (Nat.le_trans hI.out.hB (After.size wr (wr.alloc (.cells #[.string ⟨#[97]⟩, .int .i64 2, .slice none 0 0] 83)))) ?_; intro r4 W4 own4 hg4 hnx4; obtain ⟨A4, c4, hA4, e4, ef4, el4, aw4, hI5⟩ := (hI.out.here (wr.alloc (.cells #[.string ⟨#[97]⟩, .int .i64 2, .slice none 0 0] 83))).push (w0 := w) (after_after aw inferInstance) (Nat.le_refl _) (rep_succ _ n) own4 hg4 hnx4; subst hA4; clear own4 hg4 hnx4 hi0 hz0 hz1 hz2)
      go_roundw
      case rel => exact ⟨n + 1, A4, c4, by omega, by omega, hI5, after_set (k := ⟨by omega⟩) _ _⟩
      case measure => (rw [lenAt_of hI5.out.cell, lenAt_of e0]; omega)
    · go_wp2_with fail
      have bf := (br.set_ 0 (.slice (some ⟨G + 7, 0, none⟩) 1 1)).set_ 1 (.slice (some ⟨G + 8, 0, none⟩) 1 1)
      have hf := (hI.out.drop.set (g := r) (i := 0) (u := .slice (some ⟨G + 7, 0, none⟩) 1 1) (fun y hy => by simp only [List.mem_cons, List.not_mem_nil, or_false] at hy; rcases hy with rfl | rfl | rfl | rfl | rfl | rfl <;> (simp only []; omega)) (by omega) (hI.out.ne _ (List.mem_cons_self ..))).set (g := r) (i := 1) (u := .slice (some ⟨G + 8, 0, none⟩) 1 1) (fun y hy => by simp only [List.mem_cons, List.not_mem_nil, or_false] at hy; rcases hy with rfl | rfl | rfl | rfl | rfl | rfl <;> (simp only []; omega)) (by omega) (hI.out.ne _ (List.mem_cons_self ..))
      have af : After w ((wr.setCell ⟨r, 0, none⟩ (.slice (some ⟨G + 7, 0, none⟩) 1 1)).setCell ⟨r, 1, none⟩ (.slice (some ⟨G + 8, 0, none⟩) 1 1)) := after_set (h := after_set (h := aw) (k := ⟨hrg⟩) _ _) (k := ⟨hrg⟩) _ _
      have f0 := (bf.cell 0).trans rfl
      have f1 := (bf.cell 1).trans rfl
      obtain ⟨WF, hWF⟩ : ∃ W, (wr.setCell ⟨r, 0, none⟩ (.slice (some ⟨G + 7, 0, none⟩) 1 1)).setCell ⟨r, 1, none⟩ (.slice (some ⟨G + 8, 0, none⟩) 1 1) = W := ⟨_, rfl⟩
      rw [hWF] at bf hf af f0 f1
      rw [hWF]
      clear hWF hI aw e0 bp br lp lr r0 r1 rf0 rf1 p0 p1 ef el bf
      have hn : (n : Int) = 64 + m := by omega
      clear hlt h1 h2 hwm
      exact bodyPost_ret (v := .agg #[.slice (some ⟨G + 7, 0, none⟩) 1 1, .slice (some ⟨G + 8, 0, none⟩) 1 1]) (by simp [results, Try.results14, go_sem, f0, f1]) rfl (wide_end_2 hm hn hf af)
end Go.Proofs.Ytdghfhnkacfahaa
set_option linter.unusedVariables false
set_option linter.unusedSimpArgs false
namespace Go.Proofs.Ytdghfhnkacfahaa
open Go.RowKit Go.BigFrame
theorem wide_end_3 {m : Int} (hm : -1 ≤ m ∧ m ≤ 3) {w WF : World} {n c G g : Nat} {A : Option Addr} (hn : (n : Int) = 256 + m) (h : LI [(g, 32, #[.slice (some ⟨G + 7, 0, none⟩) 1 1, .slice (some ⟨G + 8, 0, none⟩) 1 1]), (G + 2, 83, #[.string ⟨#[120]⟩, .int .i64 3, .slice none 0 0]), (G + 3, 9, #[.string ⟨#[120]⟩]), (G + 4, 48, #[.slice (some ⟨G + 3, 0, none⟩) 1 1, .int .i64 1, .int .i64 0, .int .i64 3, .int .i64 0, .string ⟨#[]⟩, .slice none 0 0]), (G + 6, 9, #[.string ⟨#[82, 101, 100]⟩, .string ⟨#[71, 114, 101, 101, 110]⟩]), (G + 7, 59, #[.string ⟨#[76, 105, 103, 104, 116]⟩, .slice (some ⟨G + 6, 0, none⟩) 2 2])] (G + 8) 3 45 (lightC G) w.heap.size 83 3 (rep [.string ⟨#[97]⟩, .int .i64 2, .slice none 0 0]) n A c WF) (a : After w WF) : WideR w m (.returned (.agg #[.slice (some ⟨G + 7, 0, none⟩) 1 1, .slice (some ⟨G + 8, 0, none⟩) 1 1])) WF := by
  have R : RowOf 8 (PNd True) WF ⟨some ⟨G + 8, 0, none⟩, 1, [{ lightN G with locals := ⟨A, c, List.replicate n aDecl⟩ }]⟩ := wide_node (h.kl (G + 2, 83, #[.string ⟨#[120]⟩, .int .i64 3, .slice none 0 0]) (by simp)) (x := { lightN G with locals := ⟨A, c, List.replicate n aDecl⟩ }) (by have hb := h.bc; simp only [ndCells, List.length_replicate]; exact hb) rfl rfl rfl (RowOf.nil WF) (row_decl h.own (by omega)) (wide_eqs (h.kl (G + 3, 9, #[.string ⟨#[120]⟩]) (by simp)) (h.kl (G + 4, 48, #[.slice (some ⟨G + 3, 0, none⟩) 1 1, .int .i64 1, .int .i64 0, .int .i64 3, .int .i64 0, .string ⟨#[]⟩, .slice none 0 0]) (by simp))) (RowOf.nil WF) (RowOf.nil WF)
  refine ⟨_, _, _, _, [lightU G], [{ lightN G with locals := ⟨A, c, List.replicate n aDecl⟩ }], rfl, (wide_enums (h.kl (G + 6, 9, #[.string ⟨#[82, 101, 100]⟩, .string ⟨#[71, 114, 101, 101, 110]⟩]) (by simp)) (h.kl (G + 7, 59, #[.string ⟨#[76, 105, 103, 104, 116]⟩, .slice (some ⟨G + 6, 0, none⟩) 2 2]) (by simp))), R, ?_, a⟩
  rw [node_wide G (x := { lightN G with locals := ⟨A, c, List.replicate n aDecl⟩ }) rfl rfl rfl rfl (firstE_rep (decl_a _ _) n) (by simp only [lightN, firstE, eq_light (two_light G)]; rfl) rfl rfl (b := decide (m ≤ 0)) (by simp only [lightN, List.length_replicate, List.length_nil, List.length_cons]; simp; omega)]
  exact limE_m rfl
set_option maxRecDepth 100000 in
set_option maxHeartbeats 6400000 in
theorem wide_3 (m : Int) (hm : -1 ≤ m ∧ m ≤ 3) (w : World) : Calls Try.prog 14 #[.int .i64 3, .int .i64 m] w fun e w' => WideR w m e w' := by
  obtain ⟨r, hr⟩ : ∃ r, w.heap.size = r := ⟨_, rfl⟩
  have br0 := Blk.new w 32 #[.slice none 0 0, .slice none 0 0]
  rw [hr] at br0
  go_enter Try.func14, Try.ntmps14
  go_wp2_with fail
  try rw [hr]
  refine (light_any _).mono ?_
  rintro e w1 ⟨G, rfl, a1, hG, L1, n1⟩
  rw [size_alloc_, hr] at hG
  have br1 := br0.after (k := a1)
  have aw1 : After w w1 := after_after inferInstance a1
  have u2 := L1.b2.lt
  have u8 := n1.lt
  have ul4 := L1.b4.is_le
  have ul8 := n1.is_le
  have e0 : w1.cell? ⟨G + 8, 4, none⟩ = some (.slice (some ⟨G + 4, 0, none⟩) 1 1) := (n1.cell 4).trans rfl
  have q0 : w1.cell? ⟨G + 4, 0, none⟩ = some (.slice (some ⟨G + 3, 0, none⟩) 1 1) := (L1.b4.cell 0).trans rfl
  have q1 : w1.cell? ⟨G + 4, 1, none⟩ = some (.int .i64 1) := (L1.b4.cell 1).trans rfl
  have q2 : w1.cell? ⟨G + 4, 2, none⟩ = some (.int .i64 0) := (L1.b4.cell 2).trans rfl
  have q3 : w1.cell? ⟨G + 4, 3, none⟩ = some (.int .i64 3) := (L1.b4.cell 3).trans rfl
  have q4 : w1.cell? ⟨G + 4, 4, none⟩ = some (.int .i64 0) := (L1.b4.cell 4).trans rfl
  have q5 : w1.cell? ⟨G + 4, 5, none⟩ = some (.string ⟨#[]⟩) := (L1.b4.cell 5).trans rfl
  have q6 : w1.cell? ⟨G + 4, 6, none⟩ = some (.slice none 0 0) := (L1.b4.cell 6).trans rfl
  go_wp2_with fail
  obtain ⟨g, hg⟩ : ∃ g, w1.heap.size = g := ⟨_, rfl⟩
  try rw [hg]
  obtain ⟨W2, hW2, a2, c1, c2, c3, c4, c5⟩ : ∃ W, (((((w1.alloc (.cells #[.slice (some ⟨G + 7, 0, none⟩) 1 1, .slice (some ⟨G + 8, 0, none⟩) 1 1] 32)).alloc (.cells #[.slice (some ⟨G + 3, 0, none⟩) 1 1, .int .i64 1, .int .i64 0, .int .i64 3, .int .i64 0, .string ⟨#[]⟩, .slice none 0 0] 48)).alloc (.cells #[.int .i64 1, .int .i64 0, .int .i64 1, .int .i64 1, .string ⟨#[]⟩, .slice none 0 0] 25)).alloc (.cells #[.slice (some ⟨G + 3, 0, none⟩) 1 1, .int .i64 1, .int .i64 0, .int .i64 3, .int .i64 0, .string ⟨#[]⟩, .slice none 0 0] 48)).alloc (.cells #[.string ⟨#[65]⟩, .slice none 0 0, .slice (some ⟨g + 3, 0, none⟩) 1 1, .slice none 0 0, .slice none 0 0, .slice none 0 0] 80)) = W ∧ After w1 W ∧ Blk W (g) 32 #[.slice (some ⟨G + 7, 0, none⟩) 1 1, .slice (some ⟨G + 8, 0, none⟩) 1 1] ∧ Blk W (g + 1) 48 #[.slice (some ⟨G + 3, 0, none⟩) 1 1, .int .i64 1, .int .i64 0, .int .i64 3, .int .i64 0, .string ⟨#[]⟩, .slice none 0 0] ∧ Blk W (g + 2) 25 #[.int .i64 1, .int .i64 0, .int .i64 1, .int .i64 1, .string ⟨#[]⟩, .slice none 0 0] ∧ Blk W (g + 3) 48 #[.slice (some ⟨G + 3, 0, none⟩) 1 1, .int .i64 1, .int .i64 0, .int .i64 3, .int .i64 0, .string ⟨#[]⟩, .slice none 0 0] ∧ Blk W (g + 4) 80 #[.string ⟨#[65]⟩, .slice none 0 0, .slice (some ⟨g + 3, 0, none⟩) 1 1, .slice none 0 0, .slice none 0 0, .slice none 0 0] := by
    have d0 := Blk.new w1 32 #[.slice (some ⟨G + 7, 0, none⟩) 1 1, .slice (some ⟨G + 8, 0, none⟩) 1 1]
    obtain ⟨v1, hv1⟩ : ∃ v, w1.alloc (.cells #[.slice (some ⟨G + 7, 0, none⟩) 1 1, .slice (some ⟨G + 8, 0, none⟩) 1 1] 32) = v := ⟨_, rfl⟩
    have s1 : v1.heap.size = g + 1 := by rw [← hv1, size_alloc_, hg]
    have k1 : After w1 v1 := by rw [← hv1]; exact inferInstance
    rw [hv1, hg] at d0
    rw [hv1]
    clear hv1
    have d1 := Blk.new v1 48 #[.slice (some ⟨G + 3, 0, none⟩) 1 1, .int .i64 1, .int .i64 0, .int .i64 3, .int .i64 0, .string ⟨#[]⟩, .slice none 0 0]
    obtain ⟨v2, hv2⟩ : ∃ v, v1.alloc (.cells #[.slice (some ⟨G + 3, 0, none⟩) 1 1, .int .i64 1, .int .i64 0, .int .i64 3, .int .i64 0, .string ⟨#[]⟩, .slice none 0 0] 48) = v := ⟨_, rfl⟩
    have s2 : v2.heap.size = g + 2 := by rw [← hv2, size_alloc_, s1]
    have k2 : After v1 v2 := by rw [← hv2]; exact inferInstance
    rw [hv2, s1] at d1
    rw [hv2]
    clear hv2
    have d2 := Blk.new v2 25 #[.int .i64 1, .int .i64 0, .int .i64 1, .int .i64 1, .string ⟨#[]⟩, .slice none 0 0]
    obtain ⟨v3, hv3⟩ : ∃ v, v2.alloc (.cells #[.int .i64 1, .int .i64 0, .int .i64 1, .int .i64 1, .string ⟨#[]⟩, .slice none 0 0] 25) = v := ⟨_, rfl⟩
    have s3 : v3.heap.size = g + 3 := by rw [← hv3, size_alloc_, s2]
    have k3 : After v2 v3 := by rw [← hv3]; exact inferInstance
    rw [hv3, s2] at d2
    rw [hv3]
    clear hv3
    have d3 := Blk.new v3 48 #[.slice (some ⟨G + 3, 0, none⟩) 1 1, .int .i64 1, .int .i64 0, .int .i64 3, .int .i64 0, .string ⟨#[]⟩, .slice none 0 0]
    obtain ⟨v4, hv4⟩ : ∃ v, v3.alloc (.cells #[.slice (some ⟨G + 3, 0, none⟩) 1 1, .int .i64 1, .int .i64 0, .int .i64 3, .int .i64 0, .string ⟨#[]⟩, .slice none 0 0] 48) = v := ⟨_, rfl⟩
    have s4 : v4.heap.size = g + 4 := by rw [← hv4, size_alloc_, s3]
    have k4 : After v3 v4 := by rw [← hv4]; exact inferInstance
    rw [hv4, s3] at d3
    rw [hv4]
    clear hv4
    have d4 := Blk.new v4 80 #[.string ⟨#[65]⟩, .slice none 0 0, .slice (some ⟨g + 3, 0, none⟩) 1 1, .slice none 0 0, .slice none 0 0, .slice none 0 0]
    obtain ⟨v5, hv5⟩ : ∃ v, v4.alloc (.cells #[.string ⟨#[65]⟩, .slice none 0 0, .slice (some ⟨g + 3, 0, none⟩) 1 1, .slice none 0 0, .slice none 0 0, .slice none 0 0] 80) = v := ⟨_, rfl⟩
    have s5 : v5.heap.size = g + 5 := by rw [← hv5, size_alloc_, s4]
    have k5 : After v4 v5 := by rw [← hv5]; exact inferInstance
    rw [hv5, s4] at d4
    rw [hv5]
    clear hv5
    exact ⟨v5, rfl, after_after k1 (after_after k2 (after_after k3 (after_after k4 (after_after k5 (after_refl v5))))), d0.after (k := after_after k2 (after_after k3 (after_after k4 (after_after k5 (after_refl v5))))), d1.after (k := after_after k3 (after_after k4 (after_after k5 (after_refl v5)))), d2.after (k := after_after k4 (after_after k5 (after_refl v5))), d3.after (k := after_after k5 (after_refl v5)), d4.after (k := after_refl v5)⟩
  have hW2' : (((((w1.alloc (.cells #[.slice (some ⟨G + 7, 0, none⟩) 1 1, .slice (some ⟨G + 8, 0, none⟩) 1 1] 32)).alloc (.cells #[.slice (some ⟨G + 3, 0, none⟩) 1 1, .int .i64 1, .int .i64 0, .int .i64 3, .int .i64 0, .string ⟨#[]⟩, .slice none 0 0] 48)).alloc (.cells #[.int .i64 1, .int .i64 0, .int .i64 1, .int .i64 1, .string ⟨#[]⟩, .slice none 0 0] 25)).alloc (.cells #[.slice (some ⟨G + 3, 0, none⟩) 1 1, .int .i64 1, .int .i64 0, .int .i64 3, .int .i64 0, .string ⟨#[]⟩, .slice none 0 0] 48)).alloc (.cells #[.string ⟨#[65]⟩, .slice none 0 0, .slice (some ⟨g + 1 + 1 + 1, 0, none⟩) 1 1, .slice none 0 0, .slice none 0 0, .slice none 0 0] 80)) = W2 := hW2
  try rw [hW2']
  try rw [hW2]
  try rw [show g + 1 + 1 = g + 2 from rfl, show g + 2 + 1 = g + 3 from rfl, show g + 3 + 1 = g + 4 from rfl]
  clear hW2 hW2'
  have L2 := L1.here W2
  have n2 := n1.after (w' := W2)
  have br2 := br1.after (w' := W2)
  have aw2 : After w W2 := after_after aw1 a2
  have u8g : G + 8 < g := by rw [← hg]; exact u8
  have hrg : w.heap.size ≤ r := Nat.le_of_eq hr
  clear q0 q1 q2 q3 q4 q5 q6 e0 ul4 ul8 a1 a2 L1 n1 br0 br1 u2 u8 hg hr aw1
  have hwm : IntKind.i64.wrap (256 + m) = 256 + m := by rw [IntKind.wrap_i64]; omega
  have HL : Hid (LI [(r, 32, #[.slice none 0 0, .slice none 0 0]), (g, 32, #[.slice (some ⟨G + 7, 0, none⟩) 1 1, .slice (some ⟨G + 8, 0, none⟩) 1 1]), (G + 2, 83, #[.string ⟨#[120]⟩, .int .i64 3, .slice none 0 0]), (G + 3, 9, #[.string ⟨#[120]⟩]), (G + 4, 48, #[.slice (some ⟨G + 3, 0, none⟩) 1 1, .int .i64 1, .int .i64 0, .int .i64 3, .int .i64 0, .string ⟨#[]⟩, .slice none 0 0]), (G + 6, 9, #[.string ⟨#[82, 101, 100]⟩, .string ⟨#[71, 114, 101, 101, 110]⟩]), (G + 7, 59, #[.string ⟨#[76, 105, 103, 104, 116]⟩, .slice (some ⟨G + 6, 0, none⟩) 2 2])] (G + 8) 3 45 (lightC G) w.heap.size 83 3 (rep [.string ⟨#[97]⟩, .int .i64 2, .slice none 0 0]) 0 none 0 W2) := by
    refine ⟨fun x hx => ?_, ?_, World.ownsRow_nil .., fun x hx => ?_, ?_, fun x hx => ?_, ?_, ?_⟩
    · simp only [List.mem_cons, List.not_mem_nil, or_false] at hx
      rcases hx with rfl | rfl | rfl | rfl | rfl | rfl | rfl
      · exact br2
      · exact c1
      · exact L2.b2
      · exact L2.b3
      · exact L2.b4
      · exact L2.b6
      · exact L2.b7
    · exact n2
    · simp only [List.mem_cons, List.not_mem_nil, or_false] at hx
      rcases hx with rfl | rfl | rfl | rfl | rfl | rfl | rfl <;> (simp [Value.ownBlock] <;> omega)
    · simp [Value.ownBlock] <;> omega
    · simp only [List.mem_cons, List.not_mem_nil, or_false] at hx
      rcases hx with rfl | rfl | rfl | rfl | rfl | rfl | rfl <;> (simp only []; omega)
    · exact After.size w W2
    · exact (by decide : 3 < 8)
  clear c1 c2 c3 c4 c5 L2 n2 br2
  go_loopw [] (fun wr => ∃ (n : Nat) (A : Option Addr) (c : Nat), 0 ≤ n ∧ ((n : Int) ≤ 256 + m) ∧ Hid (LI [(r, 32, #[.slice none 0 0, .slice none 0 0]), (g, 32, #[.slice (some ⟨G + 7, 0, none⟩) 1 1, .slice (some ⟨G + 8, 0, none⟩) 1 1]), (G + 2, 83, #[.string ⟨#[120]⟩, .int .i64 3, .slice none 0 0]), (G + 3, 9, #[.string ⟨#[120]⟩]), (G + 4, 48, #[.slice (some ⟨G + 3, 0, none⟩) 1 1, .int .i64 1, .int .i64 0, .int .i64 3, .int .i64 0, .string ⟨#[]⟩, .slice none 0 0]), (G + 6, 9, #[.string ⟨#[82, 101, 100]⟩, .string ⟨#[71, 114, 101, 101, 110]⟩]), (G + 7, 59, #[.string ⟨#[76, 105, 103, 104, 116]⟩, .slice (some ⟨G + 6, 0, none⟩) 2 2])] (G + 8) 3 45 (lightC G) w.heap.size 83 3 (rep [.string ⟨#[97]⟩, .int .i64 2, .slice none 0 0]) n A c wr) ∧ After w wr) (fun wr => 400 - lenAt wr (G + 8) 3)
  case atStart => exact ⟨0, none, 0, by omega, by omega, HL, aw2⟩
  case round =>
    clear HL
    obtain ⟨n, A, c, h1, h2, hI, aw⟩ := hrel
    have e0 : wr.cell? ⟨G + 8, 3, none⟩ = some (.slice A n c) := hI.out.cell
    have kp : ∀ x ∈ [(r, 32, #[.slice none 0 0, .slice none 0 0]), (g, 32, #[.slice (some ⟨G + 7, 0, none⟩) 1 1, .slice (some ⟨G + 8, 0, none⟩) 1 1]), (G + 2, 83, #[.string ⟨#[120]⟩, .int .i64 3, .slice none 0 0]), (G + 3, 9, #[.string ⟨#[120]⟩]), (G + 4, 48, #[.slice (some ⟨G + 3, 0, none⟩) 1 1, .int .i64 1, .int .i64 0, .int .i64 3, .int .i64 0, .string ⟨#[]⟩, .slice none 0 0]), (G + 6, 9, #[.string ⟨#[82, 101, 100]⟩, .string ⟨#[71, 114, 101, 101, 110]⟩]), (G + 7, 59, #[.string ⟨#[76, 105, 103, 104, 116]⟩, .slice (some ⟨G + 6, 0, none⟩) 2 2])], Blk wr x.1 x.2.1 x.2.2 := hI.out.kl
    have bp := kp (g, 32, #[.slice (some ⟨G + 7, 0, none⟩) 1 1, .slice (some ⟨G + 8, 0, none⟩) 1 1]) (by simp)
    have br := kp (r, 32, #[.slice none 0 0, .slice none 0 0]) (by simp)
    have lp := bp.is_le
    have lr := br.is_le
    have r0 := (br.cell 0).trans rfl
    have r1 := (br.cell 1).trans rfl
    have rf0 := br.frozen 0
    have rf1 := br.frozen 1
    have p0 := (bp.cell 0).trans rfl
    have p1 := (bp.cell 1).trans rfl
    clear kp
    have ef := hI.out.frozen
    have el := hI.out.le
    by_cases hlt : (n : Int) < 256 + m
    · go_wp2_with (at_builtin; obtain ⟨i0, hi0, hz0, hz1, hz2⟩ := info_parts declInfo; refine wpList_append_any (wr.alloc (.cells #[.string ⟨#[97]⟩, .int .i64 2, .slice none 0 0] 83)) rfl (.tmp 114) (.tmp 116) 41 rfl w.heap.size 83 i0 _ 3 _ Try.underlying41 hi0 hz0 hz1 hz2 rfl (by decide) _ n _ rfl (own_after hI.out.own (w' := (wr.alloc (.cells #[.string ⟨#[97]⟩, .int .i64 2, .slice none 0 0] 83))) inferInstance) _ _ 1 1 [.string ⟨#[97]⟩, .int .i64 2, .slice none 0 0] rfl (cells_flat (w := wr) rfl #[.string ⟨#[97]⟩, .int .i64 2, .slice none 0 0] 83 _ rfl 1 3 rfl) (by intro u hu; simp only [List.mem_cons, List.not_mem_nil, or_false] at hu; rcases hu with rfl | rfl | rfl <;> rfl) (by unfold maxLen; omega) (by omega) (Nat.le_trans hI.out.hB (After.size wr (wr.alloc (.cells #[.string ⟨#[97]⟩, .int .i64 2, .slice none 0 0] 83)))) ?_; intro r4 W4 own4 hg4 hnx4; obtain ⟨A4, c4, hA4, e4, ef4, el4, aw4, hI5⟩ := (hI.out.here (wr.alloc (.cells #[.string ⟨#[97]⟩, .int .i64 2, .slice none 0 0] 83))).push (w0 := w) (after_after aw inferInstance) (Nat.le_refl _) (rep_succ _ n) own4 hg4 hnx4; subst hA4; clear own4 hg4 hnx4 hi0 hz0 hz1 hz2)
      go_roundw
      case rel => exact ⟨n + 1, A4, c4, by omega, by omega, hI5, after_set (k := ⟨by omega⟩) _ _⟩
      case measure => (rw [lenAt_of hI5.out.cell, lenAt_of e0]; omega)
    · go_wp2_with fail
      have bf := (br.set_ 0 (.slice (some ⟨G + 7, 0, none⟩) 1 1)).set_ 1 (.slice (some ⟨G + 8, 0, none⟩) 1 1)
      have hf := (hI.out.drop.set (g := r) (i := 0) (u := .slice (some ⟨G + 7, 0, none⟩) 1 1) (fun y hy => by simp only [List.mem_cons, List.not_mem_nil, or_false] at hy; rcases hy with rfl | rfl | rfl | rfl | rfl | rfl <;> (simp only []; omega)) (by omega) (hI.out.ne _ (List.mem_cons_self ..))).set (g := r) (i := 1) (u := .slice (some ⟨G + 8, 0, none⟩) 1 1) (fun y hy => by simp only [List.mem_cons, List.not_mem_nil, or_false] at hy; rcases hy with rfl | rfl | rfl | rfl | rfl | rfl <;> (simp only []; omega)) (by omega) (hI.out.ne _ (List.mem_cons_self ..))
      have af : After w ((wr.setCell ⟨r, 0, none⟩ (.slice (some ⟨G + 7, 0, none⟩) 1 1)).setCell ⟨r, 1, none⟩ (.slice (some ⟨G + 8, 0, none⟩) 1 1)) := after_set (h := after_set (h := aw) (k := ⟨hrg⟩) _ _) (k := ⟨hrg⟩) _ _
      have f0 := (bf.cell 0).trans rfl
      have f1 := (bf.cell 1).trans rfl
      obtain ⟨WF, hWF⟩ : ∃ W, (wr.setCell ⟨r, 0, none⟩ (.slice (some ⟨G + 7, 0, none⟩) 1 1)).setCell ⟨r, 1, none⟩ (.slice (some ⟨G + 8, 0, none⟩) 1 1) = W := ⟨_, rfl⟩
      rw [hWF] at bf hf af f0 f1
      rw [hWF]
      clear hWF hI aw e0 bp br lp lr r0 r1 rf0 rf1 p0 p1 ef el bf
      have hn : (n : Int) = 256 + m := by omega
      clear hlt h1 h2 hwm
      exact bodyPost_ret (v := .agg #[.slice (some ⟨G + 7, 0, none⟩) 1 1, .slice (some ⟨G + 8, 0, none⟩) 1 1]) (by simp [results, Try.results14, go_sem, f0, f1]) rfl (wide_end_3 hm hn hf af)
end Go.Proofs.Ytdghfhnkacfahaa
set_option linter.unusedVariables false
set_option linter.unusedSimpArgs false
namespace Go.Proofs.Ytdghfhnkacfahaa
open Go.RowKit Go.BigFrame
theorem wide_end_4 {m : Int} (hm : -1 ≤ m ∧ m ≤ 3) {w WF : World} {n c G g : Nat} {A : Option Addr} (hn : (n : Int) = 256 + m) (h : LI [(g, 32, #[.slice (some ⟨G + 7, 0, none⟩) 1 1, .slice (some ⟨G + 8, 0, none⟩) 1 1]), (G + 2, 83, #[.string ⟨#[120]⟩, .int .i64 3, .slice none 0 0]), (G + 3, 9, #[.string ⟨#[120]⟩]), (G + 6, 9, #[.string ⟨#[82, 101, 100]⟩, .string ⟨#[71, 114, 101, 101, 110]⟩]), (G + 7, 59, #[.string ⟨#[76, 105, 103, 104, 116]⟩, .slice (some ⟨G + 6, 0, none⟩) 2 2]), (g + 1, 48, #[.slice (some ⟨G + 3, 0, none⟩) 1 1, .int .i64 1, .int .i64 0, .int .i64 3, .int .i64 0, .string ⟨#[]⟩, .slice none 0 0])] (G + 8) 4 45 (lightC G) w.heap.size 48 7 (rep [.slice (some ⟨G + 3, 0, none⟩) 1 1, .int .i64 1, .int .i64 0, .int .i64 3, .int .i64 0, .string ⟨#[]⟩, .slice none 0 0]) n A c WF) (a : After w WF) : WideR w m (.returned (.agg #[.slice (some ⟨G + 7, 0, none⟩) 1 1, .slice (some ⟨G + 8, 0, none⟩) 1 1])) WF := by
  have R : RowOf 8 (PNd True) WF ⟨some ⟨G + 8, 0, none⟩, 1, [{ lightN G with eqs := ⟨A, c, List.replicate n ⟨⟨some ⟨G + 3, 0, none⟩, 1, [⟨#[120]⟩]⟩, redT⟩⟩ }]⟩ := wide_node (h.kl (G + 2, 83, #[.string ⟨#[120]⟩, .int .i64 3, .slice none 0 0]) (by simp)) (x := { lightN G with eqs := ⟨A, c, List.replicate n ⟨⟨some ⟨G + 3, 0, none⟩, 1, [⟨#[120]⟩]⟩, redT⟩⟩ }) (by have hb := h.bc; simp only [ndCells, List.length_replicate]; exact hb) rfl rfl rfl (RowOf.nil WF) (RowOf.nil WF) (row_eq (h.kl (G + 3, 9, #[.string ⟨#[120]⟩]) (by simp)) h.own (by omega)) (RowOf.nil WF) (RowOf.nil WF)
  refine ⟨_, _, _, _, [lightU G], [{ lightN G with eqs := ⟨A, c, List.replicate n ⟨⟨some ⟨G + 3, 0, none⟩, 1, [⟨#[120]⟩]⟩, redT⟩⟩ }], rfl, (wide_enums (h.kl (G + 6, 9, #[.string ⟨#[82, 101, 100]⟩, .string ⟨#[71, 114, 101, 101, 110]⟩]) (by simp)) (h.kl (G + 7, 59, #[.string ⟨#[76, 105, 103, 104, 116]⟩, .slice (some ⟨G + 6, 0, none⟩) 2 2]) (by simp))), R, ?_, a⟩
  rw [node_wide G (x := { lightN G with eqs := ⟨A, c, List.replicate n ⟨⟨some ⟨G + 3, 0, none⟩, 1, [⟨#[120]⟩]⟩, redT⟩⟩ }) rfl rfl rfl rfl rfl (firstE_rep (eq_light (two_light G) _ _) n) rfl rfl (b := decide (m ≤ 0)) (by simp only [lightN, List.length_replicate, List.length_nil, List.length_cons]; simp; omega)]
  exact limE_m rfl
set_option maxRecDepth 100000 in
set_option maxHeartbeats 6400000 in
theorem wide_4 (m : Int) (hm : -1 ≤ m ∧ m ≤ 3) (w : World) : Calls Try.prog 14 #[.int .i64 4, .int .i64 m] w fun e w' => WideR w m e w' := by
  obtain ⟨r, hr⟩ : ∃ r, w.heap.size = r := ⟨_, rfl⟩
  have br0 := Blk.new w 32 #[.slice none 0 0, .slice none 0 0]
  rw [hr] at br0
  go_enter Try.func14, Try.ntmps14
  go_wp2_with fail
  try rw [hr]
  refine (light_any _).mono ?_
  rintro e w1 ⟨G, rfl, a1, hG, L1, n1⟩
  rw [size_alloc_, hr] at hG
  have br1 := br0.after (k := a1)
  have aw1 : After w w1 := after_after inferInstance a1
  have u2 := L1.b2.lt
  have u8 := n1.lt
  have ul4 := L1.b4.is_le
  have ul8 := n1.is_le
  have e0 : w1.cell? ⟨G + 8, 4, none⟩ = some (.slice (some ⟨G + 4, 0, none⟩) 1 1) := (n1.cell 4).trans rfl
  have q0 : w1.cell? ⟨G + 4, 0, none⟩ = some (.slice (some ⟨G + 3, 0, none⟩) 1 1) := (L1.b4.cell 0).trans rfl
  have q1 : w1.cell? ⟨G + 4, 1, none⟩ = some (.int .i64 1) := (L1.b4.cell 1).trans rfl
  have q2 : w1.cell? ⟨G + 4, 2, none⟩ = some (.int .i64 0) := (L1.b4.cell 2).trans rfl
  have q3 : w1.cell? ⟨G + 4, 3, none⟩ = some (.int .i64 3) := (L1.b4.cell 3).trans rfl
  have q4 : w1.cell? ⟨G + 4, 4, none⟩ = some (.int .i64 0) := (L1.b4.cell 4).trans rfl
  have q5 : w1.cell? ⟨G + 4, 5, none⟩ = some (.string ⟨#[]⟩) := (L1.b4.cell 5).trans rfl
  have q6 : w1.cell? ⟨G + 4, 6, none⟩ = some (.slice none 0 0) := (L1.b4.cell 6).trans rfl
  go_wp2_with fail
  obtain ⟨g, hg⟩ : ∃ g, w1.heap.size = g := ⟨_, rfl⟩
  try rw [hg]
  obtain ⟨W2, hW2, a2, c1, c2, c3, c4, c5⟩ : ∃ W, (((((w1.alloc (.cells #[.slice (some ⟨G + 7, 0, none⟩) 1 1, .slice (some ⟨G + 8, 0, none⟩) 1 1] 32)).alloc (.cells #[.slice (some ⟨G + 3, 0, none⟩) 1 1, .int .i64 1, .int .i64 0, .int .i64 3, .int .i64 0, .string ⟨#[]⟩, .slice none 0 0] 48)).alloc (.cells #[.int .i64 1, .int .i64 0, .int .i64 1, .int .i64 1, .string ⟨#[]⟩, .slice none 0 0] 25)).alloc (.cells #[.slice (some ⟨G + 3, 0, none⟩) 1 1, .int .i64 1, .int .i64 0, .int .i64 3, .int .i64 0, .string ⟨#[]⟩, .slice none 0 0] 48)).alloc (.cells #[.string ⟨#[65]⟩, .slice none 0 0, .slice (some ⟨g + 3, 0, none⟩) 1 1, .slice none 0 0, .slice none 0 0, .slice none 0 0] 80)) = W ∧ After w1 W ∧ Blk W (g) 32 #[.slice (some ⟨G + 7, 0, none⟩) 1 1, .slice (some ⟨G + 8, 0, none⟩) 1 1] ∧ Blk W (g + 1) 48 #[.slice (some ⟨G + 3, 0, none⟩) 1 1, .int .i64 1, .int .i64 0, .int .i64 3, .int .i64 0, .string ⟨#[]⟩, .slice none 0 0] ∧ Blk W (g + 2) 25 #[.int .i64 1, .int .i64 0, .int .i64 1, .int .i64 1, .string ⟨#[]⟩, .slice none 0 0] ∧ Blk W (g + 3) 48 #[.slice (some ⟨G + 3, 0, none⟩) 1 1, .int .i64 1, .int .i64 0, .int .i64 3, .int .i64 0, .string ⟨#[]⟩, .slice none 0 0] ∧ Blk W (g + 4) 80 #[.string ⟨#[65]⟩, .slice none 0 0, .slice (some ⟨g + 3, 0, none⟩) 1 1, .slice none 0 0, .slice none 0 0, .slice none 0 0] := by
    have d0 := Blk.new w1 32 #[.slice (some ⟨G + 7, 0, none⟩) 1 1, .slice (some ⟨G + 8, 0, none⟩) 1 1]
    obtain ⟨v1, hv1⟩ : ∃ v, w1.alloc (.cells #[.slice (some ⟨G + 7, 0, none⟩) 1 1, .slice (some ⟨G + 8, 0, none⟩) 1 1] 32) = v := ⟨_, rfl⟩
    have s1 : v1.heap.size = g + 1 := by rw [← hv1, size_alloc_, hg]
    have k1 : After w1 v1 := by rw [← hv1]; exact inferInstance
    rw [hv1, hg] at d0
    rw [hv1]
    clear hv1
    have d1 := Blk.new v1 48 #[.slice (some ⟨G + 3, 0, none⟩) 1 1, .int .i64 1, .int .i64 0, .int .i64 3, .int .i64 0, .string ⟨#[]⟩, .slice none 0 0]
    obtain ⟨v2, hv2⟩ : ∃ v, v1.alloc (.cells #[.slice (some ⟨G + 3, 0, none⟩) 1 1, .int .i64 1, .int .i64 0, .int .i64 3, .int .i64 0, .string ⟨#[]⟩, .slice none 0 0] 48) = v := ⟨_, rfl⟩
    have s2 : v2.heap.size = g + 2 := by rw [← hv2, size_alloc_, s1]
    have k2 : After v1 v2 := by rw [← hv2]; exact inferInstance
    rw [hv2, s1] at d1
    rw [hv2]
    clear hv2
    have d2 := Blk.new v2 25 #[.int .i64 1, .int .i64 0, .int .i64 1, .int .i64 1, .string ⟨#[]⟩, .slice none 0 0]
    obtain ⟨v3, hv3⟩ : ∃ v, v2.alloc (.cells #[.int .i64 1, .int .i64 0, .int .i64 1, .int .i64 1, .string ⟨#[]⟩, .slice none 0 0] 25) = v := ⟨_, rfl⟩
    have s3 : v3.heap.size = g + 3 := by rw [← hv3, size_alloc_, s2]
    have k3 : After v2 v3 := by rw [← hv3]; exact inferInstance
    rw [hv3, s2] at d2
    rw [hv3]
    clear hv3
    have d3 := Blk.new v3 48 #[.slice (some ⟨G + 3, 0, none⟩) 1 1, .int .i64 1, .int .i64 0, .int .i64 3, .int .i64 0, .string ⟨#[]⟩, .slice none 0 0]
    obtain ⟨v4, hv4⟩ : ∃ v, v3.alloc (.cells #[.slice (some ⟨G + 3, 0, none⟩) 1 1, .int .i64 1, .int .i64 0, .int .i64 3, .int .i64 0, .string ⟨#[]⟩, .slice none 0 0] 48) = v := ⟨_, rfl⟩
    have s4 : v4.heap.size = g + 4 := by rw [← hv4, size_alloc_, s3]
    have k4 : After v3 v4 := by rw [← hv4]; exact inferInstance
    rw [hv4, s3] at d3
    rw [hv4]
    clear hv4
    have d4 := Blk.new v4 80 #[.string ⟨#[65]⟩, .slice none 0 0, .slice (some ⟨g + 3, 0, none⟩) 1 1, .slice none 0 0, .slice none 0 0, .slice none 0 0]
    obtain ⟨v5, hv5⟩ : ∃ v, v4.alloc (.cells #[.string ⟨#[65]⟩, .slice none 0 0, .slice (some ⟨g + 3, 0, none⟩) 1 1, .slice none 0 0, .slice none 0 0, .slice none 0 0] 80) = v := ⟨_, rfl⟩
    have s5 : v5.heap.size = g + 5 := by rw [← hv5, size_alloc_, s4]
    have k5 : After v4 v5 := by rw [← hv5]; exact inferInstance
    rw [hv5, s4] at d4
    rw [hv5]
    clear hv5
    exact ⟨v5, rfl, after_after k1 (after_after k2 (after_after k3 (after_after k4 (after_after k5 (after_refl v5))))), d0.after (k := after_after k2 (after_after k3 (after_after k4 (after_after k5 (after_refl v5))))), d1.after (k := after_after k3 (after_after k4 (after_after k5 (after_refl v5)))), d2.after (k := after_after k4 (after_after k5 (after_refl v5))), d3.after (k := after_after k5 (after_refl v5)), d4.after (k := after_refl v5)⟩
  have hW2' : (((((w1.alloc (.cells #[.slice (some ⟨G + 7, 0, none⟩) 1 1, .slice (some ⟨G + 8, 0, none⟩) 1 1] 32)).alloc (.cells #[.slice (some ⟨G + 3, 0, none⟩) 1 1, .int .i64 1, .int .i64 0, .int .i64 3, .int .i64 0, .string ⟨#[]⟩, .slice none 0 0] 48)).alloc (.cells #[.int .i64 1, .int .i64 0, .int .i64 1, .int .i64 1, .string ⟨#[]⟩, .slice none 0 0] 25)).alloc (.cells #[.slice (some ⟨G + 3, 0, none⟩) 1 1, .int .i64 1, .int .i64 0, .int .i64 3, .int .i64 0, .string ⟨#[]⟩, .slice none 0 0] 48)).alloc (.cells #[.string ⟨#[65]⟩, .slice none 0 0, .slice (some ⟨g + 1 + 1 + 1, 0, none⟩) 1 1, .slice none 0 0, .slice none 0 0, .slice none 0 0] 80)) = W2 := hW2
  try rw [hW2']
  try rw [hW2]
  try rw [show g + 1 + 1 = g + 2 from rfl, show g + 2 + 1 = g + 3 from rfl, show g + 3 + 1 = g + 4 from rfl]
  clear hW2 hW2'
  have L2 := L1.here W2
  have n2 := n1.after (w' := W2)
  have br2 := br1.after (w' := W2)
  have aw2 : After w W2 := after_after aw1 a2
  have u8g : G + 8 < g := by rw [← hg]; exact u8
  have hrg : w.heap.size ≤ r := Nat.le_of_eq hr
  clear q0 q1 q2 q3 q4 q5 q6 e0 ul4 ul8 a1 a2 L1 n1 br0 br1 u2 u8 hg hr aw1
  have hwm : IntKind.i64.wrap (256 + m) = 256 + m := by rw [IntKind.wrap_i64]; omega
  have HL : Hid (LI [(r, 32, #[.slice none 0 0, .slice none 0 0]), (g, 32, #[.slice (some ⟨G + 7, 0, none⟩) 1 1, .slice (some ⟨G + 8, 0, none⟩) 1 1]), (G + 2, 83, #[.string ⟨#[120]⟩, .int .i64 3, .slice none 0 0]), (G + 3, 9, #[.string ⟨#[120]⟩]), (G + 6, 9, #[.string ⟨#[82, 101, 100]⟩, .string ⟨#[71, 114, 101, 101, 110]⟩]), (G + 7, 59, #[.string ⟨#[76, 105, 103, 104, 116]⟩, .slice (some ⟨G + 6, 0, none⟩) 2 2]), (g + 1, 48, #[.slice (some ⟨G + 3, 0, none⟩) 1 1, .int .i64 1, .int .i64 0, .int .i64 3, .int .i64 0, .string ⟨#[]⟩, .slice none 0 0])] (G + 8) 4 45 (lightC G) w.heap.size 48 7 (rep [.slice (some ⟨G + 3, 0, none⟩) 1 1, .int .i64 1, .int .i64 0, .int .i64 3, .int .i64 0, .string ⟨#[]⟩, .slice none 0 0]) 1 (some ⟨G + 4, 0, none⟩) 1 W2) := by
    refine ⟨fun x hx => ?_, ?_, own_of_blk L2.b4 (by omega) rfl (by decide), fun x hx => ?_, ?_, fun x hx => ?_, ?_, ?_⟩
    · simp only [List.mem_cons, List.not_mem_nil, or_false] at hx
      rcases hx with rfl | rfl | rfl | rfl | rfl | rfl | rfl
      · exact br2
      · exact c1
      · exact L2.b2
      · exact L2.b3
      · exact L2.b6
      · exact L2.b7
      · exact c2
    · exact n2
    · simp only [List.mem_cons, List.not_mem_nil, or_false] at hx
      rcases hx with rfl | rfl | rfl | rfl | rfl | rfl | rfl <;> (simp [Value.ownBlock] <;> omega)
    · simp [Value.ownBlock] <;> omega
    · simp only [List.mem_cons, List.not_mem_nil, or_false] at hx
      rcases hx with rfl | rfl | rfl | rfl | rfl | rfl | rfl <;> (simp only []; omega)
    · exact After.size w W2
    · exact (by decide : 4 < 8)
  clear c1 c2 c3 c4 c5 L2 n2 br2
  go_loopw [] (fun wr => ∃ (n : Nat) (A : Option Addr) (c : Nat), 1 ≤ n ∧ ((n : Int) ≤ 256 + m) ∧ Hid (LI [(r, 32, #[.slice none 0 0, .slice none 0 0]), (g, 32, #[.slice (some ⟨G + 7, 0, none⟩) 1 1, .slice (some ⟨G + 8, 0, none⟩) 1 1]), (G + 2, 83, #[.string ⟨#[120]⟩, .int .i64 3, .slice none 0 0]), (G + 3, 9, #[.string ⟨#[120]⟩]), (G + 6, 9, #[.string ⟨#[82, 101, 100]⟩, .string ⟨#[71, 114, 101, 101, 110]⟩]), (G + 7, 59, #[.string ⟨#[76, 105, 103, 104, 116]⟩, .slice (some ⟨G + 6, 0, none⟩) 2 2]), (g + 1, 48, #[.slice (some ⟨G + 3, 0, none⟩) 1 1, .int .i64 1, .int .i64 0, .int .i64 3, .int .i64 0, .string ⟨#[]⟩, .slice none 0 0])] (G + 8) 4 45 (lightC G) w.heap.size 48 7 (rep [.slice (some ⟨G + 3, 0, none⟩) 1 1, .int .i64 1, .int .i64 0, .int .i64 3, .int .i64 0, .string ⟨#[]⟩, .slice none 0 0]) n A c wr) ∧ After w wr) (fun wr => 400 - lenAt wr (G + 8) 4)
  case atStart => exact ⟨1, (some ⟨G + 4, 0, none⟩), 1, by omega, by omega, HL, aw2⟩
  case round =>
    clear HL
    obtain ⟨n, A, c, h1, h2, hI, aw⟩ := hrel
    have e0 : wr.cell? ⟨G + 8, 4, none⟩ = some (.slice A n c) := hI.out.cell
    have kp : ∀ x ∈ [(r, 32, #[.slice none 0 0, .slice none 0 0]), (g, 32, #[.slice (some ⟨G + 7, 0, none⟩) 1 1, .slice (some ⟨G + 8, 0, none⟩) 1 1]), (G + 2, 83, #[.string ⟨#[120]⟩, .int .i64 3, .slice none 0 0]), (G + 3, 9, #[.string ⟨#[120]⟩]), (G + 6, 9, #[.string ⟨#[82, 101, 100]⟩, .string ⟨#[71, 114, 101, 101, 110]⟩]), (G + 7, 59, #[.string ⟨#[76, 105, 103, 104, 116]⟩, .slice (some ⟨G + 6, 0, none⟩) 2 2]), (g + 1, 48, #[.slice (some ⟨G + 3, 0, none⟩) 1 1, .int .i64 1, .int .i64 0, .int .i64 3, .int .i64 0, .string ⟨#[]⟩, .slice none 0 0])], Blk wr x.1 x.2.1 x.2.2 := hI.out.kl
    have bp := kp (g, 32, #[.slice (some ⟨G + 7, 0, none⟩) 1 1, .slice (some ⟨G + 8, 0, none⟩) 1 1]) (by simp)
    have br := kp (r, 32, #[.slice none 0 0, .slice none 0 0]) (by simp)
    have lp := bp.is_le
    have lr := br.is_le
    have r0 := (br.cell 0).trans rfl
    have r1 := (br.cell 1).trans rfl
    have rf0 := br.frozen 0
    have rf1 := br.frozen 1
    have p0 := (bp.cell 0).trans rfl
    have p1 := (bp.cell 1).trans rfl
    clear kp
    have qx := hI.out.kl (g + 1, 48, #[.slice (some ⟨G + 3, 0, none⟩) 1 1, .int .i64 1, .int .i64 0, .int .i64 3, .int .i64 0, .string ⟨#[]⟩, .slice none 0 0]) (by simp)
    have qlx := qx.is_le
    have qx0 := (qx.cell 0).trans rfl
    have qx1 := (qx.cell 1).trans rfl
    have qx2 := (qx.cell 2).trans rfl
    have qx3 := (qx.cell 3).trans rfl
    have qx4 := (qx.cell 4).trans rfl
    have qx5 := (qx.cell 5).trans rfl
    have qx6 := (qx.cell 6).trans rfl
    clear qx
    have ef := hI.out.frozen
    have el := hI.out.le
    by_cases hlt : (n : Int) < 256 + m
    · go_wp2_with fail
      go_region_law (obtain ⟨i0, hi0, hz0, hz1, hz2⟩ := info_parts eqInfo; refine step_append_any (wr.drew.alloc (.cells #[.slice (some ⟨G + 3, 0, none⟩) 1 1, .int .i64 1, .int .i64 0, .int .i64 3, .int .i64 0, .string ⟨#[]⟩, .slice none 0 0] 48)) rfl (.tmp 134) (.tmp 136) 42 rfl w.heap.size 48 i0 _ 7 _ Try.underlying42 hi0 hz0 hz1 hz2 rfl (by decide) _ n _ rfl (own_after hI.out.own (w' := (wr.drew.alloc (.cells #[.slice (some ⟨G + 3, 0, none⟩) 1 1, .int .i64 1, .int .i64 0, .int .i64 3, .int .i64 0, .string ⟨#[]⟩, .slice none 0 0] 48))) inferInstance) _ _ 1 1 [.slice (some ⟨G + 3, 0, none⟩) 1 1, .int .i64 1, .int .i64 0, .int .i64 3, .int .i64 0, .string ⟨#[]⟩, .slice none 0 0] rfl (cells_flat (w := wr.drew) rfl #[.slice (some ⟨G + 3, 0, none⟩) 1 1, .int .i64 1, .int .i64 0, .int .i64 3, .int .i64 0, .string ⟨#[]⟩, .slice none 0 0] 48 _ rfl 1 7 rfl) (by intro u hu; simp only [List.mem_cons, List.not_mem_nil, or_false] at hu; rcases hu with rfl | rfl | rfl | rfl | rfl | rfl | rfl <;> rfl) (by unfold maxLen; omega) (by omega) (Nat.le_trans hI.out.hB (After.size wr (wr.drew.alloc (.cells #[.slice (some ⟨G + 3, 0, none⟩) 1 1, .int .i64 1, .int .i64 0, .int .i64 3, .int .i64 0, .string ⟨#[]⟩, .slice none 0 0] 48)))) ?_; intro r4 W4 own4 hg4 hnx4; obtain ⟨A4, c4, hA4, e4, ef4, el4, aw4, hI5⟩ := (hI.out.here (wr.drew.alloc (.cells #[.slice (some ⟨G + 3, 0, none⟩) 1 1, .int .i64 1, .int .i64 0, .int .i64 3, .int .i64 0, .string ⟨#[]⟩, .slice none 0 0] 48))).push (w0 := w) (after_after aw inferInstance) (Nat.le_refl _) (rep_succ _ n) own4 hg4 hnx4; subst hA4; clear own4 hg4 hnx4 hi0 hz0 hz1 hz2)
      all_goals (try go_wp2_with fail)
      all_goals first | exact ⟨⟨n + 1, A4, c4, by omega, by omega, hI5, after_set (k := ⟨by omega⟩) _ _⟩, by (rw [lenAt_of hI5.out.cell, lenAt_of e0]; omega)⟩ | (go_roundw; exact ⟨n + 1, A4, c4, by omega, by omega, hI5, after_set (k := ⟨by omega⟩) _ _⟩; (rw [lenAt_of hI5.out.cell, lenAt_of e0]; omega))
    · go_wp2_with fail
      have bf := (br.set_ 0 (.slice (some ⟨G + 7, 0, none⟩) 1 1)).set_ 1 (.slice (some ⟨G + 8, 0, none⟩) 1 1)
      have hf := (hI.out.drop.set (g := r) (i := 0) (u := .slice (some ⟨G + 7, 0, none⟩) 1 1) (fun y hy => by simp only [List.mem_cons, List.not_mem_nil, or_false] at hy; rcases hy with rfl | rfl | rfl | rfl | rfl | rfl <;> (simp only []; omega)) (by omega) (hI.out.ne _ (List.mem_cons_self ..))).set (g := r) (i := 1) (u := .slice (some ⟨G + 8, 0, none⟩) 1 1) (fun y hy => by simp only [List.mem_cons, List.not_mem_nil, or_false] at hy; rcases hy with rfl | rfl | rfl | rfl | rfl | rfl <;> (simp only []; omega)) (by omega) (hI.out.ne _ (List.mem_cons_self ..))
      have af : After w ((wr.setCell ⟨r, 0, none⟩ (.slice (some ⟨G + 7, 0, none⟩) 1 1)).setCell ⟨r, 1, none⟩ (.slice (some ⟨G + 8, 0, none⟩) 1 1)) := after_set (h := after_set (h := aw) (k := ⟨hrg⟩) _ _) (k := ⟨hrg⟩) _ _
      have f0 := (bf.cell 0).trans rfl
      have f1 := (bf.cell 1).trans rfl
      obtain ⟨WF, hWF⟩ : ∃ W, (wr.setCell ⟨r, 0, none⟩ (.slice (some ⟨G + 7, 0, none⟩) 1 1)).setCell ⟨r, 1, none⟩ (.slice (some ⟨G + 8, 0, none⟩) 1 1) = W := ⟨_, rfl⟩
      rw [hWF] at bf hf af f0 f1
      rw [hWF]
      clear hWF hI aw e0 bp br lp lr r0 r1 rf0 rf1 p0 p1 ef el bf
      have hn : (n : Int) = 256 + m := by omega
      clear hlt h1 h2 hwm
      exact bodyPost_ret (v := .agg #[.slice (some ⟨G + 7, 0, none⟩) 1 1, .slice (some ⟨G + 8, 0, none⟩) 1 1]) (by simp [results, Try.results14, go_sem, f0, f1]) rfl (wide_end_4 hm hn hf af)
end Go.Proofs.Ytdghfhnkacfahaa
