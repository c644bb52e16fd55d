/-
  wide at any kind.
-/
/-
  At each limit of the chapter a program is well-formed; with one part more its error is the limit's. No conditions.
-/
import Derived.Test.YtdghfhnkacfahaaSWd
import Derived.Test.YtdghfhnkacfahaaSWk4
import Derived.Test.YtdghfhnkacfahaaSOq
import Derived.Test.YtdghfhnkacfahaaSCk
import Derived.Deep.CondSized
import Derived.ChangeMaps5
set_option linter.unusedVariables false
set_option linter.unusedSimpArgs false
namespace Go.Proofs.Ytdghfhnkacfahaa
open Go.RowKit Go.BigFrame
theorem wide_end_5 {m : Int} (hm : -1 ≤ m ∧ m ≤ 3) {w WF : World} {n c G g : Nat} {A : Option Addr} {bs : List Nat} (hbn : bs.length = n) (hn : (n : Int) = 8 + m) (h : LI (bs.map (auF (g + 3)) ++ [(g, 32, #[.slice (some ⟨G + 7, 0, none⟩) 1 1, .slice (some ⟨G + 8, 0, none⟩) 1 1]), (G + 2, 83, #[.string ⟨#[120]⟩, .int .i64 3, .slice none 0 0]), (G + 3, 9, #[.string ⟨#[120]⟩]), (G + 4, 48, #[.slice (some ⟨G + 3, 0, none⟩) 1 1, .int .i64 1, .int .i64 0, .int .i64 3, .int .i64 0, .string ⟨#[]⟩, .slice none 0 0]), (G + 6, 9, #[.string ⟨#[82, 101, 100]⟩, .string ⟨#[71, 114, 101, 101, 110]⟩]), (G + 7, 59, #[.string ⟨#[76, 105, 103, 104, 116]⟩, .slice (some ⟨G + 6, 0, none⟩) 2 2]), (g + 3, 48, #[.slice (some ⟨G + 3, 0, none⟩) 1 1, .int .i64 1, .int .i64 0, .int .i64 3, .int .i64 0, .string ⟨#[]⟩, .slice none 0 0]), (g + 4, 80, #[.string ⟨#[65]⟩, .slice none 0 0, .slice (some ⟨g + 3, 0, none⟩) 1 1, .slice none 0 0, .slice none 0 0, .slice none 0 0])]) (G + 8) 5 45 (lightC G) w.heap.size 86 1 (auFl bs) n A c WF) (a : After w WF) : WideR w m (.returned (.agg #[.slice (some ⟨G + 7, 0, none⟩) 1 1, .slice (some ⟨G + 8, 0, none⟩) 1 1])) WF := by
  have hb0 : ∀ b ∈ bs, Blk WF b 80 (stPic (g + 3)) := fun b hb => h.kl (auF (g + 3) b) (List.mem_append_left _ (List.mem_map.2 ⟨b, hb, rfl⟩))
  have R : RowOf 8 (PNd True) WF ⟨some ⟨G + 8, 0, none⟩, 1, [{ lightN G with autos := ⟨A, c, auL G (g + 3) bs⟩ }]⟩ := wide_node (h.kl (G + 2, 83, #[.string ⟨#[120]⟩, .int .i64 3, .slice none 0 0]) (List.mem_append_right _ (by simp))) (x := { lightN G with autos := ⟨A, c, auL G (g + 3) bs⟩ }) (by have hb := h.bc; simp only [ndCells, auL_len, hbn]; exact hb) rfl rfl rfl (RowOf.nil WF) (RowOf.nil WF) (wide_eqs (h.kl (G + 3, 9, #[.string ⟨#[120]⟩]) (List.mem_append_right _ (by simp))) (h.kl (G + 4, 48, #[.slice (some ⟨G + 3, 0, none⟩) 1 1, .int .i64 1, .int .i64 0, .int .i64 3, .int .i64 0, .string ⟨#[]⟩, .slice none 0 0]) (List.mem_append_right _ (by simp)))) (row_aus hbn (h.kl (G + 3, 9, #[.string ⟨#[120]⟩]) (List.mem_append_right _ (by simp))) (h.kl (g + 3, 48, #[.slice (some ⟨G + 3, 0, none⟩) 1 1, .int .i64 1, .int .i64 0, .int .i64 3, .int .i64 0, .string ⟨#[]⟩, .slice none 0 0]) (List.mem_append_right _ (by simp))) hb0 h.own (by omega)) (RowOf.nil WF)
  refine ⟨_, _, _, _, [lightU G], [{ lightN G with autos := ⟨A, c, auL G (g + 3) bs⟩ }], rfl, (wide_enums (h.kl (G + 6, 9, #[.string ⟨#[82, 101, 100]⟩, .string ⟨#[71, 114, 101, 101, 110]⟩]) (List.mem_append_right _ (by simp))) (h.kl (G + 7, 59, #[.string ⟨#[76, 105, 103, 104, 116]⟩, .slice (some ⟨G + 6, 0, none⟩) 2 2]) (List.mem_append_right _ (by simp)))), R, ?_, a⟩
  rw [node_wide G (x := { lightN G with autos := ⟨A, c, auL G (g + 3) bs⟩ }) rfl rfl rfl rfl rfl (by simp only [lightN, firstE, eq_light (two_light G)]; rfl) (au5_all G (g + 3) bs) rfl (b := decide (m ≤ 0)) (by simp only [lightN, auL_len, hbn, List.length_nil, List.length_cons]; simp; omega)]
  exact limE_m rfl
set_option maxRecDepth 100000 in
set_option maxHeartbeats 6400000 in
theorem wide_5 (m : Int) (hm : -1 ≤ m ∧ m ≤ 3) (w : World) : Calls Try.prog 14 #[.int .i64 5, .int .i64 m] w fun e w' => WideR w m e w' := by
  obtain ⟨r, hr⟩ : ∃ r, w.heap.size = r := ⟨_, rfl⟩
  have br0 := Blk.new w 32 #[.slice none 0 0, .slice none 0 0]
  rw [hr] at br0
  go_enter Try.func14, Try.ntmps14
  go_wp2_with fail
  try rw [hr]
  refine (light_any _).mono ?_
  rintro e w1 ⟨G, rfl, a1, hG, L1, n1⟩
  rw [size_alloc_, hr] at hG
  have br1 := br0.after (k := a1)
  have aw1 : After w w1 := after_after inferInstance a1
  have u2 := L1.b2.lt
  have u8 := n1.lt
  have ul4 := L1.b4.is_le
  have ul8 := n1.is_le
  have e0 : w1.cell? ⟨G + 8, 4, none⟩ = some (.slice (some ⟨G + 4, 0, none⟩) 1 1) := (n1.cell 4).trans rfl
  have q0 : w1.cell? ⟨G + 4, 0, none⟩ = some (.slice (some ⟨G + 3, 0, none⟩) 1 1) := (L1.b4.cell 0).trans rfl
  have q1 : w1.cell? ⟨G + 4, 1, none⟩ = some (.int .i64 1) := (L1.b4.cell 1).trans rfl
  have q2 : w1.cell? ⟨G + 4, 2, none⟩ = some (.int .i64 0) := (L1.b4.cell 2).trans rfl
  have q3 : w1.cell? ⟨G + 4, 3, none⟩ = some (.int .i64 3) := (L1.b4.cell 3).trans rfl
  have q4 : w1.cell? ⟨G + 4, 4, none⟩ = some (.int .i64 0) := (L1.b4.cell 4).trans rfl
  have q5 : w1.cell? ⟨G + 4, 5, none⟩ = some (.string ⟨#[]⟩) := (L1.b4.cell 5).trans rfl
  have q6 : w1.cell? ⟨G + 4, 6, none⟩ = some (.slice none 0 0) := (L1.b4.cell 6).trans rfl
  go_wp2_with fail
  obtain ⟨g, hg⟩ : ∃ g, w1.heap.size = g := ⟨_, rfl⟩
  try rw [hg]
  obtain ⟨W2, hW2, a2, c1, c2, c3, c4, c5, s5⟩ : ∃ W, (((((w1.alloc (.cells #[.slice (some ⟨G + 7, 0, none⟩) 1 1, .slice (some ⟨G + 8, 0, none⟩) 1 1] 32)).alloc (.cells #[.slice (some ⟨G + 3, 0, none⟩) 1 1, .int .i64 1, .int .i64 0, .int .i64 3, .int .i64 0, .string ⟨#[]⟩, .slice none 0 0] 48)).alloc (.cells #[.int .i64 1, .int .i64 0, .int .i64 1, .int .i64 1, .string ⟨#[]⟩, .slice none 0 0] 25)).alloc (.cells #[.slice (some ⟨G + 3, 0, none⟩) 1 1, .int .i64 1, .int .i64 0, .int .i64 3, .int .i64 0, .string ⟨#[]⟩, .slice none 0 0] 48)).alloc (.cells #[.string ⟨#[65]⟩, .slice none 0 0, .slice (some ⟨g + 3, 0, none⟩) 1 1, .slice none 0 0, .slice none 0 0, .slice none 0 0] 80)) = W ∧ After w1 W ∧ Blk W (g) 32 #[.slice (some ⟨G + 7, 0, none⟩) 1 1, .slice (some ⟨G + 8, 0, none⟩) 1 1] ∧ Blk W (g + 1) 48 #[.slice (some ⟨G + 3, 0, none⟩) 1 1, .int .i64 1, .int .i64 0, .int .i64 3, .int .i64 0, .string ⟨#[]⟩, .slice none 0 0] ∧ Blk W (g + 2) 25 #[.int .i64 1, .int .i64 0, .int .i64 1, .int .i64 1, .string ⟨#[]⟩, .slice none 0 0] ∧ Blk W (g + 3) 48 #[.slice (some ⟨G + 3, 0, none⟩) 1 1, .int .i64 1, .int .i64 0, .int .i64 3, .int .i64 0, .string ⟨#[]⟩, .slice none 0 0] ∧ Blk W (g + 4) 80 #[.string ⟨#[65]⟩, .slice none 0 0, .slice (some ⟨g + 3, 0, none⟩) 1 1, .slice none 0 0, .slice none 0 0, .slice none 0 0] ∧ W.heap.size = g + 5 := by
    have d0 := Blk.new w1 32 #[.slice (some ⟨G + 7, 0, none⟩) 1 1, .slice (some ⟨G + 8, 0, none⟩) 1 1]
    obtain ⟨v1, hv1⟩ : ∃ v, w1.alloc (.cells #[.slice (some ⟨G + 7, 0, none⟩) 1 1, .slice (some ⟨G + 8, 0, none⟩) 1 1] 32) = v := ⟨_, rfl⟩
    have s1 : v1.heap.size = g + 1 := by rw [← hv1, size_alloc_, hg]
    have k1 : After w1 v1 := by rw [← hv1]; exact inferInstance
    rw [hv1, hg] at d0
    rw [hv1]
    clear hv1
    have d1 := Blk.new v1 48 #[.slice (some ⟨G + 3, 0, none⟩) 1 1, .int .i64 1, .int .i64 0, .int .i64 3, .int .i64 0, .string ⟨#[]⟩, .slice none 0 0]
    obtain ⟨v2, hv2⟩ : ∃ v, v1.alloc (.cells #[.slice (some ⟨G + 3, 0, none⟩) 1 1, .int .i64 1, .int .i64 0, .int .i64 3, .int .i64 0, .string ⟨#[]⟩, .slice none 0 0] 48) = v := ⟨_, rfl⟩
    have s2 : v2.heap.size = g + 2 := by rw [← hv2, size_alloc_, s1]
    have k2 : After v1 v2 := by rw [← hv2]; exact inferInstance
    rw [hv2, s1] at d1
    rw [hv2]
    clear hv2
    have d2 := Blk.new v2 25 #[.int .i64 1, .int .i64 0, .int .i64 1, .int .i64 1, .string ⟨#[]⟩, .slice none 0 0]
    obtain ⟨v3, hv3⟩ : ∃ v, v2.alloc (.cells #[.int .i64 1, .int .i64 0, .int .i64 1, .int .i64 1, .string ⟨#[]⟩, .slice none 0 0] 25) = v := ⟨_, rfl⟩
    have s3 : v3.heap.size = g + 3 := by rw [← hv3, size_alloc_, s2]
    have k3 : After v2 v3 := by rw [← hv3]; exact inferInstance
    rw [hv3, s2] at d2
    rw [hv3]
    clear hv3
    have d3 := Blk.new v3 48 #[.slice (some ⟨G + 3, 0, none⟩) 1 1, .int .i64 1, .int .i64 0, .int .i64 3, .int .i64 0, .string ⟨#[]⟩, .slice none 0 0]
    obtain ⟨v4, hv4⟩ : ∃ v, v3.alloc (.cells #[.slice (some ⟨G + 3, 0, none⟩) 1 1, .int .i64 1, .int .i64 0, .int .i64 3, .int .i64 0, .string ⟨#[]⟩, .slice none 0 0] 48) = v := ⟨_, rfl⟩
    have s4 : v4.heap.size = g + 4 := by rw [← hv4, size_alloc_, s3]
    have k4 : After v3 v4 := by rw [← hv4]; exact inferInstance
    rw [hv4, s3] at d3
    rw [hv4]
    clear hv4
    have d4 := Blk.new v4 80 #[.string ⟨#[65]⟩, .slice none 0 0, .slice (some ⟨g + 3, 0, none⟩) 1 1, .slice none 0 0, .slice none 0 0, .slice none 0 0]
    obtain ⟨v5, hv5⟩ : ∃ v, v4.alloc (.cells #[.string ⟨#[65]⟩, .slice none 0 0, .slice (some ⟨g + 3, 0, none⟩) 1 1, .slice none 0 0, .slice none 0 0, .slice none 0 0] 80) = v := ⟨_, rfl⟩
    have s5 : v5.heap.size = g + 5 := by rw [← hv5, size_alloc_, s4]
    have k5 : After v4 v5 := by rw [← hv5]; exact inferInstance
    rw [hv5, s4] at d4
    rw [hv5]
    clear hv5
    exact ⟨v5, rfl, after_after k1 (after_after k2 (after_after k3 (after_after k4 (after_after k5 (after_refl v5))))), d0.after (k := after_after k2 (after_after k3 (after_after k4 (after_after k5 (after_refl v5))))), d1.after (k := after_after k3 (after_after k4 (after_after k5 (after_refl v5)))), d2.after (k := after_after k4 (after_after k5 (after_refl v5))), d3.after (k := after_after k5 (after_refl v5)), d4.after (k := after_refl v5), s5⟩
  have hW2' : (((((w1.alloc (.cells #[.slice (some ⟨G + 7, 0, none⟩) 1 1, .slice (some ⟨G + 8, 0, none⟩) 1 1] 32)).alloc (.cells #[.slice (some ⟨G + 3, 0, none⟩) 1 1, .int .i64 1, .int .i64 0, .int .i64 3, .int .i64 0, .string ⟨#[]⟩, .slice none 0 0] 48)).alloc (.cells #[.int .i64 1, .int .i64 0, .int .i64 1, .int .i64 1, .string ⟨#[]⟩, .slice none 0 0] 25)).alloc (.cells #[.slice (some ⟨G + 3, 0, none⟩) 1 1, .int .i64 1, .int .i64 0, .int .i64 3, .int .i64 0, .string ⟨#[]⟩, .slice none 0 0] 48)).alloc (.cells #[.string ⟨#[65]⟩, .slice none 0 0, .slice (some ⟨g + 1 + 1 + 1, 0, none⟩) 1 1, .slice none 0 0, .slice none 0 0, .slice none 0 0] 80)) = W2 := hW2
  try rw [hW2']
  try rw [hW2]
  try rw [show g + 1 + 1 = g + 2 from rfl, show g + 2 + 1 = g + 3 from rfl, show g + 3 + 1 = g + 4 from rfl]
  clear hW2 hW2'
  have L2 := L1.here W2
  have n2 := n1.after (w' := W2)
  have br2 := br1.after (w' := W2)
  have aw2 : After w W2 := after_after aw1 a2
  have u8g : G + 8 < g := by rw [← hg]; exact u8
  have hrg : w.heap.size ≤ r := Nat.le_of_eq hr
  clear q0 q1 q2 q3 q4 q5 q6 e0 ul4 ul8 a1 a2 L1 n1 br0 br1 u2 u8 hg hr aw1
  have hwm : IntKind.i64.wrap (8 + m) = 8 + m := by rw [IntKind.wrap_i64]; omega
  have HL : Hid (LI [(r, 32, #[.slice none 0 0, .slice none 0 0]), (g, 32, #[.slice (some ⟨G + 7, 0, none⟩) 1 1, .slice (some ⟨G + 8, 0, none⟩) 1 1]), (G + 2, 83, #[.string ⟨#[120]⟩, .int .i64 3, .slice none 0 0]), (G + 3, 9, #[.string ⟨#[120]⟩]), (G + 4, 48, #[.slice (some ⟨G + 3, 0, none⟩) 1 1, .int .i64 1, .int .i64 0, .int .i64 3, .int .i64 0, .string ⟨#[]⟩, .slice none 0 0]), (G + 6, 9, #[.string ⟨#[82, 101, 100]⟩, .string ⟨#[71, 114, 101, 101, 110]⟩]), (G + 7, 59, #[.string ⟨#[76, 105, 103, 104, 116]⟩, .slice (some ⟨G + 6, 0, none⟩) 2 2]), (g + 3, 48, #[.slice (some ⟨G + 3, 0, none⟩) 1 1, .int .i64 1, .int .i64 0, .int .i64 3, .int .i64 0, .string ⟨#[]⟩, .slice none 0 0]), (g + 4, 80, #[.string ⟨#[65]⟩, .slice none 0 0, .slice (some ⟨g + 3, 0, none⟩) 1 1, .slice none 0 0, .slice none 0 0, .slice none 0 0])] (G + 8) 5 45 (lightC G) w.heap.size 86 1 (auFl []) 0 none 0 W2) := by
    refine ⟨fun x hx => ?_, ?_, World.ownsRow_nil .., fun x hx => ?_, ?_, fun x hx => ?_, ?_, ?_⟩
    · simp only [List.mem_cons, List.not_mem_nil, or_false] at hx
      rcases hx with rfl | rfl | rfl | rfl | rfl | rfl | rfl | rfl | rfl
      · exact br2
      · exact c1
      · exact L2.b2
      · exact L2.b3
      · exact L2.b4
      · exact L2.b6
      · exact L2.b7
      · exact c4
      · exact c5
    · exact n2
    · simp only [List.mem_cons, List.not_mem_nil, or_false] at hx
      rcases hx with rfl | rfl | rfl | rfl | rfl | rfl | rfl | rfl | rfl <;> (simp [Value.ownBlock] <;> omega)
    · simp [Value.ownBlock] <;> omega
    · simp only [List.mem_cons, List.not_mem_nil, or_false] at hx
      rcases hx with rfl | rfl | rfl | rfl | rfl | rfl | rfl | rfl | rfl <;> (simp only []; omega)
    · exact After.size w W2
    · exact (by decide : 5 < 8)
  clear c1 c2 c3 c4 c5 L2 n2 br2 s5
  go_loopw [] (fun wr => ∃ (n : Nat) (A : Option Addr) (c : Nat) (bs : List Nat), Hid (bs.length = n) ∧ Hid (∀ b ∈ bs, g + 5 ≤ b) ∧ ((n : Int) ≤ 8 + m) ∧ Hid (LI (bs.map (auF (g + 3)) ++ [(r, 32, #[.slice none 0 0, .slice none 0 0]), (g, 32, #[.slice (some ⟨G + 7, 0, none⟩) 1 1, .slice (some ⟨G + 8, 0, none⟩) 1 1]), (G + 2, 83, #[.string ⟨#[120]⟩, .int .i64 3, .slice none 0 0]), (G + 3, 9, #[.string ⟨#[120]⟩]), (G + 4, 48, #[.slice (some ⟨G + 3, 0, none⟩) 1 1, .int .i64 1, .int .i64 0, .int .i64 3, .int .i64 0, .string ⟨#[]⟩, .slice none 0 0]), (G + 6, 9, #[.string ⟨#[82, 101, 100]⟩, .string ⟨#[71, 114, 101, 101, 110]⟩]), (G + 7, 59, #[.string ⟨#[76, 105, 103, 104, 116]⟩, .slice (some ⟨G + 6, 0, none⟩) 2 2]), (g + 3, 48, #[.slice (some ⟨G + 3, 0, none⟩) 1 1, .int .i64 1, .int .i64 0, .int .i64 3, .int .i64 0, .string ⟨#[]⟩, .slice none 0 0]), (g + 4, 80, #[.string ⟨#[65]⟩, .slice none 0 0, .slice (some ⟨g + 3, 0, none⟩) 1 1, .slice none 0 0, .slice none 0 0, .slice none 0 0])]) (G + 8) 5 45 (lightC G) w.heap.size 86 1 (auFl bs) n A c wr) ∧ After w wr) (fun wr => 400 - lenAt wr (G + 8) 5)
  case atStart => exact ⟨0, none, 0, [], rfl, fun b hb => absurd hb (List.not_mem_nil), by omega, HL, aw2⟩
  case round =>
    clear HL
    obtain ⟨n, A, c, bs, hbn, hbs, h2, hI, aw⟩ := hrel
    have e0 : wr.cell? ⟨G + 8, 5, none⟩ = some (.slice A n c) := hI.out.cell
    have kp : ∀ x ∈ [(r, 32, #[.slice none 0 0, .slice none 0 0]), (g, 32, #[.slice (some ⟨G + 7, 0, none⟩) 1 1, .slice (some ⟨G + 8, 0, none⟩) 1 1]), (G + 2, 83, #[.string ⟨#[120]⟩, .int .i64 3, .slice none 0 0]), (G + 3, 9, #[.string ⟨#[120]⟩]), (G + 4, 48, #[.slice (some ⟨G + 3, 0, none⟩) 1 1, .int .i64 1, .int .i64 0, .int .i64 3, .int .i64 0, .string ⟨#[]⟩, .slice none 0 0]), (G + 6, 9, #[.string ⟨#[82, 101, 100]⟩, .string ⟨#[71, 114, 101, 101, 110]⟩]), (G + 7, 59, #[.string ⟨#[76, 105, 103, 104, 116]⟩, .slice (some ⟨G + 6, 0, none⟩) 2 2]), (g + 3, 48, #[.slice (some ⟨G + 3, 0, none⟩) 1 1, .int .i64 1, .int .i64 0, .int .i64 3, .int .i64 0, .string ⟨#[]⟩, .slice none 0 0]), (g + 4, 80, #[.string ⟨#[65]⟩, .slice none 0 0, .slice (some ⟨g + 3, 0, none⟩) 1 1, .slice none 0 0, .slice none 0 0, .slice none 0 0])], Blk wr x.1 x.2.1 x.2.2 := fun x hx => hI.out.kl x (List.mem_append_right _ hx)
    have bp := kp (g, 32, #[.slice (some ⟨G + 7, 0, none⟩) 1 1, .slice (some ⟨G + 8, 0, none⟩) 1 1]) (by simp)
    have br := kp (r, 32, #[.slice none 0 0, .slice none 0 0]) (by simp)
    have lp := bp.is_le
    have lr := br.is_le
    have r0 := (br.cell 0).trans rfl
    have r1 := (br.cell 1).trans rfl
    have rf0 := br.frozen 0
    have rf1 := br.frozen 1
    have p0 := (bp.cell 0).trans rfl
    have p1 := (bp.cell 1).trans rfl
    clear kp
    have qs := hI.out.kl (g + 4, 80, #[.string ⟨#[65]⟩, .slice none 0 0, .slice (some ⟨g + 3, 0, none⟩) 1 1, .slice none 0 0, .slice none 0 0, .slice none 0 0]) (List.mem_append_right _ (by simp))
    have qsl := qs.lt
    obtain ⟨b, hb⟩ : ∃ b, wr.heap.size = b := ⟨_, rfl⟩
    have qls := qs.is_le
    have qs0 := (qs.cell 0).trans rfl
    have qs1 := (qs.cell 1).trans rfl
    have qs2 := (qs.cell 2).trans rfl
    have qs3 := (qs.cell 3).trans rfl
    have qs4 := (qs.cell 4).trans rfl
    have qs5 := (qs.cell 5).trans rfl
    clear qs
    have ef := hI.out.frozen
    have el := hI.out.le
    by_cases hlt : (n : Int) < 8 + m
    · have hb1 : Hid ((wr.drew.alloc (.cells #[.string ⟨#[65]⟩, .slice none 0 0, .slice (some ⟨g + 3, 0, none⟩) 1 1, .slice none 0 0, .slice none 0 0, .slice none 0 0] 80)).heap.size = b + 1) := (by rw [size_alloc_]; exact congrArg (· + 1) hb)
      go_wp2_with fail
      try rw [hb]
      go_region_law (obtain ⟨i0, hi0, hz0, hz1, hz2⟩ := info_parts auInfo; refine step_append_any ((wr.drew.alloc (.cells #[.string ⟨#[65]⟩, .slice none 0 0, .slice (some ⟨g + 3, 0, none⟩) 1 1, .slice none 0 0, .slice none 0 0, .slice none 0 0] 80)).alloc (.cells #[.slice (some ⟨b, 0, none⟩) 1 1] 86)) rfl (.tmp 154) (.tmp 158) 43 rfl w.heap.size 86 i0 _ 1 _ Try.underlying43 hi0 hz0 hz1 hz2 rfl (by decide) _ n _ rfl (own_after hI.out.own (w' := ((wr.drew.alloc (.cells #[.string ⟨#[65]⟩, .slice none 0 0, .slice (some ⟨g + 3, 0, none⟩) 1 1, .slice none 0 0, .slice none 0 0, .slice none 0 0] 80)).alloc (.cells #[.slice (some ⟨b, 0, none⟩) 1 1] 86))) inferInstance) _ _ 1 1 [.slice (some ⟨b, 0, none⟩) 1 1] rfl (cells_flat (w := (wr.drew.alloc (.cells #[.string ⟨#[65]⟩, .slice none 0 0, .slice (some ⟨g + 3, 0, none⟩) 1 1, .slice none 0 0, .slice none 0 0, .slice none 0 0] 80))) hb1.out #[.slice (some ⟨b, 0, none⟩) 1 1] 86 _ rfl 1 1 rfl) (by intro u hu; simp only [List.mem_cons, List.not_mem_nil, or_false] at hu; subst hu; rfl) (by unfold maxLen; omega) (by omega) (Nat.le_trans hI.out.hB (After.size wr ((wr.drew.alloc (.cells #[.string ⟨#[65]⟩, .slice none 0 0, .slice (some ⟨g + 3, 0, none⟩) 1 1, .slice none 0 0, .slice none 0 0, .slice none 0 0] 80)).alloc (.cells #[.slice (some ⟨b, 0, none⟩) 1 1] 86)))) ?_; intro r4 W4 own4 hg4 hnx4; obtain ⟨A4, c4, hA4, e4, ef4, el4, aw4, hI5⟩ := hI.out.push5 hbn.out aw (Nat.le_refl _) (U := ((wr.drew.alloc (.cells #[.string ⟨#[65]⟩, .slice none 0 0, .slice (some ⟨g + 3, 0, none⟩) 1 1, .slice none 0 0, .slice none 0 0, .slice none 0 0] 80)).alloc (.cells #[.slice (some ⟨b, 0, none⟩) 1 1] 86))) inferInstance (Blk.after (k := inferInstance) (by have hz := Blk.new wr.drew 80 #[.string ⟨#[65]⟩, .slice none 0 0, .slice (some ⟨g + 3, 0, none⟩) 1 1, .slice none 0 0, .slice none 0 0, .slice none 0 0]; have hy : wr.drew.heap.size = b := hb; rw [hy] at hz; exact hz)) (Nat.le_of_eq hb) own4 hg4 hnx4; subst hA4; clear own4 hg4 hnx4 hi0 hz0 hz1 hz2)
      all_goals (try go_wp2_with fail)
      all_goals exact ⟨⟨n + 1, A4, c4, b :: bs, by show (b :: bs).length = n + 1; rw [List.length_cons, hbn.out], fun x hx => (by rcases List.mem_cons.1 hx with rfl | hx; omega; exact hbs.out x hx), by omega, hI5, after_set (k := ⟨by omega⟩) _ _⟩, by (rw [lenAt_of hI5.out.cell, lenAt_of e0]; omega)⟩
    · go_wp2_with fail
      have bf := (br.set_ 0 (.slice (some ⟨G + 7, 0, none⟩) 1 1)).set_ 1 (.slice (some ⟨G + 8, 0, none⟩) 1 1)
      have hx : ∀ y ∈ bs.map (auF (g + 3)) ++ [(g, 32, #[.slice (some ⟨G + 7, 0, none⟩) 1 1, .slice (some ⟨G + 8, 0, none⟩) 1 1]), (G + 2, 83, #[.string ⟨#[120]⟩, .int .i64 3, .slice none 0 0]), (G + 3, 9, #[.string ⟨#[120]⟩]), (G + 4, 48, #[.slice (some ⟨G + 3, 0, none⟩) 1 1, .int .i64 1, .int .i64 0, .int .i64 3, .int .i64 0, .string ⟨#[]⟩, .slice none 0 0]), (G + 6, 9, #[.string ⟨#[82, 101, 100]⟩, .string ⟨#[71, 114, 101, 101, 110]⟩]), (G + 7, 59, #[.string ⟨#[76, 105, 103, 104, 116]⟩, .slice (some ⟨G + 6, 0, none⟩) 2 2]), (g + 3, 48, #[.slice (some ⟨G + 3, 0, none⟩) 1 1, .int .i64 1, .int .i64 0, .int .i64 3, .int .i64 0, .string ⟨#[]⟩, .slice none 0 0]), (g + 4, 80, #[.string ⟨#[65]⟩, .slice none 0 0, .slice (some ⟨g + 3, 0, none⟩) 1 1, .slice none 0 0, .slice none 0 0, .slice none 0 0])], y.1 ≠ r := fun y hy => by
        rcases List.mem_append.1 hy with h | h
        · obtain ⟨b1, hb1, rfl⟩ := List.mem_map.1 h
          have := hbs.out b1 hb1
          show b1 ≠ r
          omega
        · simp only [List.mem_cons, List.not_mem_nil, or_false] at h
          rcases h with rfl | rfl | rfl | rfl | rfl | rfl | rfl | rfl <;> (simp only []; omega)
      have hsub := hI.out.sub (L' := bs.map (auF (g + 3)) ++ [(g, 32, #[.slice (some ⟨G + 7, 0, none⟩) 1 1, .slice (some ⟨G + 8, 0, none⟩) 1 1]), (G + 2, 83, #[.string ⟨#[120]⟩, .int .i64 3, .slice none 0 0]), (G + 3, 9, #[.string ⟨#[120]⟩]), (G + 4, 48, #[.slice (some ⟨G + 3, 0, none⟩) 1 1, .int .i64 1, .int .i64 0, .int .i64 3, .int .i64 0, .string ⟨#[]⟩, .slice none 0 0]), (G + 6, 9, #[.string ⟨#[82, 101, 100]⟩, .string ⟨#[71, 114, 101, 101, 110]⟩]), (G + 7, 59, #[.string ⟨#[76, 105, 103, 104, 116]⟩, .slice (some ⟨G + 6, 0, none⟩) 2 2]), (g + 3, 48, #[.slice (some ⟨G + 3, 0, none⟩) 1 1, .int .i64 1, .int .i64 0, .int .i64 3, .int .i64 0, .string ⟨#[]⟩, .slice none 0 0]), (g + 4, 80, #[.string ⟨#[65]⟩, .slice none 0 0, .slice (some ⟨g + 3, 0, none⟩) 1 1, .slice none 0 0, .slice none 0 0, .slice none 0 0])]) fun x hx => by
        rcases List.mem_append.1 hx with h | h
        · exact List.mem_append_left _ h
        · exact List.mem_append_right _ (List.mem_cons_of_mem _ h)
      have hr9 := hI.out.ne _ (List.mem_append_right _ (List.mem_cons_self ..))
      have hf := (hsub.set (g := r) (i := 0) (u := .slice (some ⟨G + 7, 0, none⟩) 1 1) hx (by omega) hr9).set (g := r) (i := 1) (u := .slice (some ⟨G + 8, 0, none⟩) 1 1) hx (by omega) hr9
      have af : After w ((wr.setCell ⟨r, 0, none⟩ (.slice (some ⟨G + 7, 0, none⟩) 1 1)).setCell ⟨r, 1, none⟩ (.slice (some ⟨G + 8, 0, none⟩) 1 1)) := after_set (h := after_set (h := aw) (k := ⟨hrg⟩) _ _) (k := ⟨hrg⟩) _ _
      have f0 := (bf.cell 0).trans rfl
      have f1 := (bf.cell 1).trans rfl
      obtain ⟨WF, hWF⟩ : ∃ W, (wr.setCell ⟨r, 0, none⟩ (.slice (some ⟨G + 7, 0, none⟩) 1 1)).setCell ⟨r, 1, none⟩ (.slice (some ⟨G + 8, 0, none⟩) 1 1) = W := ⟨_, rfl⟩
      rw [hWF] at bf hf af f0 f1
      rw [hWF]
      clear hWF hI aw e0 bp br lp lr r0 r1 rf0 rf1 p0 p1 ef el bf
      have hn : (n : Int) = 8 + m := by omega
      clear hlt h2 hwm
      exact bodyPost_ret (v := .agg #[.slice (some ⟨G + 7, 0, none⟩) 1 1, .slice (some ⟨G + 8, 0, none⟩) 1 1]) (by simp [results, Try.results14, go_sem, f0, f1]) rfl (wide_end_5 hm hbn.out hn hf af)
end Go.Proofs.Ytdghfhnkacfahaa
set_option linter.unusedVariables false
set_option linter.unusedSimpArgs false
namespace Go.Proofs.Ytdghfhnkacfahaa
open Go.RowKit Go.BigFrame
theorem wide_end_6 {m : Int} (hm : -1 ≤ m ∧ m ≤ 3) {w WF : World} {n c G g : Nat} {A : Option Addr} (hn : (n : Int) = 8 + m) (h : LI [(g, 32, #[.slice (some ⟨G + 7, 0, none⟩) 1 1, .slice (some ⟨G + 8, 0, none⟩) 1 1]), (G + 2, 83, #[.string ⟨#[120]⟩, .int .i64 3, .slice none 0 0]), (G + 3, 9, #[.string ⟨#[120]⟩]), (G + 4, 48, #[.slice (some ⟨G + 3, 0, none⟩) 1 1, .int .i64 1, .int .i64 0, .int .i64 3, .int .i64 0, .string ⟨#[]⟩, .slice none 0 0]), (G + 6, 9, #[.string ⟨#[82, 101, 100]⟩, .string ⟨#[71, 114, 101, 101, 110]⟩]), (G + 7, 59, #[.string ⟨#[76, 105, 103, 104, 116]⟩, .slice (some ⟨G + 6, 0, none⟩) 2 2]), (g + 3, 48, #[.slice (some ⟨G + 3, 0, none⟩) 1 1, .int .i64 1, .int .i64 0, .int .i64 3, .int .i64 0, .string ⟨#[]⟩, .slice none 0 0]), (g + 4, 80, #[.string ⟨#[65]⟩, .slice none 0 0, .slice (some ⟨g + 3, 0, none⟩) 1 1, .slice none 0 0, .slice none 0 0, .slice none 0 0])] (g + 5) 0 86 (#[.slice none 0 0]) w.heap.size 80 6 (rep [.string ⟨#[65]⟩, .slice none 0 0, .slice (some ⟨g + 3, 0, none⟩) 1 1, .slice none 0 0, .slice none 0 0, .slice none 0 0]) n A c WF) {z : Nat} (h8 : Blk WF (G + 8) 45 ((lightC G).setIfInBounds 5 (.slice (some ⟨z, 0, none⟩) 1 1))) (hz : Blk WF z 86 #[.slice A n c]) (a : After w WF) : WideR w m (.returned (.agg #[.slice (some ⟨G + 7, 0, none⟩) 1 1, .slice (some ⟨G + 8, 0, none⟩) 1 1])) WF := by
  have R : RowOf 8 (PNd True) WF ⟨some ⟨G + 8, 0, none⟩, 1, [{ lightN G with autos := ⟨some ⟨z, 0, none⟩, 1, [.mk A c (List.replicate n (wSt G (g + 3) none 0 []))]⟩ }]⟩ := wide_node (h.kl (G + 2, 83, #[.string ⟨#[120]⟩, .int .i64 3, .slice none 0 0]) (by simp)) (x := { lightN G with autos := ⟨some ⟨z, 0, none⟩, 1, [.mk A c (List.replicate n (wSt G (g + 3) none 0 []))]⟩ }) h8 rfl rfl rfl (RowOf.nil WF) (RowOf.nil WF) (wide_eqs (h.kl (G + 3, 9, #[.string ⟨#[120]⟩]) (by simp)) (h.kl (G + 4, 48, #[.slice (some ⟨G + 3, 0, none⟩) 1 1, .int .i64 1, .int .i64 0, .int .i64 3, .int .i64 0, .string ⟨#[]⟩, .slice none 0 0]) (by simp))) (row_au List.length_replicate hz (row_st (h.kl (G + 3, 9, #[.string ⟨#[120]⟩]) (by simp)) (h.kl (g + 3, 48, #[.slice (some ⟨G + 3, 0, none⟩) 1 1, .int .i64 1, .int .i64 0, .int .i64 3, .int .i64 0, .string ⟨#[]⟩, .slice none 0 0]) (by simp)) h.own (by omega))) (RowOf.nil WF)
  exact ⟨_, _, _, _, [lightU G], [{ lightN G with autos := ⟨some ⟨z, 0, none⟩, 1, [.mk A c (List.replicate n (wSt G (g + 3) none 0 []))]⟩ }], rfl, (wide_enums (h.kl (G + 6, 9, #[.string ⟨#[82, 101, 100]⟩, .string ⟨#[71, 114, 101, 101, 110]⟩]) (by simp)) (h.kl (G + 7, 59, #[.string ⟨#[76, 105, 103, 104, 116]⟩, .slice (some ⟨G + 6, 0, none⟩) 2 2]) (by simp))), R, (node_tail G (x := { lightN G with autos := ⟨some ⟨z, 0, none⟩, 1, [.mk A c (List.replicate n (wSt G (g + 3) none 0 []))]⟩ }) rfl rfl rfl rfl rfl rfl rfl rfl (au6_err G (g + 3) (by omega) A c)).trans (limE_m (decide_eq_decide.2 (by omega))), a⟩
set_option maxRecDepth 100000 in
set_option maxHeartbeats 6400000 in
theorem wide_6 (m : Int) (hm : -1 ≤ m ∧ m ≤ 3) (w : World) : Calls Try.prog 14 #[.int .i64 6, .int .i64 m] w fun e w' => WideR w m e w' := by
  obtain ⟨r, hr⟩ : ∃ r, w.heap.size = r := ⟨_, rfl⟩
  have br0 := Blk.new w 32 #[.slice none 0 0, .slice none 0 0]
  rw [hr] at br0
  go_enter Try.func14, Try.ntmps14
  go_wp2_with fail
  try rw [hr]
  refine (light_any _).mono ?_
  rintro e w1 ⟨G, rfl, a1, hG, L1, n1⟩
  rw [size_alloc_, hr] at hG
  have br1 := br0.after (k := a1)
  have aw1 : After w w1 := after_after inferInstance a1
  have u2 := L1.b2.lt
  have u8 := n1.lt
  have ul4 := L1.b4.is_le
  have ul8 := n1.is_le
  have e0 : w1.cell? ⟨G + 8, 4, none⟩ = some (.slice (some ⟨G + 4, 0, none⟩) 1 1) := (n1.cell 4).trans rfl
  have q0 : w1.cell? ⟨G + 4, 0, none⟩ = some (.slice (some ⟨G + 3, 0, none⟩) 1 1) := (L1.b4.cell 0).trans rfl
  have q1 : w1.cell? ⟨G + 4, 1, none⟩ = some (.int .i64 1) := (L1.b4.cell 1).trans rfl
  have q2 : w1.cell? ⟨G + 4, 2, none⟩ = some (.int .i64 0) := (L1.b4.cell 2).trans rfl
  have q3 : w1.cell? ⟨G + 4, 3, none⟩ = some (.int .i64 3) := (L1.b4.cell 3).trans rfl
  have q4 : w1.cell? ⟨G + 4, 4, none⟩ = some (.int .i64 0) := (L1.b4.cell 4).trans rfl
  have q5 : w1.cell? ⟨G + 4, 5, none⟩ = some (.string ⟨#[]⟩) := (L1.b4.cell 5).trans rfl
  have q6 : w1.cell? ⟨G + 4, 6, none⟩ = some (.slice none 0 0) := (L1.b4.cell 6).trans rfl
  go_wp2_with fail
  obtain ⟨g, hg⟩ : ∃ g, w1.heap.size = g := ⟨_, rfl⟩
  try rw [hg]
  obtain ⟨W2, hW2, a2, c1, c2, c3, c4, c5, s5⟩ : ∃ W, (((((w1.alloc (.cells #[.slice (some ⟨G + 7, 0, none⟩) 1 1, .slice (some ⟨G + 8, 0, none⟩) 1 1] 32)).alloc (.cells #[.slice (some ⟨G + 3, 0, none⟩) 1 1, .int .i64 1, .int .i64 0, .int .i64 3, .int .i64 0, .string ⟨#[]⟩, .slice none 0 0] 48)).alloc (.cells #[.int .i64 1, .int .i64 0, .int .i64 1, .int .i64 1, .string ⟨#[]⟩, .slice none 0 0] 25)).alloc (.cells #[.slice (some ⟨G + 3, 0, none⟩) 1 1, .int .i64 1, .int .i64 0, .int .i64 3, .int .i64 0, .string ⟨#[]⟩, .slice none 0 0] 48)).alloc (.cells #[.string ⟨#[65]⟩, .slice none 0 0, .slice (some ⟨g + 3, 0, none⟩) 1 1, .slice none 0 0, .slice none 0 0, .slice none 0 0] 80)) = W ∧ After w1 W ∧ Blk W (g) 32 #[.slice (some ⟨G + 7, 0, none⟩) 1 1, .slice (some ⟨G + 8, 0, none⟩) 1 1] ∧ Blk W (g + 1) 48 #[.slice (some ⟨G + 3, 0, none⟩) 1 1, .int .i64 1, .int .i64 0, .int .i64 3, .int .i64 0, .string ⟨#[]⟩, .slice none 0 0] ∧ Blk W (g + 2) 25 #[.int .i64 1, .int .i64 0, .int .i64 1, .int .i64 1, .string ⟨#[]⟩, .slice none 0 0] ∧ Blk W (g + 3) 48 #[.slice (some ⟨G + 3, 0, none⟩) 1 1, .int .i64 1, .int .i64 0, .int .i64 3, .int .i64 0, .string ⟨#[]⟩, .slice none 0 0] ∧ Blk W (g + 4) 80 #[.string ⟨#[65]⟩, .slice none 0 0, .slice (some ⟨g + 3, 0, none⟩) 1 1, .slice none 0 0, .slice none 0 0, .slice none 0 0] ∧ W.heap.size = g + 5 := by
    have d0 := Blk.new w1 32 #[.slice (some ⟨G + 7, 0, none⟩) 1 1, .slice (some ⟨G + 8, 0, none⟩) 1 1]
    obtain ⟨v1, hv1⟩ : ∃ v, w1.alloc (.cells #[.slice (some ⟨G + 7, 0, none⟩) 1 1, .slice (some ⟨G + 8, 0, none⟩) 1 1] 32) = v := ⟨_, rfl⟩
    have s1 : v1.heap.size = g + 1 := by rw [← hv1, size_alloc_, hg]
    have k1 : After w1 v1 := by rw [← hv1]; exact inferInstance
    rw [hv1, hg] at d0
    rw [hv1]
    clear hv1
    have d1 := Blk.new v1 48 #[.slice (some ⟨G + 3, 0, none⟩) 1 1, .int .i64 1, .int .i64 0, .int .i64 3, .int .i64 0, .string ⟨#[]⟩, .slice none 0 0]
    obtain ⟨v2, hv2⟩ : ∃ v, v1.alloc (.cells #[.slice (some ⟨G + 3, 0, none⟩) 1 1, .int .i64 1, .int .i64 0, .int .i64 3, .int .i64 0, .string ⟨#[]⟩, .slice none 0 0] 48) = v := ⟨_, rfl⟩
    have s2 : v2.heap.size = g + 2 := by rw [← hv2, size_alloc_, s1]
    have k2 : After v1 v2 := by rw [← hv2]; exact inferInstance
    rw [hv2, s1] at d1
    rw [hv2]
    clear hv2
    have d2 := Blk.new v2 25 #[.int .i64 1, .int .i64 0, .int .i64 1, .int .i64 1, .string ⟨#[]⟩, .slice none 0 0]
    obtain ⟨v3, hv3⟩ : ∃ v, v2.alloc (.cells #[.int .i64 1, .int .i64 0, .int .i64 1, .int .i64 1, .string ⟨#[]⟩, .slice none 0 0] 25) = v := ⟨_, rfl⟩
    have s3 : v3.heap.size = g + 3 := by rw [← hv3, size_alloc_, s2]
    have k3 : After v2 v3 := by rw [← hv3]; exact inferInstance
    rw [hv3, s2] at d2
    rw [hv3]
    clear hv3
    have d3 := Blk.new v3 48 #[.slice (some ⟨G + 3, 0, none⟩) 1 1, .int .i64 1, .int .i64 0, .int .i64 3, .int .i64 0, .string ⟨#[]⟩, .slice none 0 0]
    obtain ⟨v4, hv4⟩ : ∃ v, v3.alloc (.cells #[.slice (some ⟨G + 3, 0, none⟩) 1 1, .int .i64 1, .int .i64 0, .int .i64 3, .int .i64 0, .string ⟨#[]⟩, .slice none 0 0] 48) = v := ⟨_, rfl⟩
    have s4 : v4.heap.size = g + 4 := by rw [← hv4, size_alloc_, s3]
    have k4 : After v3 v4 := by rw [← hv4]; exact inferInstance
    rw [hv4, s3] at d3
    rw [hv4]
    clear hv4
    have d4 := Blk.new v4 80 #[.string ⟨#[65]⟩, .slice none 0 0, .slice (some ⟨g + 3, 0, none⟩) 1 1, .slice none 0 0, .slice none 0 0, .slice none 0 0]
    obtain ⟨v5, hv5⟩ : ∃ v, v4.alloc (.cells #[.string ⟨#[65]⟩, .slice none 0 0, .slice (some ⟨g + 3, 0, none⟩) 1 1, .slice none 0 0, .slice none 0 0, .slice none 0 0] 80) = v := ⟨_, rfl⟩
    have s5 : v5.heap.size = g + 5 := by rw [← hv5, size_alloc_, s4]
    have k5 : After v4 v5 := by rw [← hv5]; exact inferInstance
    rw [hv5, s4] at d4
    rw [hv5]
    clear hv5
    exact ⟨v5, rfl, after_after k1 (after_after k2 (after_after k3 (after_after k4 (after_after k5 (after_refl v5))))), d0.after (k := after_after k2 (after_after k3 (after_after k4 (after_after k5 (after_refl v5))))), d1.after (k := after_after k3 (after_after k4 (after_after k5 (after_refl v5)))), d2.after (k := after_after k4 (after_after k5 (after_refl v5))), d3.after (k := after_after k5 (after_refl v5)), d4.after (k := after_refl v5), s5⟩
  have hW2' : (((((w1.alloc (.cells #[.slice (some ⟨G + 7, 0, none⟩) 1 1, .slice (some ⟨G + 8, 0, none⟩) 1 1] 32)).alloc (.cells #[.slice (some ⟨G + 3, 0, none⟩) 1 1, .int .i64 1, .int .i64 0, .int .i64 3, .int .i64 0, .string ⟨#[]⟩, .slice none 0 0] 48)).alloc (.cells #[.int .i64 1, .int .i64 0, .int .i64 1, .int .i64 1, .string ⟨#[]⟩, .slice none 0 0] 25)).alloc (.cells #[.slice (some ⟨G + 3, 0, none⟩) 1 1, .int .i64 1, .int .i64 0, .int .i64 3, .int .i64 0, .string ⟨#[]⟩, .slice none 0 0] 48)).alloc (.cells #[.string ⟨#[65]⟩, .slice none 0 0, .slice (some ⟨g + 1 + 1 + 1, 0, none⟩) 1 1, .slice none 0 0, .slice none 0 0, .slice none 0 0] 80)) = W2 := hW2
  try rw [hW2']
  try rw [hW2]
  try rw [show g + 1 + 1 = g + 2 from rfl, show g + 2 + 1 = g + 3 from rfl, show g + 3 + 1 = g + 4 from rfl]
  clear hW2 hW2'
  have L2 := L1.here W2
  have n2 := n1.after (w' := W2)
  have br2 := br1.after (w' := W2)
  have aw2 : After w W2 := after_after aw1 a2
  have u8g : G + 8 < g := by rw [← hg]; exact u8
  have hrg : w.heap.size ≤ r := Nat.le_of_eq hr
  clear q0 q1 q2 q3 q4 q5 q6 e0 ul4 ul8 a1 a2 L1 n1 br0 br1 u2 u8 hg hr aw1
  obtain ⟨W3, hW3, a3, c6, s6⟩ : ∃ W, W2.alloc (.cells #[.slice none 0 0] 86) = W ∧ After W2 W ∧ Blk W (g + 5) 86 #[.slice none 0 0] ∧ W.heap.size = g + 6 := ⟨_, rfl, inferInstance, by have hb := Blk.new W2 86 #[.slice none 0 0]; rwa [s5] at hb, by rw [size_alloc_, s5]⟩
  try rw [s5]
  try rw [show g + 4 + 1 = g + 5 from rfl]
  rw [hW3]
  clear hW3
  have c1 := c1.after (w' := W3) (k := a3)
  have c2 := c2.after (w' := W3) (k := a3)
  have c3 := c3.after (w' := W3) (k := a3)
  have c4 := c4.after (w' := W3) (k := a3)
  have c5 := c5.after (w' := W3) (k := a3)
  have n2 := n2.after (w' := W3) (k := a3)
  have br2 := br2.after (w' := W3) (k := a3)
  have L2 := L2.here W3
  have aw2 : After w W3 := after_after aw2 a3
  have hwm : IntKind.i64.wrap (8 + m) = 8 + m := by rw [IntKind.wrap_i64]; omega
  have HL : Hid (LI [(r, 32, #[.slice none 0 0, .slice none 0 0]), (G + 8, 45, lightC G), (g, 32, #[.slice (some ⟨G + 7, 0, none⟩) 1 1, .slice (some ⟨G + 8, 0, none⟩) 1 1]), (G + 2, 83, #[.string ⟨#[120]⟩, .int .i64 3, .slice none 0 0]), (G + 3, 9, #[.string ⟨#[120]⟩]), (G + 4, 48, #[.slice (some ⟨G + 3, 0, none⟩) 1 1, .int .i64 1, .int .i64 0, .int .i64 3, .int .i64 0, .string ⟨#[]⟩, .slice none 0 0]), (G + 6, 9, #[.string ⟨#[82, 101, 100]⟩, .string ⟨#[71, 114, 101, 101, 110]⟩]), (G + 7, 59, #[.string ⟨#[76, 105, 103, 104, 116]⟩, .slice (some ⟨G + 6, 0, none⟩) 2 2]), (g + 3, 48, #[.slice (some ⟨G + 3, 0, none⟩) 1 1, .int .i64 1, .int .i64 0, .int .i64 3, .int .i64 0, .string ⟨#[]⟩, .slice none 0 0]), (g + 4, 80, #[.string ⟨#[65]⟩, .slice none 0 0, .slice (some ⟨g + 3, 0, none⟩) 1 1, .slice none 0 0, .slice none 0 0, .slice none 0 0])] (g + 5) 0 86 (#[.slice none 0 0]) w.heap.size 80 6 (rep [.string ⟨#[65]⟩, .slice none 0 0, .slice (some ⟨g + 3, 0, none⟩) 1 1, .slice none 0 0, .slice none 0 0, .slice none 0 0]) 0 none 0 W3) := by
    refine ⟨fun x hx => ?_, ?_, World.ownsRow_nil .., fun x hx => ?_, ?_, fun x hx => ?_, ?_, ?_⟩
    · simp only [List.mem_cons, List.not_mem_nil, or_false] at hx
      rcases hx with rfl | rfl | rfl | rfl | rfl | rfl | rfl | rfl | rfl | rfl
      · exact br2
      · exact n2
      · exact c1
      · exact L2.b2
      · exact L2.b3
      · exact L2.b4
      · exact L2.b6
      · exact L2.b7
      · exact c4
      · exact c5
    · exact c6
    · simp only [List.mem_cons, List.not_mem_nil, or_false] at hx
      rcases hx with rfl | rfl | rfl | rfl | rfl | rfl | rfl | rfl | rfl | rfl <;> (simp [Value.ownBlock] <;> omega)
    · simp [Value.ownBlock] <;> omega
    · simp only [List.mem_cons, List.not_mem_nil, or_false] at hx
      rcases hx with rfl | rfl | rfl | rfl | rfl | rfl | rfl | rfl | rfl | rfl <;> (simp only []; omega)
    · exact After.size w W3
    · exact (by decide : 0 < 1)
  clear c1 c2 c3 c4 c5 L2 n2 br2 s5 c6 s6 a3
  go_loopw [] (fun wr => ∃ (n : Nat) (A : Option Addr) (c : Nat), 0 ≤ n ∧ ((n : Int) ≤ 8 + m) ∧ Hid (LI [(r, 32, #[.slice none 0 0, .slice none 0 0]), (G + 8, 45, lightC G), (g, 32, #[.slice (some ⟨G + 7, 0, none⟩) 1 1, .slice (some ⟨G + 8, 0, none⟩) 1 1]), (G + 2, 83, #[.string ⟨#[120]⟩, .int .i64 3, .slice none 0 0]), (G + 3, 9, #[.string ⟨#[120]⟩]), (G + 4, 48, #[.slice (some ⟨G + 3, 0, none⟩) 1 1, .int .i64 1, .int .i64 0, .int .i64 3, .int .i64 0, .string ⟨#[]⟩, .slice none 0 0]), (G + 6, 9, #[.string ⟨#[82, 101, 100]⟩, .string ⟨#[71, 114, 101, 101, 110]⟩]), (G + 7, 59, #[.string ⟨#[76, 105, 103, 104, 116]⟩, .slice (some ⟨G + 6, 0, none⟩) 2 2]), (g + 3, 48, #[.slice (some ⟨G + 3, 0, none⟩) 1 1, .int .i64 1, .int .i64 0, .int .i64 3, .int .i64 0, .string ⟨#[]⟩, .slice none 0 0]), (g + 4, 80, #[.string ⟨#[65]⟩, .slice none 0 0, .slice (some ⟨g + 3, 0, none⟩) 1 1, .slice none 0 0, .slice none 0 0, .slice none 0 0])] (g + 5) 0 86 (#[.slice none 0 0]) w.heap.size 80 6 (rep [.string ⟨#[65]⟩, .slice none 0 0, .slice (some ⟨g + 3, 0, none⟩) 1 1, .slice none 0 0, .slice none 0 0, .slice none 0 0]) n A c wr) ∧ After w wr) (fun wr => 400 - lenAt wr (g + 5) 0)
  case atStart => exact ⟨0, none, 0, by omega, by omega, HL, aw2⟩
  case round =>
    clear HL
    obtain ⟨n, A, c, h1, h2, hI, aw⟩ := hrel
    have e0 : wr.cell? ⟨g + 5, 0, none⟩ = some (.slice A n c) := hI.out.cell
    have kp : ∀ x ∈ [(r, 32, #[.slice none 0 0, .slice none 0 0]), (G + 8, 45, lightC G), (g, 32, #[.slice (some ⟨G + 7, 0, none⟩) 1 1, .slice (some ⟨G + 8, 0, none⟩) 1 1]), (G + 2, 83, #[.string ⟨#[120]⟩, .int .i64 3, .slice none 0 0]), (G + 3, 9, #[.string ⟨#[120]⟩]), (G + 4, 48, #[.slice (some ⟨G + 3, 0, none⟩) 1 1, .int .i64 1, .int .i64 0, .int .i64 3, .int .i64 0, .string ⟨#[]⟩, .slice none 0 0]), (G + 6, 9, #[.string ⟨#[82, 101, 100]⟩, .string ⟨#[71, 114, 101, 101, 110]⟩]), (G + 7, 59, #[.string ⟨#[76, 105, 103, 104, 116]⟩, .slice (some ⟨G + 6, 0, none⟩) 2 2]), (g + 3, 48, #[.slice (some ⟨G + 3, 0, none⟩) 1 1, .int .i64 1, .int .i64 0, .int .i64 3, .int .i64 0, .string ⟨#[]⟩, .slice none 0 0]), (g + 4, 80, #[.string ⟨#[65]⟩, .slice none 0 0, .slice (some ⟨g + 3, 0, none⟩) 1 1, .slice none 0 0, .slice none 0 0, .slice none 0 0])], Blk wr x.1 x.2.1 x.2.2 := hI.out.kl
    have bp := kp (g, 32, #[.slice (some ⟨G + 7, 0, none⟩) 1 1, .slice (some ⟨G + 8, 0, none⟩) 1 1]) (by simp)
    have br := kp (r, 32, #[.slice none 0 0, .slice none 0 0]) (by simp)
    have lp := bp.is_le
    have lr := br.is_le
    have r0 := (br.cell 0).trans rfl
    have r1 := (br.cell 1).trans rfl
    have rf0 := br.frozen 0
    have rf1 := br.frozen 1
    have p0 := (bp.cell 0).trans rfl
    have p1 := (bp.cell 1).trans rfl
    clear kp
    have qs := hI.out.kl (g + 4, 80, #[.string ⟨#[65]⟩, .slice none 0 0, .slice (some ⟨g + 3, 0, none⟩) 1 1, .slice none 0 0, .slice none 0 0, .slice none 0 0]) (by simp)
    have qls := qs.is_le
    have qs0 := (qs.cell 0).trans rfl
    have qs1 := (qs.cell 1).trans rfl
    have qs2 := (qs.cell 2).trans rfl
    have qs3 := (qs.cell 3).trans rfl
    have qs4 := (qs.cell 4).trans rfl
    have qs5 := (qs.cell 5).trans rfl
    clear qs
    have ef := hI.out.frozen
    have el := hI.out.le
    by_cases hlt : (n : Int) < 8 + m
    · go_wp2_with (at_builtin; obtain ⟨i0, hi0, hz0, hz1, hz2⟩ := info_parts stInfo; refine wpList_append_any (wr.alloc (.cells #[.string ⟨#[65]⟩, .slice none 0 0, .slice (some ⟨g + 3, 0, none⟩) 1 1, .slice none 0 0, .slice none 0 0, .slice none 0 0] 80)) rfl (.tmp 172) (.tmp 174) 84 rfl w.heap.size 80 i0 _ 6 _ Try.underlying84 hi0 hz0 hz1 hz2 rfl (by decide) _ n _ rfl (own_after hI.out.own (w' := (wr.alloc (.cells #[.string ⟨#[65]⟩, .slice none 0 0, .slice (some ⟨g + 3, 0, none⟩) 1 1, .slice none 0 0, .slice none 0 0, .slice none 0 0] 80))) inferInstance) _ _ 1 1 [.string ⟨#[65]⟩, .slice none 0 0, .slice (some ⟨g + 3, 0, none⟩) 1 1, .slice none 0 0, .slice none 0 0, .slice none 0 0] rfl (cells_flat (w := wr) rfl #[.string ⟨#[65]⟩, .slice none 0 0, .slice (some ⟨g + 3, 0, none⟩) 1 1, .slice none 0 0, .slice none 0 0, .slice none 0 0] 80 _ rfl 1 6 rfl) (by intro u hu; simp only [List.mem_cons, List.not_mem_nil, or_false] at hu; rcases hu with rfl | rfl | rfl | rfl | rfl | rfl <;> rfl) (by unfold maxLen; omega) (by omega) (Nat.le_trans hI.out.hB (After.size wr (wr.alloc (.cells #[.string ⟨#[65]⟩, .slice none 0 0, .slice (some ⟨g + 3, 0, none⟩) 1 1, .slice none 0 0, .slice none 0 0, .slice none 0 0] 80)))) ?_; intro r4 W4 own4 hg4 hnx4; obtain ⟨A4, c4, hA4, e4, ef4, el4, aw4, hI5⟩ := (hI.out.here (wr.alloc (.cells #[.string ⟨#[65]⟩, .slice none 0 0, .slice (some ⟨g + 3, 0, none⟩) 1 1, .slice none 0 0, .slice none 0 0, .slice none 0 0] 80))).push (w0 := w) (after_after aw inferInstance) (Nat.le_refl _) (rep_succ _ n) own4 hg4 hnx4; subst hA4; clear own4 hg4 hnx4 hi0 hz0 hz1 hz2)
      go_roundw
      case rel => exact ⟨n + 1, A4, c4, by omega, by omega, hI5, after_set (k := ⟨by omega⟩) _ _⟩
      case measure => (rw [lenAt_of hI5.out.cell, lenAt_of e0]; omega)
    · have b8 := hI.out.kl (G + 8, 45, lightC G) (by simp)
      have lb8 := b8.is_le
      have bf8 := b8.frozen 5
      have bc8 := (b8.cell 5).trans rfl
      have ltb8 := b8.lt
      have ltr := br.lt
      obtain ⟨z, hz_⟩ : ∃ z, wr.heap.size = z := ⟨_, rfl⟩
      obtain ⟨U0, hU0, aU, kz⟩ : ∃ U, wr.alloc (.cells #[.slice A n c] 86) = U ∧ After wr U ∧ Blk U z 86 #[.slice A n c] := ⟨_, rfl, inferInstance, by have hb := Blk.new wr 86 #[.slice A n c]; rwa [hz_] at hb⟩
      have ub8 := b8.after (w' := U0)
      have ubr := br.after (w' := U0)
      have ubp := bp.after (w' := U0)
      have xa := ub8.is_le
      have xb := ub8.frozen 5
      have xc := (ub8.cell 5).trans rfl
      have xd := ubr.is_le
      have xe := (ubr.cell 0).trans rfl
      have xf := (ubr.cell 1).trans rfl
      have xg := ubr.frozen 0
      have xh := ubr.frozen 1
      have xi := ubp.is_le
      have xj := (ubp.cell 0).trans rfl
      have xk := (ubp.cell 1).trans rfl
      clear ub8 ubr ubp
      go_wp2_with fail
      have bf := (((br.after (w' := U0)).far (p := ⟨G + 8, 5, none⟩) (show r ≠ G + 8 by omega) (.slice (some ⟨z, 0, none⟩) 1 1)).set_ 0 (.slice (some ⟨G + 7, 0, none⟩) 1 1)).set_ 1 (.slice (some ⟨G + 8, 0, none⟩) 1 1)
      have h8 := (((b8.after (w' := U0)).set_ 5 (.slice (some ⟨z, 0, none⟩) 1 1)).far (p := ⟨r, 0, none⟩) (show G + 8 ≠ r by omega) (.slice (some ⟨G + 7, 0, none⟩) 1 1)).far (p := ⟨r, 1, none⟩) (show G + 8 ≠ r by omega) (.slice (some ⟨G + 8, 0, none⟩) 1 1)
      have hz := ((kz.far (p := ⟨G + 8, 5, none⟩) (show z ≠ G + 8 by omega) (.slice (some ⟨z, 0, none⟩) 1 1)).far (p := ⟨r, 0, none⟩) (show z ≠ r by omega) (.slice (some ⟨G + 7, 0, none⟩) 1 1)).far (p := ⟨r, 1, none⟩) (show z ≠ r by omega) (.slice (some ⟨G + 8, 0, none⟩) 1 1)
      have hf := (((hI.out.here U0).drop.drop.set (g := G + 8) (i := 5) (u := .slice (some ⟨z, 0, none⟩) 1 1) (fun y hy => by simp only [List.mem_cons, List.not_mem_nil, or_false] at hy; rcases hy with rfl | rfl | rfl | rfl | rfl | rfl | rfl | rfl <;> (simp only []; omega)) (by omega) (hI.out.ne _ (List.mem_cons_of_mem _ (List.mem_cons_self ..)))).set (g := r) (i := 0) (u := .slice (some ⟨G + 7, 0, none⟩) 1 1) (fun y hy => by simp only [List.mem_cons, List.not_mem_nil, or_false] at hy; rcases hy with rfl | rfl | rfl | rfl | rfl | rfl | rfl | rfl <;> (simp only []; omega)) (by omega) (hI.out.ne _ (List.mem_cons_self ..))).set (g := r) (i := 1) (u := .slice (some ⟨G + 8, 0, none⟩) 1 1) (fun y hy => by simp only [List.mem_cons, List.not_mem_nil, or_false] at hy; rcases hy with rfl | rfl | rfl | rfl | rfl | rfl | rfl | rfl <;> (simp only []; omega)) (by omega) (hI.out.ne _ (List.mem_cons_self ..))
      have af : After w (((U0.setCell ⟨G + 8, 5, none⟩ (.slice (some ⟨z, 0, none⟩) 1 1)).setCell ⟨r, 0, none⟩ (.slice (some ⟨G + 7, 0, none⟩) 1 1)).setCell ⟨r, 1, none⟩ (.slice (some ⟨G + 8, 0, none⟩) 1 1)) := after_set (h := after_set (h := after_set (h := after_after aw aU) (k := ⟨by omega⟩) _ _) (k := ⟨hrg⟩) _ _) (k := ⟨hrg⟩) _ _
      have f0 := (bf.cell 0).trans rfl
      have f1 := (bf.cell 1).trans rfl
      obtain ⟨WF, hWF⟩ : ∃ W, ((U0.setCell ⟨G + 8, 5, none⟩ (.slice (some ⟨z, 0, none⟩) 1 1)).setCell ⟨r, 0, none⟩ (.slice (some ⟨G + 7, 0, none⟩) 1 1)).setCell ⟨r, 1, none⟩ (.slice (some ⟨G + 8, 0, none⟩) 1 1) = W := ⟨_, rfl⟩
      rw [hWF] at bf hf af f0 f1 h8 hz
      (try rw [hz_]); (try rw [hU0]); rw [hWF]
      clear hWF hI aw e0 bp br lp lr r0 r1 rf0 rf1 p0 p1 ef el bf b8 lb8 bf8
      have hn : (n : Int) = 8 + m := by omega
      clear hlt h1 h2 hwm
      exact bodyPost_ret (v := .agg #[.slice (some ⟨G + 7, 0, none⟩) 1 1, .slice (some ⟨G + 8, 0, none⟩) 1 1]) (by simp [results, Try.results14, go_sem, f0, f1]) rfl (wide_end_6 hm hn hf h8 hz af)
end Go.Proofs.Ytdghfhnkacfahaa
set_option linter.unusedVariables false
set_option linter.unusedSimpArgs false
namespace Go.Proofs.Ytdghfhnkacfahaa
open Go.RowKit Go.BigFrame
theorem wide_end_7 {m : Int} (hm : -1 ≤ m ∧ m ≤ 3) {w WF : World} {n c G g : Nat} {A : Option Addr} (hn : (n : Int) = 4 + m) (h : LI [(g, 32, #[.slice (some ⟨G + 7, 0, none⟩) 1 1, .slice (some ⟨G + 8, 0, none⟩) 1 1]), (G + 2, 83, #[.string ⟨#[120]⟩, .int .i64 3, .slice none 0 0]), (G + 3, 9, #[.string ⟨#[120]⟩]), (G + 4, 48, #[.slice (some ⟨G + 3, 0, none⟩) 1 1, .int .i64 1, .int .i64 0, .int .i64 3, .int .i64 0, .string ⟨#[]⟩, .slice none 0 0]), (G + 6, 9, #[.string ⟨#[82, 101, 100]⟩, .string ⟨#[71, 114, 101, 101, 110]⟩]), (G + 7, 59, #[.string ⟨#[76, 105, 103, 104, 116]⟩, .slice (some ⟨G + 6, 0, none⟩) 2 2]), (g + 2, 25, #[.int .i64 1, .int .i64 0, .int .i64 1, .int .i64 1, .string ⟨#[]⟩, .slice none 0 0]), (g + 3, 48, #[.slice (some ⟨G + 3, 0, none⟩) 1 1, .int .i64 1, .int .i64 0, .int .i64 3, .int .i64 0, .string ⟨#[]⟩, .slice none 0 0])] (g + 4) 5 80 (#[.string ⟨#[65]⟩, .slice none 0 0, .slice (some ⟨g + 3, 0, none⟩) 1 1, .slice none 0 0, .slice none 0 0, .slice none 0 0]) w.heap.size 88 8 (rep [.int .i64 1, .int .i64 0, .int .i64 1, .int .i64 1, .string ⟨#[]⟩, .slice none 0 0, .int .i64 0, .bool false]) n A c WF) {y z : Nat} (h8 : Blk WF (G + 8) 45 ((lightC G).setIfInBounds 5 (.slice (some ⟨z, 0, none⟩) 1 1))) (hy : Blk WF y 80 #[.string ⟨#[65]⟩, .slice none 0 0, .slice (some ⟨g + 3, 0, none⟩) 1 1, .slice none 0 0, .slice none 0 0, .slice A n c]) (hz : Blk WF z 86 #[.slice (some ⟨y, 0, none⟩) 1 1]) (a : After w WF) : WideR w m (.returned (.agg #[.slice (some ⟨G + 7, 0, none⟩) 1 1, .slice (some ⟨G + 8, 0, none⟩) 1 1])) WF := by
  have T : PSt True WF y 0 (wSt G (g + 3) A c (List.replicate n yesTr)) := wSt_is (h.kl (G + 3, 9, #[.string ⟨#[120]⟩]) (by simp)) (h.kl (g + 3, 48, #[.slice (some ⟨G + 3, 0, none⟩) 1 1, .int .i64 1, .int .i64 0, .int .i64 3, .int .i64 0, .string ⟨#[]⟩, .slice none 0 0]) (by simp)) (row_tr h.own (by omega)) fun j u hu => by (rw [List.length_replicate] at hu; rw [hy.cell, Nat.zero_add, ← Array.getElem?_toList]; exact hu)
  have R : RowOf 8 (PNd True) WF ⟨some ⟨G + 8, 0, none⟩, 1, [{ lightN G with autos := ⟨some ⟨z, 0, none⟩, 1, [.mk (some ⟨y, 0, none⟩) 1 [wSt G (g + 3) A c (List.replicate n yesTr)]]⟩ }]⟩ := wide_node (h.kl (G + 2, 83, #[.string ⟨#[120]⟩, .int .i64 3, .slice none 0 0]) (by simp)) (x := { lightN G with autos := ⟨some ⟨z, 0, none⟩, 1, [.mk (some ⟨y, 0, none⟩) 1 [wSt G (g + 3) A c (List.replicate n yesTr)]]⟩ }) h8 rfl rfl rfl (RowOf.nil WF) (RowOf.nil WF) (wide_eqs (h.kl (G + 3, 9, #[.string ⟨#[120]⟩]) (by simp)) (h.kl (G + 4, 48, #[.slice (some ⟨G + 3, 0, none⟩) 1 1, .int .i64 1, .int .i64 0, .int .i64 3, .int .i64 0, .string ⟨#[]⟩, .slice none 0 0]) (by simp))) (row_au rfl hz (RowOf.one hy.lt T)) (RowOf.nil WF)
  exact ⟨_, _, _, _, [lightU G], [{ lightN G with autos := ⟨some ⟨z, 0, none⟩, 1, [.mk (some ⟨y, 0, none⟩) 1 [wSt G (g + 3) A c (List.replicate n yesTr)]]⟩ }], rfl, (wide_enums (h.kl (G + 6, 9, #[.string ⟨#[82, 101, 100]⟩, .string ⟨#[71, 114, 101, 101, 110]⟩]) (by simp)) (h.kl (G + 7, 59, #[.string ⟨#[76, 105, 103, 104, 116]⟩, .slice (some ⟨G + 6, 0, none⟩) 2 2]) (by simp))), R, (node_tail G (x := { lightN G with autos := ⟨some ⟨z, 0, none⟩, 1, [.mk (some ⟨y, 0, none⟩) 1 [wSt G (g + 3) A c (List.replicate n yesTr)]]⟩ }) rfl rfl rfl rfl rfl rfl rfl rfl (au7_err G (g + 3) n _ A c)).trans (limE_m (decide_eq_decide.2 (by omega))), a⟩
set_option maxRecDepth 100000 in
set_option maxHeartbeats 6400000 in
theorem wide_7 (m : Int) (hm : -1 ≤ m ∧ m ≤ 3) (w : World) : Calls Try.prog 14 #[.int .i64 7, .int .i64 m] w fun e w' => WideR w m e w' := by
  obtain ⟨r, hr⟩ : ∃ r, w.heap.size = r := ⟨_, rfl⟩
  have br0 := Blk.new w 32 #[.slice none 0 0, .slice none 0 0]
  rw [hr] at br0
  go_enter Try.func14, Try.ntmps14
  go_wp2_with fail
  try rw [hr]
  refine (light_any _).mono ?_
  rintro e w1 ⟨G, rfl, a1, hG, L1, n1⟩
  rw [size_alloc_, hr] at hG
  have br1 := br0.after (k := a1)
  have aw1 : After w w1 := after_after inferInstance a1
  have u2 := L1.b2.lt
  have u8 := n1.lt
  have ul4 := L1.b4.is_le
  have ul8 := n1.is_le
  have e0 : w1.cell? ⟨G + 8, 4, none⟩ = some (.slice (some ⟨G + 4, 0, none⟩) 1 1) := (n1.cell 4).trans rfl
  have q0 : w1.cell? ⟨G + 4, 0, none⟩ = some (.slice (some ⟨G + 3, 0, none⟩) 1 1) := (L1.b4.cell 0).trans rfl
  have q1 : w1.cell? ⟨G + 4, 1, none⟩ = some (.int .i64 1) := (L1.b4.cell 1).trans rfl
  have q2 : w1.cell? ⟨G + 4, 2, none⟩ = some (.int .i64 0) := (L1.b4.cell 2).trans rfl
  have q3 : w1.cell? ⟨G + 4, 3, none⟩ = some (.int .i64 3) := (L1.b4.cell 3).trans rfl
  have q4 : w1.cell? ⟨G + 4, 4, none⟩ = some (.int .i64 0) := (L1.b4.cell 4).trans rfl
  have q5 : w1.cell? ⟨G + 4, 5, none⟩ = some (.string ⟨#[]⟩) := (L1.b4.cell 5).trans rfl
  have q6 : w1.cell? ⟨G + 4, 6, none⟩ = some (.slice none 0 0) := (L1.b4.cell 6).trans rfl
  go_wp2_with fail
  obtain ⟨g, hg⟩ : ∃ g, w1.heap.size = g := ⟨_, rfl⟩
  try rw [hg]
  obtain ⟨W2, hW2, a2, c1, c2, c3, c4, c5, s5⟩ : ∃ W, (((((w1.alloc (.cells #[.slice (some ⟨G + 7, 0, none⟩) 1 1, .slice (some ⟨G + 8, 0, none⟩) 1 1] 32)).alloc (.cells #[.slice (some ⟨G + 3, 0, none⟩) 1 1, .int .i64 1, .int .i64 0, .int .i64 3, .int .i64 0, .string ⟨#[]⟩, .slice none 0 0] 48)).alloc (.cells #[.int .i64 1, .int .i64 0, .int .i64 1, .int .i64 1, .string ⟨#[]⟩, .slice none 0 0] 25)).alloc (.cells #[.slice (some ⟨G + 3, 0, none⟩) 1 1, .int .i64 1, .int .i64 0, .int .i64 3, .int .i64 0, .string ⟨#[]⟩, .slice none 0 0] 48)).alloc (.cells #[.string ⟨#[65]⟩, .slice none 0 0, .slice (some ⟨g + 3, 0, none⟩) 1 1, .slice none 0 0, .slice none 0 0, .slice none 0 0] 80)) = W ∧ After w1 W ∧ Blk W (g) 32 #[.slice (some ⟨G + 7, 0, none⟩) 1 1, .slice (some ⟨G + 8, 0, none⟩) 1 1] ∧ Blk W (g + 1) 48 #[.slice (some ⟨G + 3, 0, none⟩) 1 1, .int .i64 1, .int .i64 0, .int .i64 3, .int .i64 0, .string ⟨#[]⟩, .slice none 0 0] ∧ Blk W (g + 2) 25 #[.int .i64 1, .int .i64 0, .int .i64 1, .int .i64 1, .string ⟨#[]⟩, .slice none 0 0] ∧ Blk W (g + 3) 48 #[.slice (some ⟨G + 3, 0, none⟩) 1 1, .int .i64 1, .int .i64 0, .int .i64 3, .int .i64 0, .string ⟨#[]⟩, .slice none 0 0] ∧ Blk W (g + 4) 80 #[.string ⟨#[65]⟩, .slice none 0 0, .slice (some ⟨g + 3, 0, none⟩) 1 1, .slice none 0 0, .slice none 0 0, .slice none 0 0] ∧ W.heap.size = g + 5 := by
    have d0 := Blk.new w1 32 #[.slice (some ⟨G + 7, 0, none⟩) 1 1, .slice (some ⟨G + 8, 0, none⟩) 1 1]
    obtain ⟨v1, hv1⟩ : ∃ v, w1.alloc (.cells #[.slice (some ⟨G + 7, 0, none⟩) 1 1, .slice (some ⟨G + 8, 0, none⟩) 1 1] 32) = v := ⟨_, rfl⟩
    have s1 : v1.heap.size = g + 1 := by rw [← hv1, size_alloc_, hg]
    have k1 : After w1 v1 := by rw [← hv1]; exact inferInstance
    rw [hv1, hg] at d0
    rw [hv1]
    clear hv1
    have d1 := Blk.new v1 48 #[.slice (some ⟨G + 3, 0, none⟩) 1 1, .int .i64 1, .int .i64 0, .int .i64 3, .int .i64 0, .string ⟨#[]⟩, .slice none 0 0]
    obtain ⟨v2, hv2⟩ : ∃ v, v1.alloc (.cells #[.slice (some ⟨G + 3, 0, none⟩) 1 1, .int .i64 1, .int .i64 0, .int .i64 3, .int .i64 0, .string ⟨#[]⟩, .slice none 0 0] 48) = v := ⟨_, rfl⟩
    have s2 : v2.heap.size = g + 2 := by rw [← hv2, size_alloc_, s1]
    have k2 : After v1 v2 := by rw [← hv2]; exact inferInstance
    rw [hv2, s1] at d1
    rw [hv2]
    clear hv2
    have d2 := Blk.new v2 25 #[.int .i64 1, .int .i64 0, .int .i64 1, .int .i64 1, .string ⟨#[]⟩, .slice none 0 0]
    obtain ⟨v3, hv3⟩ : ∃ v, v2.alloc (.cells #[.int .i64 1, .int .i64 0, .int .i64 1, .int .i64 1, .string ⟨#[]⟩, .slice none 0 0] 25) = v := ⟨_, rfl⟩
    have s3 : v3.heap.size = g + 3 := by rw [← hv3, size_alloc_, s2]
    have k3 : After v2 v3 := by rw [← hv3]; exact inferInstance
    rw [hv3, s2] at d2
    rw [hv3]
    clear hv3
    have d3 := Blk.new v3 48 #[.slice (some ⟨G + 3, 0, none⟩) 1 1, .int .i64 1, .int .i64 0, .int .i64 3, .int .i64 0, .string ⟨#[]⟩, .slice none 0 0]
    obtain ⟨v4, hv4⟩ : ∃ v, v3.alloc (.cells #[.slice (some ⟨G + 3, 0, none⟩) 1 1, .int .i64 1, .int .i64 0, .int .i64 3, .int .i64 0, .string ⟨#[]⟩, .slice none 0 0] 48) = v := ⟨_, rfl⟩
    have s4 : v4.heap.size = g + 4 := by rw [← hv4, size_alloc_, s3]
    have k4 : After v3 v4 := by rw [← hv4]; exact inferInstance
    rw [hv4, s3] at d3
    rw [hv4]
    clear hv4
    have d4 := Blk.new v4 80 #[.string ⟨#[65]⟩, .slice none 0 0, .slice (some ⟨g + 3, 0, none⟩) 1 1, .slice none 0 0, .slice none 0 0, .slice none 0 0]
    obtain ⟨v5, hv5⟩ : ∃ v, v4.alloc (.cells #[.string ⟨#[65]⟩, .slice none 0 0, .slice (some ⟨g + 3, 0, none⟩) 1 1, .slice none 0 0, .slice none 0 0, .slice none 0 0] 80) = v := ⟨_, rfl⟩
    have s5 : v5.heap.size = g + 5 := by rw [← hv5, size_alloc_, s4]
    have k5 : After v4 v5 := by rw [← hv5]; exact inferInstance
    rw [hv5, s4] at d4
    rw [hv5]
    clear hv5
    exact ⟨v5, rfl, after_after k1 (after_after k2 (after_after k3 (after_after k4 (after_after k5 (after_refl v5))))), d0.after (k := after_after k2 (after_after k3 (after_after k4 (after_after k5 (after_refl v5))))), d1.after (k := after_after k3 (after_after k4 (after_after k5 (after_refl v5)))), d2.after (k := after_after k4 (after_after k5 (after_refl v5))), d3.after (k := after_after k5 (after_refl v5)), d4.after (k := after_refl v5), s5⟩
  have hW2' : (((((w1.alloc (.cells #[.slice (some ⟨G + 7, 0, none⟩) 1 1, .slice (some ⟨G + 8, 0, none⟩) 1 1] 32)).alloc (.cells #[.slice (some ⟨G + 3, 0, none⟩) 1 1, .int .i64 1, .int .i64 0, .int .i64 3, .int .i64 0, .string ⟨#[]⟩, .slice none 0 0] 48)).alloc (.cells #[.int .i64 1, .int .i64 0, .int .i64 1, .int .i64 1, .string ⟨#[]⟩, .slice none 0 0] 25)).alloc (.cells #[.slice (some ⟨G + 3, 0, none⟩) 1 1, .int .i64 1, .int .i64 0, .int .i64 3, .int .i64 0, .string ⟨#[]⟩, .slice none 0 0] 48)).alloc (.cells #[.string ⟨#[65]⟩, .slice none 0 0, .slice (some ⟨g + 1 + 1 + 1, 0, none⟩) 1 1, .slice none 0 0, .slice none 0 0, .slice none 0 0] 80)) = W2 := hW2
  try rw [hW2']
  try rw [hW2]
  try rw [show g + 1 + 1 = g + 2 from rfl, show g + 2 + 1 = g + 3 from rfl, show g + 3 + 1 = g + 4 from rfl]
  clear hW2 hW2'
  have L2 := L1.here W2
  have n2 := n1.after (w' := W2)
  have br2 := br1.after (w' := W2)
  have aw2 : After w W2 := after_after aw1 a2
  have u8g : G + 8 < g := by rw [← hg]; exact u8
  have hrg : w.heap.size ≤ r := Nat.le_of_eq hr
  clear q0 q1 q2 q3 q4 q5 q6 e0 ul4 ul8 a1 a2 L1 n1 br0 br1 u2 u8 hg hr aw1
  have hwm : IntKind.i64.wrap (4 + m) = 4 + m := by rw [IntKind.wrap_i64]; omega
  have HL : Hid (LI [(r, 32, #[.slice none 0 0, .slice none 0 0]), (G + 8, 45, lightC G), (g, 32, #[.slice (some ⟨G + 7, 0, none⟩) 1 1, .slice (some ⟨G + 8, 0, none⟩) 1 1]), (G + 2, 83, #[.string ⟨#[120]⟩, .int .i64 3, .slice none 0 0]), (G + 3, 9, #[.string ⟨#[120]⟩]), (G + 4, 48, #[.slice (some ⟨G + 3, 0, none⟩) 1 1, .int .i64 1, .int .i64 0, .int .i64 3, .int .i64 0, .string ⟨#[]⟩, .slice none 0 0]), (G + 6, 9, #[.string ⟨#[82, 101, 100]⟩, .string ⟨#[71, 114, 101, 101, 110]⟩]), (G + 7, 59, #[.string ⟨#[76, 105, 103, 104, 116]⟩, .slice (some ⟨G + 6, 0, none⟩) 2 2]), (g + 2, 25, #[.int .i64 1, .int .i64 0, .int .i64 1, .int .i64 1, .string ⟨#[]⟩, .slice none 0 0]), (g + 3, 48, #[.slice (some ⟨G + 3, 0, none⟩) 1 1, .int .i64 1, .int .i64 0, .int .i64 3, .int .i64 0, .string ⟨#[]⟩, .slice none 0 0])] (g + 4) 5 80 (#[.string ⟨#[65]⟩, .slice none 0 0, .slice (some ⟨g + 3, 0, none⟩) 1 1, .slice none 0 0, .slice none 0 0, .slice none 0 0]) w.heap.size 88 8 (rep [.int .i64 1, .int .i64 0, .int .i64 1, .int .i64 1, .string ⟨#[]⟩, .slice none 0 0, .int .i64 0, .bool false]) 0 none 0 W2) := by
    refine ⟨fun x hx => ?_, ?_, World.ownsRow_nil .., fun x hx => ?_, ?_, fun x hx => ?_, ?_, ?_⟩
    · simp only [List.mem_cons, List.not_mem_nil, or_false] at hx
      rcases hx with rfl | rfl | rfl | rfl | rfl | rfl | rfl | rfl | rfl | rfl
      · exact br2
      · exact n2
      · exact c1
      · exact L2.b2
      · exact L2.b3
      · exact L2.b4
      · exact L2.b6
      · exact L2.b7
      · exact c3
      · exact c4
    · exact c5
    · simp only [List.mem_cons, List.not_mem_nil, or_false] at hx
      rcases hx with rfl | rfl | rfl | rfl | rfl | rfl | rfl | rfl | rfl | rfl <;> (simp [Value.ownBlock] <;> omega)
    · simp [Value.ownBlock] <;> omega
    · simp only [List.mem_cons, List.not_mem_nil, or_false] at hx
      rcases hx with rfl | rfl | rfl | rfl | rfl | rfl | rfl | rfl | rfl | rfl <;> (simp only []; omega)
    · exact After.size w W2
    · exact (by decide : 5 < 6)
  clear c1 c2 c3 c4 c5 L2 n2 br2 s5
  go_loopw [] (fun wr => ∃ (n : Nat) (A : Option Addr) (c : Nat), 0 ≤ n ∧ ((n : Int) ≤ 4 + m) ∧ Hid (LI [(r, 32, #[.slice none 0 0, .slice none 0 0]), (G + 8, 45, lightC G), (g, 32, #[.slice (some ⟨G + 7, 0, none⟩) 1 1, .slice (some ⟨G + 8, 0, none⟩) 1 1]), (G + 2, 83, #[.string ⟨#[120]⟩, .int .i64 3, .slice none 0 0]), (G + 3, 9, #[.string ⟨#[120]⟩]), (G + 4, 48, #[.slice (some ⟨G + 3, 0, none⟩) 1 1, .int .i64 1, .int .i64 0, .int .i64 3, .int .i64 0, .string ⟨#[]⟩, .slice none 0 0]), (G + 6, 9, #[.string ⟨#[82, 101, 100]⟩, .string ⟨#[71, 114, 101, 101, 110]⟩]), (G + 7, 59, #[.string ⟨#[76, 105, 103, 104, 116]⟩, .slice (some ⟨G + 6, 0, none⟩) 2 2]), (g + 2, 25, #[.int .i64 1, .int .i64 0, .int .i64 1, .int .i64 1, .string ⟨#[]⟩, .slice none 0 0]), (g + 3, 48, #[.slice (some ⟨G + 3, 0, none⟩) 1 1, .int .i64 1, .int .i64 0, .int .i64 3, .int .i64 0, .string ⟨#[]⟩, .slice none 0 0])] (g + 4) 5 80 (#[.string ⟨#[65]⟩, .slice none 0 0, .slice (some ⟨g + 3, 0, none⟩) 1 1, .slice none 0 0, .slice none 0 0, .slice none 0 0]) w.heap.size 88 8 (rep [.int .i64 1, .int .i64 0, .int .i64 1, .int .i64 1, .string ⟨#[]⟩, .slice none 0 0, .int .i64 0, .bool false]) n A c wr) ∧ After w wr) (fun wr => 400 - lenAt wr (g + 4) 5)
  case atStart => exact ⟨0, none, 0, by omega, by omega, HL, aw2⟩
  case round =>
    clear HL
    obtain ⟨n, A, c, h1, h2, hI, aw⟩ := hrel
    have e0 : wr.cell? ⟨g + 4, 5, none⟩ = some (.slice A n c) := hI.out.cell
    have kp : ∀ x ∈ [(r, 32, #[.slice none 0 0, .slice none 0 0]), (G + 8, 45, lightC G), (g, 32, #[.slice (some ⟨G + 7, 0, none⟩) 1 1, .slice (some ⟨G + 8, 0, none⟩) 1 1]), (G + 2, 83, #[.string ⟨#[120]⟩, .int .i64 3, .slice none 0 0]), (G + 3, 9, #[.string ⟨#[120]⟩]), (G + 4, 48, #[.slice (some ⟨G + 3, 0, none⟩) 1 1, .int .i64 1, .int .i64 0, .int .i64 3, .int .i64 0, .string ⟨#[]⟩, .slice none 0 0]), (G + 6, 9, #[.string ⟨#[82, 101, 100]⟩, .string ⟨#[71, 114, 101, 101, 110]⟩]), (G + 7, 59, #[.string ⟨#[76, 105, 103, 104, 116]⟩, .slice (some ⟨G + 6, 0, none⟩) 2 2]), (g + 2, 25, #[.int .i64 1, .int .i64 0, .int .i64 1, .int .i64 1, .string ⟨#[]⟩, .slice none 0 0]), (g + 3, 48, #[.slice (some ⟨G + 3, 0, none⟩) 1 1, .int .i64 1, .int .i64 0, .int .i64 3, .int .i64 0, .string ⟨#[]⟩, .slice none 0 0])], Blk wr x.1 x.2.1 x.2.2 := hI.out.kl
    have bp := kp (g, 32, #[.slice (some ⟨G + 7, 0, none⟩) 1 1, .slice (some ⟨G + 8, 0, none⟩) 1 1]) (by simp)
    have br := kp (r, 32, #[.slice none 0 0, .slice none 0 0]) (by simp)
    have lp := bp.is_le
    have lr := br.is_le
    have r0 := (br.cell 0).trans rfl
    have r1 := (br.cell 1).trans rfl
    have rf0 := br.frozen 0
    have rf1 := br.frozen 1
    have p0 := (bp.cell 0).trans rfl
    have p1 := (bp.cell 1).trans rfl
    clear kp
    have qy := hI.out.kl (g + 2, 25, #[.int .i64 1, .int .i64 0, .int .i64 1, .int .i64 1, .string ⟨#[]⟩, .slice none 0 0]) (by simp)
    have qly := qy.is_le
    have qy0 := (qy.cell 0).trans rfl
    have qy1 := (qy.cell 1).trans rfl
    have qy2 := (qy.cell 2).trans rfl
    have qy3 := (qy.cell 3).trans rfl
    have qy4 := (qy.cell 4).trans rfl
    have qy5 := (qy.cell 5).trans rfl
    clear qy
    have ef := hI.out.frozen
    have el := hI.out.le
    by_cases hlt : (n : Int) < 4 + m
    · go_wp2_with (at_builtin; obtain ⟨i0, hi0, hz0, hz1, hz2⟩ := info_parts trInfo; refine wpList_append_any (wr.alloc (.cells #[.int .i64 1, .int .i64 0, .int .i64 1, .int .i64 1, .string ⟨#[]⟩, .slice none 0 0, .int .i64 0, .bool false] 88)) rfl (.tmp 191) (.tmp 194) 78 rfl w.heap.size 88 i0 _ 8 _ Try.underlying78 hi0 hz0 hz1 hz2 rfl (by decide) _ n _ rfl (own_after hI.out.own (w' := (wr.alloc (.cells #[.int .i64 1, .int .i64 0, .int .i64 1, .int .i64 1, .string ⟨#[]⟩, .slice none 0 0, .int .i64 0, .bool false] 88))) inferInstance) _ _ 1 1 [.int .i64 1, .int .i64 0, .int .i64 1, .int .i64 1, .string ⟨#[]⟩, .slice none 0 0, .int .i64 0, .bool false] rfl (cells_flat (w := wr) rfl #[.int .i64 1, .int .i64 0, .int .i64 1, .int .i64 1, .string ⟨#[]⟩, .slice none 0 0, .int .i64 0, .bool false] 88 _ rfl 1 8 rfl) (by intro u hu; simp only [List.mem_cons, List.not_mem_nil, or_false] at hu; rcases hu with rfl | rfl | rfl | rfl | rfl | rfl | rfl | rfl <;> rfl) (by unfold maxLen; omega) (by omega) (Nat.le_trans hI.out.hB (After.size wr (wr.alloc (.cells #[.int .i64 1, .int .i64 0, .int .i64 1, .int .i64 1, .string ⟨#[]⟩, .slice none 0 0, .int .i64 0, .bool false] 88)))) ?_; intro r4 W4 own4 hg4 hnx4; obtain ⟨A4, c4, hA4, e4, ef4, el4, aw4, hI5⟩ := (hI.out.here (wr.alloc (.cells #[.int .i64 1, .int .i64 0, .int .i64 1, .int .i64 1, .string ⟨#[]⟩, .slice none 0 0, .int .i64 0, .bool false] 88))).push (w0 := w) (after_after aw inferInstance) (Nat.le_refl _) (rep_succ _ n) own4 hg4 hnx4; subst hA4; clear own4 hg4 hnx4 hi0 hz0 hz1 hz2)
      go_roundw
      case rel => exact ⟨n + 1, A4, c4, by omega, by omega, hI5, after_set (k := ⟨by omega⟩) _ _⟩
      case measure => (rw [lenAt_of hI5.out.cell, lenAt_of e0]; omega)
    · have b8 := hI.out.kl (G + 8, 45, lightC G) (by simp)
      have lb8 := b8.is_le
      have bf8 := b8.frozen 5
      have bc8 := (b8.cell 5).trans rfl
      have ltb8 := b8.lt
      have ltr := br.lt
      obtain ⟨y, hy_⟩ : ∃ y, wr.heap.size = y := ⟨_, rfl⟩
      obtain ⟨z, hz_⟩ : ∃ z, y + 1 = z := ⟨_, rfl⟩
      obtain ⟨V0, hV0, aV, ky0, sV⟩ : ∃ U, wr.alloc (.cells #[.string ⟨#[65]⟩, .slice none 0 0, .slice (some ⟨g + 3, 0, none⟩) 1 1, .slice none 0 0, .slice none 0 0, .slice A n c] 80) = U ∧ After wr U ∧ Blk U y 80 #[.string ⟨#[65]⟩, .slice none 0 0, .slice (some ⟨g + 3, 0, none⟩) 1 1, .slice none 0 0, .slice none 0 0, .slice A n c] ∧ U.heap.size = z := ⟨_, rfl, inferInstance, by have hb := Blk.new wr 80 #[.string ⟨#[65]⟩, .slice none 0 0, .slice (some ⟨g + 3, 0, none⟩) 1 1, .slice none 0 0, .slice none 0 0, .slice A n c]; rwa [hy_] at hb, by rw [size_alloc_, hy_, hz_]⟩
      obtain ⟨U0, hU0, aU0, kz⟩ : ∃ U, V0.alloc (.cells #[.slice (some ⟨y, 0, none⟩) 1 1] 86) = U ∧ After V0 U ∧ Blk U z 86 #[.slice (some ⟨y, 0, none⟩) 1 1] := ⟨_, rfl, inferInstance, by have hb := Blk.new V0 86 #[.slice (some ⟨y, 0, none⟩) 1 1]; rwa [sV] at hb⟩
      have aU : After wr U0 := after_after aV aU0
      have ky := ky0.after (w' := U0)
      have bs := hI.out.bc
      have t0 := (bs.cell 0).trans rfl
      have t1 := (bs.cell 1).trans rfl
      have t2 := (bs.cell 2).trans rfl
      have t3 := (bs.cell 3).trans rfl
      have t4 := (bs.cell 4).trans rfl
      have t5 := (bs.cell 5).trans rfl
      have ub8 := b8.after (w' := U0)
      have ubr := br.after (w' := U0)
      have ubp := bp.after (w' := U0)
      have xa := ub8.is_le
      have xb := ub8.frozen 5
      have xc := (ub8.cell 5).trans rfl
      have xd := ubr.is_le
      have xe := (ubr.cell 0).trans rfl
      have xf := (ubr.cell 1).trans rfl
      have xg := ubr.frozen 0
      have xh := ubr.frozen 1
      have xi := ubp.is_le
      have xj := (ubp.cell 0).trans rfl
      have xk := (ubp.cell 1).trans rfl
      clear ub8 ubr ubp
      go_wp2_with fail
      have bf := (((br.after (w' := U0)).far (p := ⟨G + 8, 5, none⟩) (show r ≠ G + 8 by omega) (.slice (some ⟨z, 0, none⟩) 1 1)).set_ 0 (.slice (some ⟨G + 7, 0, none⟩) 1 1)).set_ 1 (.slice (some ⟨G + 8, 0, none⟩) 1 1)
      have h8 := (((b8.after (w' := U0)).set_ 5 (.slice (some ⟨z, 0, none⟩) 1 1)).far (p := ⟨r, 0, none⟩) (show G + 8 ≠ r by omega) (.slice (some ⟨G + 7, 0, none⟩) 1 1)).far (p := ⟨r, 1, none⟩) (show G + 8 ≠ r by omega) (.slice (some ⟨G + 8, 0, none⟩) 1 1)
      have hy := ((ky.far (p := ⟨G + 8, 5, none⟩) (show y ≠ G + 8 by omega) (.slice (some ⟨z, 0, none⟩) 1 1)).far (p := ⟨r, 0, none⟩) (show y ≠ r by omega) (.slice (some ⟨G + 7, 0, none⟩) 1 1)).far (p := ⟨r, 1, none⟩) (show y ≠ r by omega) (.slice (some ⟨G + 8, 0, none⟩) 1 1)
      have hz := ((kz.far (p := ⟨G + 8, 5, none⟩) (show z ≠ G + 8 by omega) (.slice (some ⟨z, 0, none⟩) 1 1)).far (p := ⟨r, 0, none⟩) (show z ≠ r by omega) (.slice (some ⟨G + 7, 0, none⟩) 1 1)).far (p := ⟨r, 1, none⟩) (show z ≠ r by omega) (.slice (some ⟨G + 8, 0, none⟩) 1 1)
      have hf := (((hI.out.here U0).drop.drop.set (g := G + 8) (i := 5) (u := .slice (some ⟨z, 0, none⟩) 1 1) (fun y hy => by simp only [List.mem_cons, List.not_mem_nil, or_false] at hy; rcases hy with rfl | rfl | rfl | rfl | rfl | rfl | rfl | rfl <;> (simp only []; omega)) (by omega) (hI.out.ne _ (List.mem_cons_of_mem _ (List.mem_cons_self ..)))).set (g := r) (i := 0) (u := .slice (some ⟨G + 7, 0, none⟩) 1 1) (fun y hy => by simp only [List.mem_cons, List.not_mem_nil, or_false] at hy; rcases hy with rfl | rfl | rfl | rfl | rfl | rfl | rfl | rfl <;> (simp only []; omega)) (by omega) (hI.out.ne _ (List.mem_cons_self ..))).set (g := r) (i := 1) (u := .slice (some ⟨G + 8, 0, none⟩) 1 1) (fun y hy => by simp only [List.mem_cons, List.not_mem_nil, or_false] at hy; rcases hy with rfl | rfl | rfl | rfl | rfl | rfl | rfl | rfl <;> (simp only []; omega)) (by omega) (hI.out.ne _ (List.mem_cons_self ..))
      have af : After w (((U0.setCell ⟨G + 8, 5, none⟩ (.slice (some ⟨z, 0, none⟩) 1 1)).setCell ⟨r, 0, none⟩ (.slice (some ⟨G + 7, 0, none⟩) 1 1)).setCell ⟨r, 1, none⟩ (.slice (some ⟨G + 8, 0, none⟩) 1 1)) := after_set (h := after_set (h := after_set (h := after_after aw aU) (k := ⟨by omega⟩) _ _) (k := ⟨hrg⟩) _ _) (k := ⟨hrg⟩) _ _
      have f0 := (bf.cell 0).trans rfl
      have f1 := (bf.cell 1).trans rfl
      obtain ⟨WF, hWF⟩ : ∃ W, ((U0.setCell ⟨G + 8, 5, none⟩ (.slice (some ⟨z, 0, none⟩) 1 1)).setCell ⟨r, 0, none⟩ (.slice (some ⟨G + 7, 0, none⟩) 1 1)).setCell ⟨r, 1, none⟩ (.slice (some ⟨G + 8, 0, none⟩) 1 1) = W := ⟨_, rfl⟩
      rw [hWF] at bf hf af f0 f1 h8 hy hz
      (try rw [hy_]); (try rw [hz_]); (try rw [hV0]); (try rw [hU0]); rw [hWF]
      clear hWF hI aw e0 bp br lp lr r0 r1 rf0 rf1 p0 p1 ef el bf b8 lb8 bf8
      have hn : (n : Int) = 4 + m := by omega
      clear hlt h1 h2 hwm
      exact bodyPost_ret (v := .agg #[.slice (some ⟨G + 7, 0, none⟩) 1 1, .slice (some ⟨G + 8, 0, none⟩) 1 1]) (by simp [results, Try.results14, go_sem, f0, f1]) rfl (wide_end_7 hm hn hf h8 hy hz af)
end Go.Proofs.Ytdghfhnkacfahaa
set_option linter.unusedVariables false
set_option linter.unusedSimpArgs false
namespace Go.Proofs.Ytdghfhnkacfahaa
open Go.RowKit Go.BigFrame
theorem wide_end_8 {m : Int} (hm : -1 ≤ m ∧ m ≤ 3) {w WF : World} {n c G g : Nat} {A : Option Addr} (hn : (n : Int) = 8 + m) (h : LI [(g, 32, #[.slice (some ⟨G + 7, 0, none⟩) 1 1, .slice (some ⟨G + 8, 0, none⟩) 1 1]), (G + 2, 83, #[.string ⟨#[120]⟩, .int .i64 3, .slice none 0 0]), (G + 3, 9, #[.string ⟨#[120]⟩]), (G + 4, 48, #[.slice (some ⟨G + 3, 0, none⟩) 1 1, .int .i64 1, .int .i64 0, .int .i64 3, .int .i64 0, .string ⟨#[]⟩, .slice none 0 0]), (G + 6, 9, #[.string ⟨#[82, 101, 100]⟩, .string ⟨#[71, 114, 101, 101, 110]⟩]), (G + 7, 59, #[.string ⟨#[76, 105, 103, 104, 116]⟩, .slice (some ⟨G + 6, 0, none⟩) 2 2]), (g + 2, 25, #[.int .i64 1, .int .i64 0, .int .i64 1, .int .i64 1, .string ⟨#[]⟩, .slice none 0 0])] (G + 8) 7 45 (lightC G) w.heap.size 25 6 (rep [.int .i64 1, .int .i64 0, .int .i64 1, .int .i64 1, .string ⟨#[]⟩, .slice none 0 0]) n A c WF) (a : After w WF) : WideR w m (.returned (.agg #[.slice (some ⟨G + 7, 0, none⟩) 1 1, .slice (some ⟨G + 8, 0, none⟩) 1 1])) WF := by
  have R : RowOf 8 (PNd True) WF ⟨some ⟨G + 8, 0, none⟩, 1, [{ lightN G with ensure := ⟨A, c, List.replicate n (constT 1 1)⟩ }]⟩ := wide_node (h.kl (G + 2, 83, #[.string ⟨#[120]⟩, .int .i64 3, .slice none 0 0]) (by simp)) (x := { lightN G with ensure := ⟨A, c, List.replicate n (constT 1 1)⟩ }) (by have hb := h.bc; simp only [ndCells, List.length_replicate]; exact hb) rfl rfl rfl (RowOf.nil WF) (RowOf.nil WF) (wide_eqs (h.kl (G + 3, 9, #[.string ⟨#[120]⟩]) (by simp)) (h.kl (G + 4, 48, #[.slice (some ⟨G + 3, 0, none⟩) 1 1, .int .i64 1, .int .i64 0, .int .i64 3, .int .i64 0, .string ⟨#[]⟩, .slice none 0 0]) (by simp))) (RowOf.nil WF) (row_ex h.own (by omega))
  refine ⟨_, _, _, _, [lightU G], [{ lightN G with ensure := ⟨A, c, List.replicate n (constT 1 1)⟩ }], rfl, (wide_enums (h.kl (G + 6, 9, #[.string ⟨#[82, 101, 100]⟩, .string ⟨#[71, 114, 101, 101, 110]⟩]) (by simp)) (h.kl (G + 7, 59, #[.string ⟨#[76, 105, 103, 104, 116]⟩, .slice (some ⟨G + 6, 0, none⟩) 2 2]) (by simp))), R, ?_, a⟩
  rw [node_wide G (x := { lightN G with ensure := ⟨A, c, List.replicate n (constT 1 1)⟩ }) rfl rfl rfl rfl rfl (by simp only [lightN, firstE, eq_light (two_light G)]; rfl) rfl (firstE_rep (yes_ex G) n) (b := decide (m ≤ 0)) (by simp only [lightN, List.length_replicate, List.length_nil, List.length_cons]; simp; omega)]
  exact limE_m rfl
set_option maxRecDepth 100000 in
set_option maxHeartbeats 6400000 in
theorem wide_8 (m : Int) (hm : -1 ≤ m ∧ m ≤ 3) (w : World) : Calls Try.prog 14 #[.int .i64 8, .int .i64 m] w fun e w' => WideR w m e w' := by
  obtain ⟨r, hr⟩ : ∃ r, w.heap.size = r := ⟨_, rfl⟩
  have br0 := Blk.new w 32 #[.slice none 0 0, .slice none 0 0]
  rw [hr] at br0
  go_enter Try.func14, Try.ntmps14
  go_wp2_with fail
  try rw [hr]
  refine (light_any _).mono ?_
  rintro e w1 ⟨G, rfl, a1, hG, L1, n1⟩
  rw [size_alloc_, hr] at hG
  have br1 := br0.after (k := a1)
  have aw1 : After w w1 := after_after inferInstance a1
  have u2 := L1.b2.lt
  have u8 := n1.lt
  have ul4 := L1.b4.is_le
  have ul8 := n1.is_le
  have e0 : w1.cell? ⟨G + 8, 4, none⟩ = some (.slice (some ⟨G + 4, 0, none⟩) 1 1) := (n1.cell 4).trans rfl
  have q0 : w1.cell? ⟨G + 4, 0, none⟩ = some (.slice (some ⟨G + 3, 0, none⟩) 1 1) := (L1.b4.cell 0).trans rfl
  have q1 : w1.cell? ⟨G + 4, 1, none⟩ = some (.int .i64 1) := (L1.b4.cell 1).trans rfl
  have q2 : w1.cell? ⟨G + 4, 2, none⟩ = some (.int .i64 0) := (L1.b4.cell 2).trans rfl
  have q3 : w1.cell? ⟨G + 4, 3, none⟩ = some (.int .i64 3) := (L1.b4.cell 3).trans rfl
  have q4 : w1.cell? ⟨G + 4, 4, none⟩ = some (.int .i64 0) := (L1.b4.cell 4).trans rfl
  have q5 : w1.cell? ⟨G + 4, 5, none⟩ = some (.string ⟨#[]⟩) := (L1.b4.cell 5).trans rfl
  have q6 : w1.cell? ⟨G + 4, 6, none⟩ = some (.slice none 0 0) := (L1.b4.cell 6).trans rfl
  go_wp2_with fail
  obtain ⟨g, hg⟩ : ∃ g, w1.heap.size = g := ⟨_, rfl⟩
  try rw [hg]
  obtain ⟨W2, hW2, a2, c1, c2, c3, c4, c5, s5⟩ : ∃ W, (((((w1.alloc (.cells #[.slice (some ⟨G + 7, 0, none⟩) 1 1, .slice (some ⟨G + 8, 0, none⟩) 1 1] 32)).alloc (.cells #[.slice (some ⟨G + 3, 0, none⟩) 1 1, .int .i64 1, .int .i64 0, .int .i64 3, .int .i64 0, .string ⟨#[]⟩, .slice none 0 0] 48)).alloc (.cells #[.int .i64 1, .int .i64 0, .int .i64 1, .int .i64 1, .string ⟨#[]⟩, .slice none 0 0] 25)).alloc (.cells #[.slice (some ⟨G + 3, 0, none⟩) 1 1, .int .i64 1, .int .i64 0, .int .i64 3, .int .i64 0, .string ⟨#[]⟩, .slice none 0 0] 48)).alloc (.cells #[.string ⟨#[65]⟩, .slice none 0 0, .slice (some ⟨g + 3, 0, none⟩) 1 1, .slice none 0 0, .slice none 0 0, .slice none 0 0] 80)) = W ∧ After w1 W ∧ Blk W (g) 32 #[.slice (some ⟨G + 7, 0, none⟩) 1 1, .slice (some ⟨G + 8, 0, none⟩) 1 1] ∧ Blk W (g + 1) 48 #[.slice (some ⟨G + 3, 0, none⟩) 1 1, .int .i64 1, .int .i64 0, .int .i64 3, .int .i64 0, .string ⟨#[]⟩, .slice none 0 0] ∧ Blk W (g + 2) 25 #[.int .i64 1, .int .i64 0, .int .i64 1, .int .i64 1, .string ⟨#[]⟩, .slice none 0 0] ∧ Blk W (g + 3) 48 #[.slice (some ⟨G + 3, 0, none⟩) 1 1, .int .i64 1, .int .i64 0, .int .i64 3, .int .i64 0, .string ⟨#[]⟩, .slice none 0 0] ∧ Blk W (g + 4) 80 #[.string ⟨#[65]⟩, .slice none 0 0, .slice (some ⟨g + 3, 0, none⟩) 1 1, .slice none 0 0, .slice none 0 0, .slice none 0 0] ∧ W.heap.size = g + 5 := by
    have d0 := Blk.new w1 32 #[.slice (some ⟨G + 7, 0, none⟩) 1 1, .slice (some ⟨G + 8, 0, none⟩) 1 1]
    obtain ⟨v1, hv1⟩ : ∃ v, w1.alloc (.cells #[.slice (some ⟨G + 7, 0, none⟩) 1 1, .slice (some ⟨G + 8, 0, none⟩) 1 1] 32) = v := ⟨_, rfl⟩
    have s1 : v1.heap.size = g + 1 := by rw [← hv1, size_alloc_, hg]
    have k1 : After w1 v1 := by rw [← hv1]; exact inferInstance
    rw [hv1, hg] at d0
    rw [hv1]
    clear hv1
    have d1 := Blk.new v1 48 #[.slice (some ⟨G + 3, 0, none⟩) 1 1, .int .i64 1, .int .i64 0, .int .i64 3, .int .i64 0, .string ⟨#[]⟩, .slice none 0 0]
    obtain ⟨v2, hv2⟩ : ∃ v, v1.alloc (.cells #[.slice (some ⟨G + 3, 0, none⟩) 1 1, .int .i64 1, .int .i64 0, .int .i64 3, .int .i64 0, .string ⟨#[]⟩, .slice none 0 0] 48) = v := ⟨_, rfl⟩
    have s2 : v2.heap.size = g + 2 := by rw [← hv2, size_alloc_, s1]
    have k2 : After v1 v2 := by rw [← hv2]; exact inferInstance
    rw [hv2, s1] at d1
    rw [hv2]
    clear hv2
    have d2 := Blk.new v2 25 #[.int .i64 1, .int .i64 0, .int .i64 1, .int .i64 1, .string ⟨#[]⟩, .slice none 0 0]
    obtain ⟨v3, hv3⟩ : ∃ v, v2.alloc (.cells #[.int .i64 1, .int .i64 0, .int .i64 1, .int .i64 1, .string ⟨#[]⟩, .slice none 0 0] 25) = v := ⟨_, rfl⟩
    have s3 : v3.heap.size = g + 3 := by rw [← hv3, size_alloc_, s2]
    have k3 : After v2 v3 := by rw [← hv3]; exact inferInstance
    rw [hv3, s2] at d2
    rw [hv3]
    clear hv3
    have d3 := Blk.new v3 48 #[.slice (some ⟨G + 3, 0, none⟩) 1 1, .int .i64 1, .int .i64 0, .int .i64 3, .int .i64 0, .string ⟨#[]⟩, .slice none 0 0]
    obtain ⟨v4, hv4⟩ : ∃ v, v3.alloc (.cells #[.slice (some ⟨G + 3, 0, none⟩) 1 1, .int .i64 1, .int .i64 0, .int .i64 3, .int .i64 0, .string ⟨#[]⟩, .slice none 0 0] 48) = v := ⟨_, rfl⟩
    have s4 : v4.heap.size = g + 4 := by rw [← hv4, size_alloc_, s3]
    have k4 : After v3 v4 := by rw [← hv4]; exact inferInstance
    rw [hv4, s3] at d3
    rw [hv4]
    clear hv4
    have d4 := Blk.new v4 80 #[.string ⟨#[65]⟩, .slice none 0 0, .slice (some ⟨g + 3, 0, none⟩) 1 1, .slice none 0 0, .slice none 0 0, .slice none 0 0]
    obtain ⟨v5, hv5⟩ : ∃ v, v4.alloc (.cells #[.string ⟨#[65]⟩, .slice none 0 0, .slice (some ⟨g + 3, 0, none⟩) 1 1, .slice none 0 0, .slice none 0 0, .slice none 0 0] 80) = v := ⟨_, rfl⟩
    have s5 : v5.heap.size = g + 5 := by rw [← hv5, size_alloc_, s4]
    have k5 : After v4 v5 := by rw [← hv5]; exact inferInstance
    rw [hv5, s4] at d4
    rw [hv5]
    clear hv5
    exact ⟨v5, rfl, after_after k1 (after_after k2 (after_after k3 (after_after k4 (after_after k5 (after_refl v5))))), d0.after (k := after_after k2 (after_after k3 (after_after k4 (after_after k5 (after_refl v5))))), d1.after (k := after_after k3 (after_after k4 (after_after k5 (after_refl v5)))), d2.after (k := after_after k4 (after_after k5 (after_refl v5))), d3.after (k := after_after k5 (after_refl v5)), d4.after (k := after_refl v5), s5⟩
  have hW2' : (((((w1.alloc (.cells #[.slice (some ⟨G + 7, 0, none⟩) 1 1, .slice (some ⟨G + 8, 0, none⟩) 1 1] 32)).alloc (.cells #[.slice (some ⟨G + 3, 0, none⟩) 1 1, .int .i64 1, .int .i64 0, .int .i64 3, .int .i64 0, .string ⟨#[]⟩, .slice none 0 0] 48)).alloc (.cells #[.int .i64 1, .int .i64 0, .int .i64 1, .int .i64 1, .string ⟨#[]⟩, .slice none 0 0] 25)).alloc (.cells #[.slice (some ⟨G + 3, 0, none⟩) 1 1, .int .i64 1, .int .i64 0, .int .i64 3, .int .i64 0, .string ⟨#[]⟩, .slice none 0 0] 48)).alloc (.cells #[.string ⟨#[65]⟩, .slice none 0 0, .slice (some ⟨g + 1 + 1 + 1, 0, none⟩) 1 1, .slice none 0 0, .slice none 0 0, .slice none 0 0] 80)) = W2 := hW2
  try rw [hW2']
  try rw [hW2]
  try rw [show g + 1 + 1 = g + 2 from rfl, show g + 2 + 1 = g + 3 from rfl, show g + 3 + 1 = g + 4 from rfl]
  clear hW2 hW2'
  have L2 := L1.here W2
  have n2 := n1.after (w' := W2)
  have br2 := br1.after (w' := W2)
  have aw2 : After w W2 := after_after aw1 a2
  have u8g : G + 8 < g := by rw [← hg]; exact u8
  have hrg : w.heap.size ≤ r := Nat.le_of_eq hr
  clear q0 q1 q2 q3 q4 q5 q6 e0 ul4 ul8 a1 a2 L1 n1 br0 br1 u2 u8 hg hr aw1
  have hwm : IntKind.i64.wrap (8 + m) = 8 + m := by rw [IntKind.wrap_i64]; omega
  have HL : Hid (LI [(r, 32, #[.slice none 0 0, .slice none 0 0]), (g, 32, #[.slice (some ⟨G + 7, 0, none⟩) 1 1, .slice (some ⟨G + 8, 0, none⟩) 1 1]), (G + 2, 83, #[.string ⟨#[120]⟩, .int .i64 3, .slice none 0 0]), (G + 3, 9, #[.string ⟨#[120]⟩]), (G + 4, 48, #[.slice (some ⟨G + 3, 0, none⟩) 1 1, .int .i64 1, .int .i64 0, .int .i64 3, .int .i64 0, .string ⟨#[]⟩, .slice none 0 0]), (G + 6, 9, #[.string ⟨#[82, 101, 100]⟩, .string ⟨#[71, 114, 101, 101, 110]⟩]), (G + 7, 59, #[.string ⟨#[76, 105, 103, 104, 116]⟩, .slice (some ⟨G + 6, 0, none⟩) 2 2]), (g + 2, 25, #[.int .i64 1, .int .i64 0, .int .i64 1, .int .i64 1, .string ⟨#[]⟩, .slice none 0 0])] (G + 8) 7 45 (lightC G) w.heap.size 25 6 (rep [.int .i64 1, .int .i64 0, .int .i64 1, .int .i64 1, .string ⟨#[]⟩, .slice none 0 0]) 0 none 0 W2) := by
    refine ⟨fun x hx => ?_, ?_, World.ownsRow_nil .., fun x hx => ?_, ?_, fun x hx => ?_, ?_, ?_⟩
    · simp only [List.mem_cons, List.not_mem_nil, or_false] at hx
      rcases hx with rfl | rfl | rfl | rfl | rfl | rfl | rfl | rfl
      · exact br2
      · exact c1
      · exact L2.b2
      · exact L2.b3
      · exact L2.b4
      · exact L2.b6
      · exact L2.b7
      · exact c3
    · exact n2
    · simp only [List.mem_cons, List.not_mem_nil, or_false] at hx
      rcases hx with rfl | rfl | rfl | rfl | rfl | rfl | rfl | rfl <;> (simp [Value.ownBlock] <;> omega)
    · simp [Value.ownBlock] <;> omega
    · simp only [List.mem_cons, List.not_mem_nil, or_false] at hx
      rcases hx with rfl | rfl | rfl | rfl | rfl | rfl | rfl | rfl <;> (simp only []; omega)
    · exact After.size w W2
    · exact (by decide : 7 < 8)
  clear c1 c2 c3 c4 c5 L2 n2 br2 s5
  go_loopw [] (fun wr => ∃ (n : Nat) (A : Option Addr) (c : Nat), 0 ≤ n ∧ ((n : Int) ≤ 8 + m) ∧ Hid (LI [(r, 32, #[.slice none 0 0, .slice none 0 0]), (g, 32, #[.slice (some ⟨G + 7, 0, none⟩) 1 1, .slice (some ⟨G + 8, 0, none⟩) 1 1]), (G + 2, 83, #[.string ⟨#[120]⟩, .int .i64 3, .slice none 0 0]), (G + 3, 9, #[.string ⟨#[120]⟩]), (G + 4, 48, #[.slice (some ⟨G + 3, 0, none⟩) 1 1, .int .i64 1, .int .i64 0, .int .i64 3, .int .i64 0, .string ⟨#[]⟩, .slice none 0 0]), (G + 6, 9, #[.string ⟨#[82, 101, 100]⟩, .string ⟨#[71, 114, 101, 101, 110]⟩]), (G + 7, 59, #[.string ⟨#[76, 105, 103, 104, 116]⟩, .slice (some ⟨G + 6, 0, none⟩) 2 2]), (g + 2, 25, #[.int .i64 1, .int .i64 0, .int .i64 1, .int .i64 1, .string ⟨#[]⟩, .slice none 0 0])] (G + 8) 7 45 (lightC G) w.heap.size 25 6 (rep [.int .i64 1, .int .i64 0, .int .i64 1, .int .i64 1, .string ⟨#[]⟩, .slice none 0 0]) n A c wr) ∧ After w wr) (fun wr => 400 - lenAt wr (G + 8) 7)
  case atStart => exact ⟨0, none, 0, by omega, by omega, HL, aw2⟩
  case round =>
    clear HL
    obtain ⟨n, A, c, h1, h2, hI, aw⟩ := hrel
    have e0 : wr.cell? ⟨G + 8, 7, none⟩ = some (.slice A n c) := hI.out.cell
    have kp : ∀ x ∈ [(r, 32, #[.slice none 0 0, .slice none 0 0]), (g, 32, #[.slice (some ⟨G + 7, 0, none⟩) 1 1, .slice (some ⟨G + 8, 0, none⟩) 1 1]), (G + 2, 83, #[.string ⟨#[120]⟩, .int .i64 3, .slice none 0 0]), (G + 3, 9, #[.string ⟨#[120]⟩]), (G + 4, 48, #[.slice (some ⟨G + 3, 0, none⟩) 1 1, .int .i64 1, .int .i64 0, .int .i64 3, .int .i64 0, .string ⟨#[]⟩, .slice none 0 0]), (G + 6, 9, #[.string ⟨#[82, 101, 100]⟩, .string ⟨#[71, 114, 101, 101, 110]⟩]), (G + 7, 59, #[.string ⟨#[76, 105, 103, 104, 116]⟩, .slice (some ⟨G + 6, 0, none⟩) 2 2]), (g + 2, 25, #[.int .i64 1, .int .i64 0, .int .i64 1, .int .i64 1, .string ⟨#[]⟩, .slice none 0 0])], Blk wr x.1 x.2.1 x.2.2 := hI.out.kl
    have bp := kp (g, 32, #[.slice (some ⟨G + 7, 0, none⟩) 1 1, .slice (some ⟨G + 8, 0, none⟩) 1 1]) (by simp)
    have br := kp (r, 32, #[.slice none 0 0, .slice none 0 0]) (by simp)
    have lp := bp.is_le
    have lr := br.is_le
    have r0 := (br.cell 0).trans rfl
    have r1 := (br.cell 1).trans rfl
    have rf0 := br.frozen 0
    have rf1 := br.frozen 1
    have p0 := (bp.cell 0).trans rfl
    have p1 := (bp.cell 1).trans rfl
    clear kp
    have qy := hI.out.kl (g + 2, 25, #[.int .i64 1, .int .i64 0, .int .i64 1, .int .i64 1, .string ⟨#[]⟩, .slice none 0 0]) (by simp)
    have qly := qy.is_le
    have qy0 := (qy.cell 0).trans rfl
    have qy1 := (qy.cell 1).trans rfl
    have qy2 := (qy.cell 2).trans rfl
    have qy3 := (qy.cell 3).trans rfl
    have qy4 := (qy.cell 4).trans rfl
    have qy5 := (qy.cell 5).trans rfl
    clear qy
    have ef := hI.out.frozen
    have el := hI.out.le
    by_cases hlt : (n : Int) < 8 + m
    · go_wp2_with fail
      go_region_law (obtain ⟨i0, hi0, hz0, hz1, hz2⟩ := info_parts exInfo; refine step_append_any (wr.drew.alloc (.cells #[.int .i64 0, .int .i64 0, .int .i64 0, .int .i64 0, .string ⟨#[]⟩, .slice none 0 0] 25)) rfl (.tmp 217) (.tmp 220) 23 rfl w.heap.size 25 i0 _ 6 _ Try.underlying23 hi0 hz0 hz1 hz2 rfl (by decide) _ n _ rfl (own_after hI.out.own (w' := (wr.drew.alloc (.cells #[.int .i64 0, .int .i64 0, .int .i64 0, .int .i64 0, .string ⟨#[]⟩, .slice none 0 0] 25))) inferInstance) _ _ 1 1 [.int .i64 0, .int .i64 0, .int .i64 0, .int .i64 0, .string ⟨#[]⟩, .slice none 0 0] rfl (cells_flat (w := wr.drew) rfl #[.int .i64 0, .int .i64 0, .int .i64 0, .int .i64 0, .string ⟨#[]⟩, .slice none 0 0] 25 _ rfl 1 6 rfl) (by intro u hu; simp only [List.mem_cons, List.not_mem_nil, or_false] at hu; rcases hu with rfl | rfl | rfl | rfl | rfl | rfl <;> rfl) (by unfold maxLen; omega) (by omega) (Nat.le_trans hI.out.hB (After.size wr (wr.drew.alloc (.cells #[.int .i64 0, .int .i64 0, .int .i64 0, .int .i64 0, .string ⟨#[]⟩, .slice none 0 0] 25)))) ?_; intro r4 W4 own4 hg4 hnx4; obtain ⟨g4, c4, hA4, e4, ef4, el4, aw4, gn4, gl4, gb4, gf4, gz4, W5, E5, E6, hI5, aI5⟩ := (hI.out.here _).push6 (w0 := w) (by omega) (after_after aw inferInstance) (Nat.le_refl _) (rep_len rfl n) (rep_succ _ n) own4 hg4 hnx4; subst hA4; have nlt4 : (n : Int) < (n : Int) + 1 := Int.lt_succ _; have y0 : W4.cell? ⟨g4, n * 6, none⟩ = some _ := gz4 0 _ rfl; have y1 := gz4 1 _ rfl; have y2 := gz4 2 _ rfl; have y3 := gz4 3 _ rfl; have y4 := gz4 4 _ rfl; have y5 := gz4 5 _ rfl; have v0 := gf4 (n * 6); have v1 := gf4 (n * 6 + 1); have v2 := gf4 (n * 6 + 2); have v3 := gf4 (n * 6 + 3); have v4 := gf4 (n * 6 + 4); have v5 := gf4 (n * 6 + 5); clear gz4 gf4 own4 hg4 hnx4 hi0 hz0 hz1 hz2)
      all_goals (try go_wp2_with fail)
      all_goals (first | rw [E5.out] | rw [E6.out]); exact ⟨⟨n + 1, (some ⟨g4, 0, none⟩), c4, by omega, by omega, hI5, aI5⟩, by (rw [lenAt_of hI5.out.cell, lenAt_of e0]; omega)⟩
    · go_wp2_with fail
      have bf := (br.set_ 0 (.slice (some ⟨G + 7, 0, none⟩) 1 1)).set_ 1 (.slice (some ⟨G + 8, 0, none⟩) 1 1)
      have hf := (hI.out.drop.set (g := r) (i := 0) (u := .slice (some ⟨G + 7, 0, none⟩) 1 1) (fun y hy => by simp only [List.mem_cons, List.not_mem_nil, or_false] at hy; rcases hy with rfl | rfl | rfl | rfl | rfl | rfl | rfl <;> (simp only []; omega)) (by omega) (hI.out.ne _ (List.mem_cons_self ..))).set (g := r) (i := 1) (u := .slice (some ⟨G + 8, 0, none⟩) 1 1) (fun y hy => by simp only [List.mem_cons, List.not_mem_nil, or_false] at hy; rcases hy with rfl | rfl | rfl | rfl | rfl | rfl | rfl <;> (simp only []; omega)) (by omega) (hI.out.ne _ (List.mem_cons_self ..))
      have af : After w ((wr.setCell ⟨r, 0, none⟩ (.slice (some ⟨G + 7, 0, none⟩) 1 1)).setCell ⟨r, 1, none⟩ (.slice (some ⟨G + 8, 0, none⟩) 1 1)) := after_set (h := after_set (h := aw) (k := ⟨hrg⟩) _ _) (k := ⟨hrg⟩) _ _
      have f0 := (bf.cell 0).trans rfl
      have f1 := (bf.cell 1).trans rfl
      obtain ⟨WF, hWF⟩ : ∃ W, (wr.setCell ⟨r, 0, none⟩ (.slice (some ⟨G + 7, 0, none⟩) 1 1)).setCell ⟨r, 1, none⟩ (.slice (some ⟨G + 8, 0, none⟩) 1 1) = W := ⟨_, rfl⟩
      rw [hWF] at bf hf af f0 f1
      rw [hWF]
      clear hWF hI aw e0 bp br lp lr r0 r1 rf0 rf1 p0 p1 ef el bf
      have hn : (n : Int) = 8 + m := by omega
      clear hlt h1 h2 hwm
      exact bodyPost_ret (v := .agg #[.slice (some ⟨G + 7, 0, none⟩) 1 1, .slice (some ⟨G + 8, 0, none⟩) 1 1]) (by simp [results, Try.results14, go_sem, f0, f1]) rfl (wide_end_8 hm hn hf af)
end Go.Proofs.Ytdghfhnkacfahaa
set_option linter.unusedVariables false
set_option linter.unusedSimpArgs false
namespace Go.Proofs.Ytdghfhnkacfahaa
open Go.RowKit Go.BigFrame
theorem wide_end_9 {m : Int} (hm : -1 ≤ m ∧ m ≤ 3) {w WF : World} {n c G g : Nat} {A : Option Addr} (hn : (n : Int) = 16 + m) (h : LI [(g, 32, #[.slice (some ⟨G + 7, 0, none⟩) 1 1, .slice (some ⟨G + 8, 0, none⟩) 1 1]), (G + 2, 83, #[.string ⟨#[120]⟩, .int .i64 3, .slice none 0 0]), (G + 3, 9, #[.string ⟨#[120]⟩]), (G + 4, 48, #[.slice (some ⟨G + 3, 0, none⟩) 1 1, .int .i64 1, .int .i64 0, .int .i64 3, .int .i64 0, .string ⟨#[]⟩, .slice none 0 0]), (G + 8, 45, lightC G)] (G + 7) 1 59 (#[.string ⟨#[76, 105, 103, 104, 116]⟩, .slice (some ⟨G + 6, 0, none⟩) 2 2]) w.heap.size 9 1 (tagFl) n A c WF) (a : After w WF) : WideR w m (.returned (.agg #[.slice (some ⟨G + 7, 0, none⟩) 1 1, .slice (some ⟨G + 8, 0, none⟩) 1 1])) WF := by
  have h2 : 2 ≤ n := by omega
  have hr := row_tags h.own h2 (by omega)
  exact ⟨_, _, _, _, [tagU A c n], [lightN G], rfl, row_tagU h.bc hr h2, wide_node (h.kl (G + 2, 83, #[.string ⟨#[120]⟩, .int .i64 3, .slice none 0 0]) (by simp)) (x := lightN G) (h.kl (G + 8, 45, lightC G) (by simp)) rfl rfl rfl (RowOf.nil WF) (RowOf.nil WF) (wide_eqs (h.kl (G + 3, 9, #[.string ⟨#[120]⟩]) (by simp)) (h.kl (G + 4, 48, #[.slice (some ⟨G + 3, 0, none⟩) 1 1, .int .i64 1, .int .i64 0, .int .i64 3, .int .i64 0, .string ⟨#[]⟩, .slice none 0 0]) (by simp))) (RowOf.nil WF) (RowOf.nil WF), (check_tags G h2 A c).trans (limE_m (decide_eq_decide.2 (by omega))), a⟩
set_option maxRecDepth 100000 in
set_option maxHeartbeats 6400000 in
theorem wide_9 (m : Int) (hm : -1 ≤ m ∧ m ≤ 3) (w : World) : Calls Try.prog 14 #[.int .i64 9, .int .i64 m] w fun e w' => WideR w m e w' := by
  obtain ⟨r, hr⟩ : ∃ r, w.heap.size = r := ⟨_, rfl⟩
  have br0 := Blk.new w 32 #[.slice none 0 0, .slice none 0 0]
  rw [hr] at br0
  go_enter Try.func14, Try.ntmps14
  go_wp2_with fail
  try rw [hr]
  refine (light_any _).mono ?_
  rintro e w1 ⟨G, rfl, a1, hG, L1, n1⟩
  rw [size_alloc_, hr] at hG
  have br1 := br0.after (k := a1)
  have aw1 : After w w1 := after_after inferInstance a1
  have u2 := L1.b2.lt
  have u8 := n1.lt
  have ul4 := L1.b4.is_le
  have ul8 := n1.is_le
  have e0 : w1.cell? ⟨G + 8, 4, none⟩ = some (.slice (some ⟨G + 4, 0, none⟩) 1 1) := (n1.cell 4).trans rfl
  have q0 : w1.cell? ⟨G + 4, 0, none⟩ = some (.slice (some ⟨G + 3, 0, none⟩) 1 1) := (L1.b4.cell 0).trans rfl
  have q1 : w1.cell? ⟨G + 4, 1, none⟩ = some (.int .i64 1) := (L1.b4.cell 1).trans rfl
  have q2 : w1.cell? ⟨G + 4, 2, none⟩ = some (.int .i64 0) := (L1.b4.cell 2).trans rfl
  have q3 : w1.cell? ⟨G + 4, 3, none⟩ = some (.int .i64 3) := (L1.b4.cell 3).trans rfl
  have q4 : w1.cell? ⟨G + 4, 4, none⟩ = some (.int .i64 0) := (L1.b4.cell 4).trans rfl
  have q5 : w1.cell? ⟨G + 4, 5, none⟩ = some (.string ⟨#[]⟩) := (L1.b4.cell 5).trans rfl
  have q6 : w1.cell? ⟨G + 4, 6, none⟩ = some (.slice none 0 0) := (L1.b4.cell 6).trans rfl
  go_wp2_with fail
  obtain ⟨g, hg⟩ : ∃ g, w1.heap.size = g := ⟨_, rfl⟩
  try rw [hg]
  obtain ⟨W2, hW2, a2, c1, c2, c3, c4, c5⟩ : ∃ W, (((((w1.alloc (.cells #[.slice (some ⟨G + 7, 0, none⟩) 1 1, .slice (some ⟨G + 8, 0, none⟩) 1 1] 32)).alloc (.cells #[.slice (some ⟨G + 3, 0, none⟩) 1 1, .int .i64 1, .int .i64 0, .int .i64 3, .int .i64 0, .string ⟨#[]⟩, .slice none 0 0] 48)).alloc (.cells #[.int .i64 1, .int .i64 0, .int .i64 1, .int .i64 1, .string ⟨#[]⟩, .slice none 0 0] 25)).alloc (.cells #[.slice (some ⟨G + 3, 0, none⟩) 1 1, .int .i64 1, .int .i64 0, .int .i64 3, .int .i64 0, .string ⟨#[]⟩, .slice none 0 0] 48)).alloc (.cells #[.string ⟨#[65]⟩, .slice none 0 0, .slice (some ⟨g + 3, 0, none⟩) 1 1, .slice none 0 0, .slice none 0 0, .slice none 0 0] 80)) = W ∧ After w1 W ∧ Blk W (g) 32 #[.slice (some ⟨G + 7, 0, none⟩) 1 1, .slice (some ⟨G + 8, 0, none⟩) 1 1] ∧ Blk W (g + 1) 48 #[.slice (some ⟨G + 3, 0, none⟩) 1 1, .int .i64 1, .int .i64 0, .int .i64 3, .int .i64 0, .string ⟨#[]⟩, .slice none 0 0] ∧ Blk W (g + 2) 25 #[.int .i64 1, .int .i64 0, .int .i64 1, .int .i64 1, .string ⟨#[]⟩, .slice none 0 0] ∧ Blk W (g + 3) 48 #[.slice (some ⟨G + 3, 0, none⟩) 1 1, .int .i64 1, .int .i64 0, .int .i64 3, .int .i64 0, .string ⟨#[]⟩, .slice none 0 0] ∧ Blk W (g + 4) 80 #[.string ⟨#[65]⟩, .slice none 0 0, .slice (some ⟨g + 3, 0, none⟩) 1 1, .slice none 0 0, .slice none 0 0, .slice none 0 0] := by
    have d0 := Blk.new w1 32 #[.slice (some ⟨G + 7, 0, none⟩) 1 1, .slice (some ⟨G + 8, 0, none⟩) 1 1]
    obtain ⟨v1, hv1⟩ : ∃ v, w1.alloc (.cells #[.slice (some ⟨G + 7, 0, none⟩) 1 1, .slice (some ⟨G + 8, 0, none⟩) 1 1] 32) = v := ⟨_, rfl⟩
    have s1 : v1.heap.size = g + 1 := by rw [← hv1, size_alloc_, hg]
    have k1 : After w1 v1 := by rw [← hv1]; exact inferInstance
    rw [hv1, hg] at d0
    rw [hv1]
    clear hv1
    have d1 := Blk.new v1 48 #[.slice (some ⟨G + 3, 0, none⟩) 1 1, .int .i64 1, .int .i64 0, .int .i64 3, .int .i64 0, .string ⟨#[]⟩, .slice none 0 0]
    obtain ⟨v2, hv2⟩ : ∃ v, v1.alloc (.cells #[.slice (some ⟨G + 3, 0, none⟩) 1 1, .int .i64 1, .int .i64 0, .int .i64 3, .int .i64 0, .string ⟨#[]⟩, .slice none 0 0] 48) = v := ⟨_, rfl⟩
    have s2 : v2.heap.size = g + 2 := by rw [← hv2, size_alloc_, s1]
    have k2 : After v1 v2 := by rw [← hv2]; exact inferInstance
    rw [hv2, s1] at d1
    rw [hv2]
    clear hv2
    have d2 := Blk.new v2 25 #[.int .i64 1, .int .i64 0, .int .i64 1, .int .i64 1, .string ⟨#[]⟩, .slice none 0 0]
    obtain ⟨v3, hv3⟩ : ∃ v, v2.alloc (.cells #[.int .i64 1, .int .i64 0, .int .i64 1, .int .i64 1, .string ⟨#[]⟩, .slice none 0 0] 25) = v := ⟨_, rfl⟩
    have s3 : v3.heap.size = g + 3 := by rw [← hv3, size_alloc_, s2]
    have k3 : After v2 v3 := by rw [← hv3]; exact inferInstance
    rw [hv3, s2] at d2
    rw [hv3]
    clear hv3
    have d3 := Blk.new v3 48 #[.slice (some ⟨G + 3, 0, none⟩) 1 1, .int .i64 1, .int .i64 0, .int .i64 3, .int .i64 0, .string ⟨#[]⟩, .slice none 0 0]
    obtain ⟨v4, hv4⟩ : ∃ v, v3.alloc (.cells #[.slice (some ⟨G + 3, 0, none⟩) 1 1, .int .i64 1, .int .i64 0, .int .i64 3, .int .i64 0, .string ⟨#[]⟩, .slice none 0 0] 48) = v := ⟨_, rfl⟩
    have s4 : v4.heap.size = g + 4 := by rw [← hv4, size_alloc_, s3]
    have k4 : After v3 v4 := by rw [← hv4]; exact inferInstance
    rw [hv4, s3] at d3
    rw [hv4]
    clear hv4
    have d4 := Blk.new v4 80 #[.string ⟨#[65]⟩, .slice none 0 0, .slice (some ⟨g + 3, 0, none⟩) 1 1, .slice none 0 0, .slice none 0 0, .slice none 0 0]
    obtain ⟨v5, hv5⟩ : ∃ v, v4.alloc (.cells #[.string ⟨#[65]⟩, .slice none 0 0, .slice (some ⟨g + 3, 0, none⟩) 1 1, .slice none 0 0, .slice none 0 0, .slice none 0 0] 80) = v := ⟨_, rfl⟩
    have s5 : v5.heap.size = g + 5 := by rw [← hv5, size_alloc_, s4]
    have k5 : After v4 v5 := by rw [← hv5]; exact inferInstance
    rw [hv5, s4] at d4
    rw [hv5]
    clear hv5
    exact ⟨v5, rfl, after_after k1 (after_after k2 (after_after k3 (after_after k4 (after_after k5 (after_refl v5))))), d0.after (k := after_after k2 (after_after k3 (after_after k4 (after_after k5 (after_refl v5))))), d1.after (k := after_after k3 (after_after k4 (after_after k5 (after_refl v5)))), d2.after (k := after_after k4 (after_after k5 (after_refl v5))), d3.after (k := after_after k5 (after_refl v5)), d4.after (k := after_refl v5)⟩
  have hW2' : (((((w1.alloc (.cells #[.slice (some ⟨G + 7, 0, none⟩) 1 1, .slice (some ⟨G + 8, 0, none⟩) 1 1] 32)).alloc (.cells #[.slice (some ⟨G + 3, 0, none⟩) 1 1, .int .i64 1, .int .i64 0, .int .i64 3, .int .i64 0, .string ⟨#[]⟩, .slice none 0 0] 48)).alloc (.cells #[.int .i64 1, .int .i64 0, .int .i64 1, .int .i64 1, .string ⟨#[]⟩, .slice none 0 0] 25)).alloc (.cells #[.slice (some ⟨G + 3, 0, none⟩) 1 1, .int .i64 1, .int .i64 0, .int .i64 3, .int .i64 0, .string ⟨#[]⟩, .slice none 0 0] 48)).alloc (.cells #[.string ⟨#[65]⟩, .slice none 0 0, .slice (some ⟨g + 1 + 1 + 1, 0, none⟩) 1 1, .slice none 0 0, .slice none 0 0, .slice none 0 0] 80)) = W2 := hW2
  try rw [hW2']
  try rw [hW2]
  try rw [show g + 1 + 1 = g + 2 from rfl, show g + 2 + 1 = g + 3 from rfl, show g + 3 + 1 = g + 4 from rfl]
  clear hW2 hW2'
  have L2 := L1.here W2
  have n2 := n1.after (w' := W2)
  have br2 := br1.after (w' := W2)
  have aw2 : After w W2 := after_after aw1 a2
  have u8g : G + 8 < g := by rw [← hg]; exact u8
  have hrg : w.heap.size ≤ r := Nat.le_of_eq hr
  clear q0 q1 q2 q3 q4 q5 q6 e0 ul4 ul8 a1 a2 L1 n1 br0 br1 u2 u8 hg hr aw1
  have hwm : IntKind.i64.wrap (16 + m) = 16 + m := by rw [IntKind.wrap_i64]; omega
  have HL : Hid (LI [(r, 32, #[.slice none 0 0, .slice none 0 0]), (g, 32, #[.slice (some ⟨G + 7, 0, none⟩) 1 1, .slice (some ⟨G + 8, 0, none⟩) 1 1]), (G + 2, 83, #[.string ⟨#[120]⟩, .int .i64 3, .slice none 0 0]), (G + 3, 9, #[.string ⟨#[120]⟩]), (G + 4, 48, #[.slice (some ⟨G + 3, 0, none⟩) 1 1, .int .i64 1, .int .i64 0, .int .i64 3, .int .i64 0, .string ⟨#[]⟩, .slice none 0 0]), (G + 8, 45, lightC G)] (G + 7) 1 59 (#[.string ⟨#[76, 105, 103, 104, 116]⟩, .slice (some ⟨G + 6, 0, none⟩) 2 2]) w.heap.size 9 1 (tagFl) 2 (some ⟨G + 6, 0, none⟩) 2 W2) := by
    refine ⟨fun x hx => ?_, ?_, own_of_blk L2.b6 (by omega) rfl (by decide), fun x hx => ?_, ?_, fun x hx => ?_, ?_, ?_⟩
    · simp only [List.mem_cons, List.not_mem_nil, or_false] at hx
      rcases hx with rfl | rfl | rfl | rfl | rfl | rfl
      · exact br2
      · exact c1
      · exact L2.b2
      · exact L2.b3
      · exact L2.b4
      · exact n2
    · exact L2.b7
    · simp only [List.mem_cons, List.not_mem_nil, or_false] at hx
      rcases hx with rfl | rfl | rfl | rfl | rfl | rfl <;> (simp [Value.ownBlock] <;> omega)
    · simp [Value.ownBlock] <;> omega
    · simp only [List.mem_cons, List.not_mem_nil, or_false] at hx
      rcases hx with rfl | rfl | rfl | rfl | rfl | rfl <;> (simp only []; omega)
    · exact After.size w W2
    · exact (by decide : 1 < 2)
  clear c1 c2 c3 c4 c5 L2 n2 br2
  go_loopw [] (fun wr => ∃ (n : Nat) (A : Option Addr) (c : Nat), 2 ≤ n ∧ ((n : Int) ≤ 16 + m) ∧ Hid (LI [(r, 32, #[.slice none 0 0, .slice none 0 0]), (g, 32, #[.slice (some ⟨G + 7, 0, none⟩) 1 1, .slice (some ⟨G + 8, 0, none⟩) 1 1]), (G + 2, 83, #[.string ⟨#[120]⟩, .int .i64 3, .slice none 0 0]), (G + 3, 9, #[.string ⟨#[120]⟩]), (G + 4, 48, #[.slice (some ⟨G + 3, 0, none⟩) 1 1, .int .i64 1, .int .i64 0, .int .i64 3, .int .i64 0, .string ⟨#[]⟩, .slice none 0 0]), (G + 8, 45, lightC G)] (G + 7) 1 59 (#[.string ⟨#[76, 105, 103, 104, 116]⟩, .slice (some ⟨G + 6, 0, none⟩) 2 2]) w.heap.size 9 1 (tagFl) n A c wr) ∧ After w wr) (fun wr => 400 - lenAt wr (G + 7) 1)
  case atStart => exact ⟨2, (some ⟨G + 6, 0, none⟩), 2, by omega, by omega, HL, aw2⟩
  case round =>
    clear HL
    obtain ⟨n, A, c, h1, h2, hI, aw⟩ := hrel
    have e0 : wr.cell? ⟨G + 7, 1, none⟩ = some (.slice A n c) := hI.out.cell
    have kp : ∀ x ∈ [(r, 32, #[.slice none 0 0, .slice none 0 0]), (g, 32, #[.slice (some ⟨G + 7, 0, none⟩) 1 1, .slice (some ⟨G + 8, 0, none⟩) 1 1]), (G + 2, 83, #[.string ⟨#[120]⟩, .int .i64 3, .slice none 0 0]), (G + 3, 9, #[.string ⟨#[120]⟩]), (G + 4, 48, #[.slice (some ⟨G + 3, 0, none⟩) 1 1, .int .i64 1, .int .i64 0, .int .i64 3, .int .i64 0, .string ⟨#[]⟩, .slice none 0 0]), (G + 8, 45, lightC G)], Blk wr x.1 x.2.1 x.2.2 := hI.out.kl
    have bp := kp (g, 32, #[.slice (some ⟨G + 7, 0, none⟩) 1 1, .slice (some ⟨G + 8, 0, none⟩) 1 1]) (by simp)
    have br := kp (r, 32, #[.slice none 0 0, .slice none 0 0]) (by simp)
    have lp := bp.is_le
    have lr := br.is_le
    have r0 := (br.cell 0).trans rfl
    have r1 := (br.cell 1).trans rfl
    have rf0 := br.frozen 0
    have rf1 := br.frozen 1
    have p0 := (bp.cell 0).trans rfl
    have p1 := (bp.cell 1).trans rfl
    clear kp
    have ef := hI.out.frozen
    have el := hI.out.le
    by_cases hlt : (n : Int) < 16 + m
    · go_wp2_with fail
      go_region_law (obtain ⟨i0, hi0, hz0, hz1, hz2⟩ := info_parts strInfo; refine step_append_any (wr.drew.alloc (.cells #[.string ⟨#[82, 101, 100]⟩] 9)) rfl (.tmp 41) (.tmp 42) 46 rfl w.heap.size 9 i0 _ 1 _ Try.underlying46 hi0 hz0 hz1 hz2 rfl (by decide) _ n _ rfl (own_after hI.out.own (w' := (wr.drew.alloc (.cells #[.string ⟨#[82, 101, 100]⟩] 9))) inferInstance) _ _ 1 1 [.string ⟨#[82, 101, 100]⟩] rfl (cells_flat (w := wr.drew) rfl #[.string ⟨#[82, 101, 100]⟩] 9 _ rfl 1 1 rfl) (by intro u hu; simp only [List.mem_cons, List.not_mem_nil, or_false] at hu; rcases hu with rfl <;> rfl) (by unfold maxLen; omega) (by omega) (Nat.le_trans hI.out.hB (After.size wr (wr.drew.alloc (.cells #[.string ⟨#[82, 101, 100]⟩] 9)))) ?_; intro r4 W4 own4 hg4 hnx4; obtain ⟨A4, c4, hA4, e4, ef4, el4, aw4, hI5⟩ := (hI.out.here (wr.drew.alloc (.cells #[.string ⟨#[82, 101, 100]⟩] 9))).push (w0 := w) (after_after aw inferInstance) (Nat.le_refl _) (tagFl_succ h1) own4 hg4 hnx4; subst hA4; have kp4 := (hI.out.here (wr.drew.alloc (.cells #[.string ⟨#[82, 101, 100]⟩] 9))).kl.grown hg4 (hI.out.here (wr.drew.alloc (.cells #[.string ⟨#[82, 101, 100]⟩] 9))).ne; have bp4 := kp4 (g, 32, #[.slice (some ⟨G + 7, 0, none⟩) 1 1, .slice (some ⟨G + 8, 0, none⟩) 1 1]) (by simp); have p40 := (bp4.cell 0).trans rfl; have lp4 := bp4.is_le; clear kp4 bp4; clear own4 hg4 hnx4 hi0 hz0 hz1 hz2)
      all_goals (try go_wp2_with fail)
      all_goals first | exact ⟨⟨n + 1, A4, c4, by omega, by omega, hI5, after_set (k := ⟨by omega⟩) _ _⟩, by (rw [lenAt_of hI5.out.cell, lenAt_of e0]; omega)⟩ | (go_roundw; exact ⟨n + 1, A4, c4, by omega, by omega, hI5, after_set (k := ⟨by omega⟩) _ _⟩; (rw [lenAt_of hI5.out.cell, lenAt_of e0]; omega))
    · go_wp2_with fail
      have bf := (br.set_ 0 (.slice (some ⟨G + 7, 0, none⟩) 1 1)).set_ 1 (.slice (some ⟨G + 8, 0, none⟩) 1 1)
      have hf := (hI.out.drop.set (g := r) (i := 0) (u := .slice (some ⟨G + 7, 0, none⟩) 1 1) (fun y hy => by simp only [List.mem_cons, List.not_mem_nil, or_false] at hy; rcases hy with rfl | rfl | rfl | rfl | rfl <;> (simp only []; omega)) (by omega) (hI.out.ne _ (List.mem_cons_self ..))).set (g := r) (i := 1) (u := .slice (some ⟨G + 8, 0, none⟩) 1 1) (fun y hy => by simp only [List.mem_cons, List.not_mem_nil, or_false] at hy; rcases hy with rfl | rfl | rfl | rfl | rfl <;> (simp only []; omega)) (by omega) (hI.out.ne _ (List.mem_cons_self ..))
      have af : After w ((wr.setCell ⟨r, 0, none⟩ (.slice (some ⟨G + 7, 0, none⟩) 1 1)).setCell ⟨r, 1, none⟩ (.slice (some ⟨G + 8, 0, none⟩) 1 1)) := after_set (h := after_set (h := aw) (k := ⟨hrg⟩) _ _) (k := ⟨hrg⟩) _ _
      have f0 := (bf.cell 0).trans rfl
      have f1 := (bf.cell 1).trans rfl
      obtain ⟨WF, hWF⟩ : ∃ W, (wr.setCell ⟨r, 0, none⟩ (.slice (some ⟨G + 7, 0, none⟩) 1 1)).setCell ⟨r, 1, none⟩ (.slice (some ⟨G + 8, 0, none⟩) 1 1) = W := ⟨_, rfl⟩
      rw [hWF] at bf hf af f0 f1
      rw [hWF]
      clear hWF hI aw e0 bp br lp lr r0 r1 rf0 rf1 p0 p1 ef el bf
      have hn : (n : Int) = 16 + m := by omega
      clear hlt h1 h2 hwm
      exact bodyPost_ret (v := .agg #[.slice (some ⟨G + 7, 0, none⟩) 1 1, .slice (some ⟨G + 8, 0, none⟩) 1 1]) (by simp [results, Try.results14, go_sem, f0, f1]) rfl (wide_end_9 hm hn hf af)
end Go.Proofs.Ytdghfhnkacfahaa
set_option linter.unusedVariables false
namespace Go.Proofs.Ytdghfhnkacfahaa
open Go.RowKit Go.BigFrame
theorem wide_any (i m : Int) (hi : 0 ≤ i ∧ i < 10) (hm : -1 ≤ m ∧ m ≤ 3) (w : World) : Calls Try.prog 14 #[.int .i64 i, .int .i64 m] w fun e w' => WideR w m e w' := by
  rcases (by omega : i = 0 ∨ i = 1 ∨ i = 2 ∨ i = 3 ∨ i = 4 ∨ i = 5 ∨ i = 6 ∨ i = 7 ∨ i = 8 ∨ i = 9) with rfl | rfl | rfl | rfl | rfl | rfl | rfl | rfl | rfl | rfl
  · exact wide_0 m hm w
  · exact wide_1 m hm w
  · exact wide_2 m hm w
  · exact wide_3 m hm w
  · exact wide_4 m hm w
  · exact wide_5 m hm w
  · exact wide_6 m hm w
  · exact wide_7 m hm w
  · exact wide_8 m hm w
  · exact wide_9 m hm w
end Go.Proofs.Ytdghfhnkacfahaa
namespace Go.Proofs.Ytdghfhnkacfahaa.shapeLimits
open Go.ChangeShapes Go.WideShapes Go.ChangeAt Go.RowKit Go.BigFrame
set_option linter.unusedVariables false
set_option linter.unusedSimpArgs false

theorem own : ownKnob Try.prog.godebug = none := by kernel_rfl
theorem laidOut : laidOutB Try.prog = true := by kernel_rfl

set_option maxRecDepth 100000 in
set_option maxHeartbeats 3200000 in
theorem walk (w : World) (k : Int) (wk : (Lit.int .u8 k).wf = true) (m : Int) (wm : (Lit.int .i64 m).wf = true) :
    Calls Try.prog 6 #[.int .u8 k, .int .i64 m] w fun e w' => e = .returned (.bool true) ∧ ∃ y, w' = w.more y := by
  have hk := u8_bd wk
  have G3 : Gives w 10 #[] (.bool true) := fun U hU => (awake_any U).mono fun e w' h => ⟨h.1, @After.is_more _ _ h.2⟩
  go_enter Try.func6, Try.ntmps6
  by_cases h1 : m < -1
  · go_wp2_with fail
    refine (Gives.on G3 _ inferInstance).mono ?_
    rintro e w2 ⟨rfl, hy⟩
    have a2 : After w w2 := after_of_more hy inferInstance
    go_wp2_with fail
    go_ret
    exact ⟨rfl, After.is_more _ _⟩
  by_cases h2 : 3 < m
  · go_wp2_with fail
    refine (Gives.on G3 _ inferInstance).mono ?_
    rintro e w2 ⟨rfl, hy⟩
    have a2 : After w w2 := after_of_more hy inferInstance
    go_wp2_with fail
    go_ret
    exact ⟨rfl, After.is_more _ _⟩
  obtain ⟨i, hi⟩ : ∃ i : Int, k.tmod 10 = i := ⟨_, rfl⟩
  have hi0 : 0 ≤ i ∧ i < 10 := by
    have h0 := Int.tmod_nonneg 10 hk.1
    have h9 := Int.tmod_lt_of_pos k (show (0 : Int) < 10 by decide)
    omega
  have hkw : IntKind.i64.wrap k = k := by rw [IntKind.wrap_i64]; omega
  have hiw : IntKind.i64.wrap i = i := by rw [IntKind.wrap_i64]; omega
  have HW : Hid (∀ U, Calls Try.prog 14 #[.int .i64 i, .int .i64 m] U fun e w' => WideR U m e w') := fun U => wide_any i m hi0 ⟨by omega, by omega⟩ U
  go_wp2_with fail
  refine (HW.out _).mono ?_
  rintro e w1 ⟨eA, nA, ec, nc, el, nl, rfl, R1, R2, hv, a1⟩
  have HC : Hid (∀ U, After w1 U → Calls Try.prog 13 #[.agg #[.slice eA el.length ec, .slice nA nl.length nc]] U fun e w' => ∃ p q, e = .returned (.tuple #[.agg #[.int .i64 p, .int .i64 q], .int .i64 (if m ≤ 0 then 0 else 3)]) ∧ After U w') := fun U hU => (pcheck_any R1 R2 U hU).mono fun e w' h => ⟨_, _, hv ▸ h.1, h.2⟩
  clear R1 R2 hv
  have aw1 : After w w1 := after_after inferInstance a1
  go_wp2_with fail
  refine (HC.out _ inferInstance).mono ?_
  rintro e w2 ⟨p, q, rfl, a2⟩
  have aw2 : After w w2 := after_after aw1 a2
  by_cases h0 : m ≤ 0
  · rw [if_pos h0]
    go_wp2_with fail
    refine (Gives.on G3 _ inferInstance).mono ?_
    rintro e w3 ⟨rfl, hy⟩
    have a3 : After w w3 := after_of_more hy inferInstance
    go_wp2_with fail
    go_ret
    exact ⟨rfl, After.is_more _ _⟩
  · rw [if_neg h0]
    have h0d : decide (m ≤ 0) = false := decide_eq_false h0
    go_wp2_with fail
    refine (Gives.on G3 _ inferInstance).mono ?_
    rintro e w3 ⟨rfl, hy⟩
    have a3 : After w w3 := after_of_more hy inferInstance
    go_wp2_with fail
    go_ret
    exact ⟨rfl, After.is_more _ _⟩

set_option maxRecDepth 100000 in
theorem lifted (os : Os) (started : os.Started) (H : Type) (enc : TypeId × Value → H) :
    ReturnsInHanded {} Try.checked os 6 .any (Rows.shapeLimitsSpec.pre6 enc Try.prog Try.f6 Rows.shapeLimitsRow.domain false) (Rows.shapeLimitsSpec.post enc Try.prog Try.f6 false true false false) := by
  refine returnsInHanded_of_change_sized (C := Try.checked) own started (by kernel_rfl) Try.func6
    (ChangeSpec.witness6 (enc := enc) (C := Try.checked) false ⟨#[], #[.int .u8 0, .int .i64 0], []⟩ 8 (by kernel_rfl) (by kernel_rfl) (by kernel_rfl) (by kernel_rfl)) ?_
  intro W base args ds gs before hval0 hW hcnd hsz0 _
  have hval : ∀ (j : Nat) t v, Try.f6.params[j]? = some t → args[j]? = some v → Value.okWide Try.prog W .any base t v := hval0
  have hsz : (DataW.weightsEach Try.prog (Try.f6.params.toList ++ Rows.shapeLimitsSpec.plain.varTypes Try.prog) (ds ++ gs)).all (· ≤ reachBytes) = true := hsz0
  have hW' := hW
  obtain ⟨p, q, hA0, hV, rfl, hfz, hnd⟩ := hW
  have hA : DataW.TrodAll enc Try.prog W 0 (fun _ => true) true Try.f6.params.toList args.toList ds p := hA0
  rw [Try.params6] at hA hval hsz
  obtain ⟨v0, vs0, d0, ds0, p0, q0, hargs, rfl, rfl, h0, r0⟩ := trodAll_cons hA
  obtain ⟨v1, vs1, d1, ds1, p1, q1, rfl, rfl, rfl, h1, r1⟩ := trodAll_cons r0
  obtain ⟨rfl, rfl, rfl⟩ := trodAll_nil r1
  obtain rfl : args = #[v0, v1] := by cases args; simp_all
  obtain ⟨rfl, rfl⟩ := trodVars_none hV
  obtain ⟨a0, rfl, rfl, rfl, w0⟩ := open_int Try.underlying5 (hval 0 5 v0 rfl rfl) h0
  obtain ⟨a1, rfl, rfl, rfl, w1⟩ := open_int Try.underlying3 (hval 1 3 v1 rfl rfl) h1
  clear hA0 hval0 hsz0 hsz
  refine (walk W a0 w0 a1 w1).mono fun e W' ⟨he, y, hy⟩ => ?_
  subst he
  have bel : Below W.heap.size W W' := by rw [hy]; exact more_below W y
  exact ⟨_, rfl, _, _, _, [], _, [], hW', trodAll_mk1 (shut_bool Try.underlying4 _), (trodAll_cons_mk (shut_int Try.underlying5 w0) (trodAll_cons_mk (shut_int Try.underlying3 w1) trodAll_mk0)), rfl, bel.frame _, fun h => by cases h⟩

theorem over : Rows.shapeLimitsRow.holds Try.pinned (OpenSpec.ofChange Rows.shapeLimitsSpec) :=
  OpenClaim.holds_of_wide 6 Try.f6 rfl rfl rfl rfl rfl rfl rfl ⟨rfl, rfl, rfl, rfl, rfl⟩ rfl rfl rfl rfl rfl (by kernel_rfl) Try.func6 (by kernel_rfl)
    (of_decide_eq_true (by kernel_rfl)) (by unfold Func.isWrapper; first | (rw [if_pos (by decide +kernel)]; kernel_rfl) | (rw [if_neg (by decide +kernel)]; exact ⟨rfl, rfl⟩))
    (fun os started H enc _ => lifted os started H enc)

theorem proved : Rows.ShapeLimitsSaid := over
#print axioms proved
end Go.Proofs.Ytdghfhnkacfahaa.shapeLimits
