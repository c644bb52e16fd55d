/-
  Contract: the law's light, the program of the page's example; rows of the call's own as rows of structs (printed by gen_slight.py).
-/
/-
  Plain facts on the page's examples: what Check, Find, Plain, Same answer at them.
-/
/-
  Contract: the law's awake (printed by gen_saw.py).
-/
import Derived.Test.YtdghfhnkacfahaaGreatSPg
import Derived.Test.YtdghfhnkacfahaaGreatSMust
import Derived.Test.YtdghfhnkacfahaaGreatSCk
import Derived.Test.YtdghfhnkacfahaaGreatSFi
import Derived.Test.YtdghfhnkacfahaaGreatSQc
set_option linter.unusedVariables false
set_option linter.unusedSimpArgs false
namespace Go.Proofs.YtdghfhnkacfahaaGreat
open Go.RowKit Go.BigFrame

/-- the blocks of light's program, that lie from G on -/
structure Light (U : World) (G : Nat) : Prop where
  b2 : Blk U (G + 2) 80 #[.string ⟨#[120]⟩, .int .i64 3, .slice none 0 0]
  b3 : Blk U (G + 3) 9 #[.string ⟨#[120]⟩]
  b4 : Blk U (G + 4) 60 #[.slice (some ⟨G + 3, 0, none⟩) 1 1, .int .i64 1, .int .i64 0, .int .i64 3, .int .i64 0, .string ⟨#[]⟩, .slice none 0 0]
  b6 : Blk U (G + 6) 9 #[.string ⟨#[82, 101, 100]⟩, .string ⟨#[71, 114, 101, 101, 110]⟩]
  b7 : Blk U (G + 7) 45 #[.string ⟨#[76, 105, 103, 104, 116]⟩, .slice (some ⟨G + 6, 0, none⟩) 2 2]
theorem Light.here {w : World} {G : Nat} (h : Light w G) (U : World) [k : After w U] : Light U G := ⟨h.b2.after, h.b3.after, h.b4.after, h.b6.after, h.b7.after⟩
/-- the cells of light's node -/
def lightC (G : Nat) : Array Value := #[.string ⟨#[102]⟩, .slice none 0 0, .slice (some ⟨G + 2, 0, none⟩) 1 1, .slice none 0 0, .slice (some ⟨G + 4, 0, none⟩) 1 1, .slice none 0 0, .slice none 0 0, .slice none 0 0]
set_option maxRecDepth 100000 in
set_option maxHeartbeats 1600000 in
theorem light_0 (w : World) : Calls Tryz.prog 23 #[] w fun e w' => e = .returned (.agg #[.slice (some ⟨w.heap.size + 7, 0, none⟩) 1 1, .slice (some ⟨w.heap.size + 8, 0, none⟩) 1 1]) ∧ After w w' ∧ Light w' w.heap.size ∧ Blk w' (w.heap.size + 8) 52 (lightC w.heap.size) := by
  obtain ⟨G, hG⟩ : ∃ G, w.heap.size = G := ⟨_, rfl⟩
  obtain ⟨u9, hu9, aw, HL, b8_, c0, c1⟩ : ∃ W, (((((((((w.alloc (.cells #[.slice (some ⟨G + 7, 0, none⟩) 1 1, .slice (some ⟨G + 8, 0, none⟩) 1 1] 25)).alloc (.cells #[.int .i64 1, .int .i64 0, .int .i64 3, .int .i64 0, .string ⟨#[]⟩, .slice none 0 0] 58)).alloc (.cells #[.string ⟨#[120]⟩, .int .i64 3, .slice none 0 0] 80)).alloc (.cells #[.string ⟨#[120]⟩] 9)).alloc (.cells #[.slice (some ⟨G + 3, 0, none⟩) 1 1, .int .i64 1, .int .i64 0, .int .i64 3, .int .i64 0, .string ⟨#[]⟩, .slice none 0 0] 60)).alloc (.cells #[.string ⟨#[102]⟩, .slice none 0 0, .slice (some ⟨G + 2, 0, none⟩) 1 1, .slice none 0 0, .slice (some ⟨G + 4, 0, none⟩) 1 1, .slice none 0 0, .slice none 0 0, .slice none 0 0] 52)).alloc (.cells #[.string ⟨#[82, 101, 100]⟩, .string ⟨#[71, 114, 101, 101, 110]⟩] 9)).alloc (.cells #[.string ⟨#[76, 105, 103, 104, 116]⟩, .slice (some ⟨G + 6, 0, none⟩) 2 2] 45)).alloc (.cells #[.string ⟨#[102]⟩, .slice none 0 0, .slice (some ⟨G + 2, 0, none⟩) 1 1, .slice none 0 0, .slice (some ⟨G + 4, 0, none⟩) 1 1, .slice none 0 0, .slice none 0 0, .slice none 0 0] 52)) = W ∧ After w W ∧ Light W G ∧ Blk W (G + 8) 52 (lightC G) ∧ W.cell? ⟨G, 0, none⟩ = some (.slice (some ⟨G + 7, 0, none⟩) 1 1) ∧ W.cell? ⟨G, 1, none⟩ = some (.slice (some ⟨G + 8, 0, none⟩) 1 1) := by
    have b0 := Blk.new w 25 #[.slice (some ⟨G + 7, 0, none⟩) 1 1, .slice (some ⟨G + 8, 0, none⟩) 1 1]
    obtain ⟨u1, hu1⟩ : ∃ v, w.alloc (.cells #[.slice (some ⟨G + 7, 0, none⟩) 1 1, .slice (some ⟨G + 8, 0, none⟩) 1 1] 25) = v := ⟨_, rfl⟩
    have s1 : u1.heap.size = G + 1 := by rw [← hu1, size_alloc_, hG]
    have a1 : After w u1 := by rw [← hu1]; exact inferInstance
    rw [hu1, hG] at b0
    rw [hu1]
    clear hu1
    have b1 := Blk.new u1 58 #[.int .i64 1, .int .i64 0, .int .i64 3, .int .i64 0, .string ⟨#[]⟩, .slice none 0 0]
    obtain ⟨u2, hu2⟩ : ∃ v, u1.alloc (.cells #[.int .i64 1, .int .i64 0, .int .i64 3, .int .i64 0, .string ⟨#[]⟩, .slice none 0 0] 58) = v := ⟨_, rfl⟩
    have s2 : u2.heap.size = G + 2 := by rw [← hu2, size_alloc_, s1]
    have a2 : After u1 u2 := by rw [← hu2]; exact inferInstance
    rw [hu2, s1] at b1
    rw [hu2]
    clear hu2
    have b2 := Blk.new u2 80 #[.string ⟨#[120]⟩, .int .i64 3, .slice none 0 0]
    obtain ⟨u3, hu3⟩ : ∃ v, u2.alloc (.cells #[.string ⟨#[120]⟩, .int .i64 3, .slice none 0 0] 80) = v := ⟨_, rfl⟩
    have s3 : u3.heap.size = G + 3 := by rw [← hu3, size_alloc_, s2]
    have a3 : After u2 u3 := by rw [← hu3]; exact inferInstance
    rw [hu3, s2] at b2
    rw [hu3]
    clear hu3
    have b3 := Blk.new u3 9 #[.string ⟨#[120]⟩]
    obtain ⟨u4, hu4⟩ : ∃ v, u3.alloc (.cells #[.string ⟨#[120]⟩] 9) = v := ⟨_, rfl⟩
    have s4 : u4.heap.size = G + 4 := by rw [← hu4, size_alloc_, s3]
    have a4 : After u3 u4 := by rw [← hu4]; exact inferInstance
    rw [hu4, s3] at b3
    rw [hu4]
    clear hu4
    have b4 := Blk.new u4 60 #[.slice (some ⟨G + 3, 0, none⟩) 1 1, .int .i64 1, .int .i64 0, .int .i64 3, .int .i64 0, .string ⟨#[]⟩, .slice none 0 0]
    obtain ⟨u5, hu5⟩ : ∃ v, u4.alloc (.cells #[.slice (some ⟨G + 3, 0, none⟩) 1 1, .int .i64 1, .int .i64 0, .int .i64 3, .int .i64 0, .string ⟨#[]⟩, .slice none 0 0] 60) = v := ⟨_, rfl⟩
    have s5 : u5.heap.size = G + 5 := by rw [← hu5, size_alloc_, s4]
    have a5 : After u4 u5 := by rw [← hu5]; exact inferInstance
    rw [hu5, s4] at b4
    rw [hu5]
    clear hu5
    have b5 := Blk.new u5 52 #[.string ⟨#[102]⟩, .slice none 0 0, .slice (some ⟨G + 2, 0, none⟩) 1 1, .slice none 0 0, .slice (some ⟨G + 4, 0, none⟩) 1 1, .slice none 0 0, .slice none 0 0, .slice none 0 0]
    obtain ⟨u6, hu6⟩ : ∃ v, u5.alloc (.cells #[.string ⟨#[102]⟩, .slice none 0 0, .slice (some ⟨G + 2, 0, none⟩) 1 1, .slice none 0 0, .slice (some ⟨G + 4, 0, none⟩) 1 1, .slice none 0 0, .slice none 0 0, .slice none 0 0] 52) = v := ⟨_, rfl⟩
    have s6 : u6.heap.size = G + 6 := by rw [← hu6, size_alloc_, s5]
    have a6 : After u5 u6 := by rw [← hu6]; exact inferInstance
    rw [hu6, s5] at b5
    rw [hu6]
    clear hu6
    have b6 := Blk.new u6 9 #[.string ⟨#[82, 101, 100]⟩, .string ⟨#[71, 114, 101, 101, 110]⟩]
    obtain ⟨u7, hu7⟩ : ∃ v, u6.alloc (.cells #[.string ⟨#[82, 101, 100]⟩, .string ⟨#[71, 114, 101, 101, 110]⟩] 9) = v := ⟨_, rfl⟩
    have s7 : u7.heap.size = G + 7 := by rw [← hu7, size_alloc_, s6]
    have a7 : After u6 u7 := by rw [← hu7]; exact inferInstance
    rw [hu7, s6] at b6
    rw [hu7]
    clear hu7
    have b7 := Blk.new u7 45 #[.string ⟨#[76, 105, 103, 104, 116]⟩, .slice (some ⟨G + 6, 0, none⟩) 2 2]
    obtain ⟨u8, hu8⟩ : ∃ v, u7.alloc (.cells #[.string ⟨#[76, 105, 103, 104, 116]⟩, .slice (some ⟨G + 6, 0, none⟩) 2 2] 45) = v := ⟨_, rfl⟩
    have s8 : u8.heap.size = G + 8 := by rw [← hu8, size_alloc_, s7]
    have a8 : After u7 u8 := by rw [← hu8]; exact inferInstance
    rw [hu8, s7] at b7
    rw [hu8]
    clear hu8
    have b8 := Blk.new u8 52 #[.string ⟨#[102]⟩, .slice none 0 0, .slice (some ⟨G + 2, 0, none⟩) 1 1, .slice none 0 0, .slice (some ⟨G + 4, 0, none⟩) 1 1, .slice none 0 0, .slice none 0 0, .slice none 0 0]
    obtain ⟨u9, hu9⟩ : ∃ v, u8.alloc (.cells #[.string ⟨#[102]⟩, .slice none 0 0, .slice (some ⟨G + 2, 0, none⟩) 1 1, .slice none 0 0, .slice (some ⟨G + 4, 0, none⟩) 1 1, .slice none 0 0, .slice none 0 0, .slice none 0 0] 52) = v := ⟨_, rfl⟩
    have s9 : u9.heap.size = G + 9 := by rw [← hu9, size_alloc_, s8]
    have a9 : After u8 u9 := by rw [← hu9]; exact inferInstance
    rw [hu9, s8] at b8
    rw [hu9]
    clear hu9
    have b0' := b0.after (k := after_after a2 (after_after a3 (after_after a4 (after_after a5 (after_after a6 (after_after a7 (after_after a8 (after_after a9 (after_refl u9)))))))))
    exact ⟨u9, rfl, after_after a1 (after_after a2 (after_after a3 (after_after a4 (after_after a5 (after_after a6 (after_after a7 (after_after a8 (after_after a9 (after_refl u9))))))))), ⟨b2.after (k := after_after a4 (after_after a5 (after_after a6 (after_after a7 (after_after a8 (after_after a9 (after_refl u9))))))), b3.after (k := after_after a5 (after_after a6 (after_after a7 (after_after a8 (after_after a9 (after_refl u9)))))), b4.after (k := after_after a6 (after_after a7 (after_after a8 (after_after a9 (after_refl u9))))), b6.after (k := after_after a8 (after_after a9 (after_refl u9))), b7.after (k := after_after a9 (after_refl u9))⟩, b8.after (k := after_refl u9), (b0'.cell 0).trans rfl, (b0'.cell 1).trans rfl⟩
  have hu9' : (((((((((w.alloc (.cells #[.slice (some ⟨G + 1 + 1 + 1 + 1 + 1 + 1 + 1, 0, none⟩) 1 1, .slice (some ⟨G + 1 + 1 + 1 + 1 + 1 + 1 + 1 + 1, 0, none⟩) 1 1] 25)).alloc (.cells #[.int .i64 1, .int .i64 0, .int .i64 3, .int .i64 0, .string ⟨#[]⟩, .slice none 0 0] 58)).alloc (.cells #[.string ⟨#[120]⟩, .int .i64 3, .slice none 0 0] 80)).alloc (.cells #[.string ⟨#[120]⟩] 9)).alloc (.cells #[.slice (some ⟨G + 1 + 1 + 1, 0, none⟩) 1 1, .int .i64 1, .int .i64 0, .int .i64 3, .int .i64 0, .string ⟨#[]⟩, .slice none 0 0] 60)).alloc (.cells #[.string ⟨#[102]⟩, .slice none 0 0, .slice (some ⟨G + 1 + 1, 0, none⟩) 1 1, .slice none 0 0, .slice (some ⟨G + 1 + 1 + 1 + 1, 0, none⟩) 1 1, .slice none 0 0, .slice none 0 0, .slice none 0 0] 52)).alloc (.cells #[.string ⟨#[82, 101, 100]⟩, .string ⟨#[71, 114, 101, 101, 110]⟩] 9)).alloc (.cells #[.string ⟨#[76, 105, 103, 104, 116]⟩, .slice (some ⟨G + 1 + 1 + 1 + 1 + 1 + 1, 0, none⟩) 2 2] 45)).alloc (.cells #[.string ⟨#[102]⟩, .slice none 0 0, .slice (some ⟨G + 1 + 1, 0, none⟩) 1 1, .slice none 0 0, .slice (some ⟨G + 1 + 1 + 1 + 1, 0, none⟩) 1 1, .slice none 0 0, .slice none 0 0, .slice none 0 0] 52)) = u9 := hu9
  go_enter Tryz.func23, Tryz.ntmps23
  go_wp2_with fail
  try rw [hG]
  try rw [hu9']
  exact bodyPost_ret (v := .agg #[.slice (some ⟨G + 7, 0, none⟩) 1 1, .slice (some ⟨G + 8, 0, none⟩) 1 1]) (by simp [results, Tryz.results23, go_sem, c0, c1]) rfl ⟨rfl, aw, HL, b8_⟩

theorem light_any (w : World) : Calls Tryz.prog 23 #[] w fun e w' => ∃ G, e = .returned (.agg #[.slice (some ⟨G + 7, 0, none⟩) 1 1, .slice (some ⟨G + 8, 0, none⟩) 1 1]) ∧ After w w' ∧ w.heap.size ≤ G ∧ Light w' G ∧ Blk w' (G + 8) 52 (lightC G) :=
  (light_0 w).mono fun e w' h => ⟨w.heap.size, h.1, h.2.1, Nat.le_refl _, h.2.2⟩

/-! ### rows of the call's own -/
theorem own_of_blk {U : World} {b base : Nat} {T : TypeId} {cs : Array Value} {n sz : Nat} (h : Blk U b T cs) (hb : base ≤ b) (hs : cs.size = n * sz) (hn : n ≤ maxLen) : U.ownsRow base T sz (.slice (some ⟨b, 0, none⟩) n n) n cs.toList :=
  ⟨by simpa using hs, .inr ⟨b, n, cs, rfl, hb, h, Nat.le_refl _, hn, hs, List.take_of_length_le (Nat.le_of_eq (by rw [Array.length_toList, hs]))⟩⟩
theorem RowOf.of_own {α : Type} {sz : Nat} {P : World → Nat → Nat → α → Prop} {cells : α → List Value} (hc : ∀ y, (cells y).length = sz) {w : World} {base : Nat} {T : TypeId} {v : Value} {l : List α} (own : w.ownsRow base T sz v l.length (l.flatMap cells)) (hl : l.length ≤ 140737488355328)
    (hP : ∀ b o y, b < w.heap.size → y ∈ l → (∀ j u, (cells y)[j]? = some u → w.cell? ⟨b, o + j, none⟩ = some u) → P w b o y) : ∃ A c, v = .slice A l.length c ∧ RowOf sz P w ⟨A, c, l⟩ := by
  obtain ⟨A, c, rfl, h1, h2⟩ := own_slice own
  refine ⟨A, c, rfl, ⟨?_, h1, h2, hl⟩⟩
  rcases own.2 with ⟨hv, h0⟩ | ⟨g, cap, cur, hv, hbg, hh, hnc, hcap, hsz, htk⟩
  · exact .inl (List.eq_nil_of_length_eq_zero h0)
  · injection hv with hA
    subst hA
    have hlt : g < w.heap.size := by
      rcases Nat.lt_or_ge g w.heap.size with h' | h'
      · exact h'
      · rw [Array.getElem?_eq_none h'] at hh; cases hh
    refine .inr ⟨g, 0, rfl, hlt, fun i y hy => hP g _ y hlt (List.mem_of_getElem? hy) fun j u hu => ?_⟩
    have hj : j < sz := by rw [← hc y]; exact (List.getElem?_eq_some_iff.1 hu).1
    have key : ∀ (l : List α) (i : Nat), l[i]? = some y → (l.flatMap cells)[i * sz + j]? = some u := by
      intro l
      induction l with
      | nil => intro i h; simp at h
      | cons a l ih =>
        intro i h
        rw [List.flatMap_cons]
        cases i with
        | zero =>
          simp at h
          subst h
          rw [Nat.zero_mul, Nat.zero_add, List.getElem?_append_left (by rw [hc]; exact hj)]
          exact hu
        | succ i =>
          rw [List.getElem?_append_right (by rw [hc, Nat.add_mul]; omega), hc, show (i + 1) * sz + j - sz = i * sz + j by rw [Nat.add_mul]; omega]
          exact ih i (by simpa using h)
    have := own.cells (g := g) rfl (i * sz + j) u (key l i hy)
    rw [Addr.add_lit] at this
    rwa [Nat.zero_add] at this ⊢
theorem RowOf.one {α : Type} {sz : Nat} {P : World → Nat → Nat → α → Prop} {w : World} {b : Nat} {x : α} (hlt : b < w.heap.size) (h : P w b 0 x) : RowOf sz P w ⟨some ⟨b, 0, none⟩, 1, [x]⟩ := by
  refine ⟨.inr ⟨b, 0, rfl, hlt, fun i y hy => ?_⟩, by simp, by simp, by simp⟩
  cases i with
  | zero => simp at hy; subst hy; simpa using h
  | succ i => simp at hy
/-- the program as data -/
def redT : Tx := .mk 1 0 3 0 ⟨#[]⟩ none 0 []
def lightN (G : Nat) : NdD := ⟨⟨#[102]⟩, ⟨none, 0, []⟩, ⟨some ⟨G + 2, 0, none⟩, 1, [⟨⟨#[120]⟩, 3, ⟨none, 0, []⟩⟩]⟩, ⟨none, 0, []⟩, ⟨some ⟨G + 4, 0, none⟩, 1, [⟨⟨some ⟨G + 3, 0, none⟩, 1, [⟨#[120]⟩]⟩, redT⟩]⟩, ⟨none, 0, []⟩, ⟨none, 0, []⟩, ⟨none, 0, []⟩⟩
def lightU (G : Nat) : EnD := ⟨⟨#[76, 105, 103, 104, 116]⟩, ⟨some ⟨G + 6, 0, none⟩, 2, [⟨#[82, 101, 100]⟩, ⟨#[71, 114, 101, 101, 110]⟩]⟩⟩
variable {S : Prop}
theorem redT_rx (w : World) : RX w redT := by
  unfold redT
  rw [RX]
  exact ⟨by decide, by decide, by decide, by decide, .inl rfl⟩
theorem redT_tb : TxB redT := by
  intro x hx
  simp only [redT, Tx.list, Tx.lists, List.mem_cons, List.not_mem_nil, or_false] at hx
  subst hx
  decide
theorem light_decl {U : World} {G : Nat} (h : Light U G) : PDecl U (G + 2) 0 ⟨⟨#[120]⟩, 3, ⟨none, 0, []⟩⟩ :=
  ⟨by decide, by rw [h.b2.cell]; rfl, by rw [h.b2.cell]; rfl, by rw [h.b2.cell]; rfl, by decide, RowOf.nil U⟩
theorem light_eq {U : World} {G : Nat} (h : Light U G) : PEq S U (G + 4) 0 ⟨⟨some ⟨G + 3, 0, none⟩, 1, [⟨#[120]⟩]⟩, redT⟩ :=
  ⟨redT_tb, fun _ => (by decide : redT.size ≤ 2000000), by rw [h.b4.cell]; rfl, ⟨by rw [h.b4.cell]; rfl, by rw [h.b4.cell]; rfl, by rw [h.b4.cell]; rfl, by rw [h.b4.cell]; rfl, by rw [h.b4.cell]; rfl, by rw [h.b4.cell]; rfl⟩, RowOf.one h.b3.lt ⟨by rw [h.b3.cell]; rfl, by decide⟩, redT_rx U⟩
/-- a node whose parts are light's, wherever it lies -/
theorem light_node {U : World} {G b o : Nat} (h : Light U G) (c : ∀ j u, ([.string ⟨#[102]⟩, .slice none 0 0, .slice (some ⟨G + 2, 0, none⟩) 1 1, .slice none 0 0, .slice (some ⟨G + 4, 0, none⟩) 1 1, .slice none 0 0, .slice none 0 0, .slice none 0 0] : List Value)[j]? = some u → U.cell? ⟨b, o + j, none⟩ = some u) : PNd S U b o (lightN G) :=
  ⟨c 0 _ rfl, c 1 _ rfl, c 2 _ rfl, c 3 _ rfl, c 4 _ rfl, c 5 _ rfl, c 6 _ rfl, c 7 _ rfl, (by decide : ByteArray.size ⟨#[102]⟩ ≤ 140737488355328), RowOf.nil U, RowOf.one h.b2.lt (light_decl h), RowOf.nil U, RowOf.one h.b4.lt (light_eq h), RowOf.nil U, RowOf.nil U, RowOf.nil U⟩
theorem light_nodes {U : World} {G : Nat} (h : Light U G) (h8 : Blk U (G + 8) 52 (lightC G)) : RowOf 8 (PNd S) U ⟨some ⟨G + 8, 0, none⟩, 1, [lightN G]⟩ :=
  RowOf.one h8.lt (light_node h fun j u hu => by rw [h8.cell, Nat.zero_add, ← Array.getElem?_toList]; exact hu)
theorem light_tags {U : World} {G : Nat} (h : Light U G) : RowOf 1 PStr U ⟨some ⟨G + 6, 0, none⟩, 2, [⟨#[82, 101, 100]⟩, ⟨#[71, 114, 101, 101, 110]⟩]⟩ := by
  refine ⟨.inr ⟨_, 0, rfl, h.b6.lt, fun i y hy => ?_⟩, by simp, by simp, by simp⟩
  match i, hy with
  | 0, hy => simp at hy; subst hy; exact ⟨by rw [h.b6.cell]; rfl, by decide⟩
  | 1, hy => simp at hy; subst hy; exact ⟨by rw [h.b6.cell]; rfl, by decide⟩
  | i + 2, hy => simp at hy
theorem light_enum {U : World} {G : Nat} (h : Light U G) : PEn U (G + 7) 0 (lightU G) :=
  ⟨by rw [h.b7.cell]; rfl, by rw [h.b7.cell]; rfl, (by decide : ByteArray.size ⟨#[76, 105, 103, 104, 116]⟩ ≤ 140737488355328), light_tags h⟩
theorem light_enums {U : World} {G : Nat} (h : Light U G) : RowOf 2 PEn U ⟨some ⟨G + 7, 0, none⟩, 1, [lightU G]⟩ := RowOf.one h.b7.lt (light_enum h)
end Go.Proofs.YtdghfhnkacfahaaGreat
set_option linter.unusedVariables false
set_option linter.unusedSimpArgs false
namespace Go.Proofs.YtdghfhnkacfahaaGreat
open Go.RowKit Go.BigFrame

def gNode : NdD := ⟨⟨#[103]⟩, ⟨none, 0, []⟩, ⟨none, 0, []⟩, ⟨none, 0, []⟩, ⟨none, 0, []⟩, ⟨none, 0, []⟩, ⟨none, 0, []⟩, ⟨none, 0, []⟩⟩
def constT (t v : Int) : Tx := .mk 1 0 t v ⟨#[]⟩ none 0 []
theorem chk_const (t v : Int) (h : fT 1 t v = true) : chkI (constT t v) = 0 := by
  have e1 : errOf (constT t v) = 0 := by
    show oneI 1 0 t v ⟨#[]⟩ 0 = 0
    unfold oneI oneB
    rw [h, show fA 1 0 t v ((0 : Nat) : Int) = true from rfl, if_neg (by decide), if_neg (by decide), if_neg (by decide), if_neg (by decide), if_pos (by kernel_rfl)]
  have e2 : (constT t v).list = [constT t v] := rfl
  unfold chkI
  rw [if_neg (by show ¬ (400 < 1 ∨ 32 < 1); decide), e2, firstI, if_pos e1, firstI]
theorem ex_const {l : List EnD} (t v : Int) (h : fT 1 t v = true) : exE l (constT t v) = insE l 1 t v 0 := by
  unfold exE
  rw [if_pos (chk_const t v h)]
  show firstX l [constT t v] = _
  rw [firstX, firstX]
  show (if insE l 1 t v 0 = 0 then 0 else insE l 1 t v 0) = _
  split
  · rename_i h; exact h.symm
  · rfl
theorem id_x : identB ⟨#[120]⟩ = true := by kernel_rfl
theorem id_f : identB ⟨#[102]⟩ = true := by kernel_rfl
theorem id_g : identB ⟨#[103]⟩ = true := by kernel_rfl
theorem id_a : identB ⟨#[97]⟩ = true := by kernel_rfl
theorem id_A : identB ⟨#[65]⟩ = true := by kernel_rfl
theorem id_light : identB ⟨#[76, 105, 103, 104, 116]⟩ = true := by kernel_rfl
theorem id_red : identB ⟨#[82, 101, 100]⟩ = true := by kernel_rfl
theorem id_green : identB ⟨#[71, 114, 101, 101, 110]⟩ = true := by kernel_rfl
theorem red_is : redT = constT 3 0 := rfl
/-- an enumeration stands first, with two tags or more -/
def Two (l : List EnD) : Prop := ∃ u m, l = u :: m ∧ 2 ≤ u.tags.l.length
theorem Two.size {l : List EnD} (h : Two l) : 2 ≤ sizeV l 3 := by
  obtain ⟨u, m, rfl, h2⟩ := h
  exact h2
theorem ex_red {l : List EnD} (h : Two l) : exE l redT = 0 := by
  have h2 := h.size
  rw [red_is, ex_const 3 0 (by decide)]
  unfold insE
  rw [if_pos (.inl rfl), if_neg (by omega), if_pos]
  unfold hasV
  rw [if_neg (by decide)]
  simp; omega
theorem ex_yes (l : List EnD) : exE l (constT 1 1) = 0 := by
  rw [ex_const 1 1 (by decide)]
  rfl
theorem eq_light {l : List EnD} (h : Two l) (lA : Option Addr) (lc : Nat) : eqE l ⟨⟨lA, lc, [⟨#[120]⟩]⟩, redT⟩ = 0 := by
  simp only [eqE, firstE, identE, id_x, ex_red h, ore, limE]; kernel_rfl
theorem enum_light (G : Nat) : enumE (lightU G) = 0 := by
  simp only [enumE, lightU, firstE, identE, id_light, id_red, id_green, ore, limE]; kernel_rfl
theorem decl_x {l : List EnD} (h : Two l) (b : Bool) : declE l b ⟨⟨#[120]⟩, 3, ⟨none, 0, []⟩⟩ = 0 := by
  have h2 := h.size
  have h3 : decide ((0 : Int) < (sizeV l 3 : Int)) = true := by rw [decide_eq_true_eq]; omega
  unfold declE
  simp only [firstE, identE, id_x, limE, h3]
  cases b <;> rfl
theorem head_light {l : List EnD} (h : Two l) (G : Nat) : headE l (lightN G) = 0 := by
  simp only [headE, lightN, declsE, firstE, identE, id_f, ore, limE, decl_x h]; kernel_rfl
theorem node_light {l : List EnD} (h : Two l) (G : Nat) : nodeE l (lightN G) = 0 := by
  unfold nodeE
  rw [head_light h, ore_yes rfl]
  simp only [lightN, firstE, eq_light h, tailE, ore]
  kernel_rfl
theorem head_g {l : List EnD} : headE l gNode = 8 := by
  simp only [headE, gNode, declsE, firstE, identE, id_g, ore, limE]; kernel_rfl
theorem two_light (G : Nat) : Two [lightU G] := ⟨_, [], rfl, Nat.le_refl 2⟩
theorem pre_light (G G' : Nat) (n : List NdD) (hn : (n.length : Int) ≤ 96) : preE [lightU G] n = 0 := by
  unfold preE
  rw [firstE, enum_light, firstE, decide_eq_true hn]
  rfl
theorem light_check (G : Nat) : checkV [lightU G] [lightN G] = (0, 0, 0) := by
  unfold checkV
  rw [if_pos (pre_light G G _ (by simp)), nodesV, if_pos (node_light (two_light G) G), nodesV]
theorem light_check2 (G : Nat) : checkV [lightU G] [lightN G, gNode] = (1, -1, 8) := by
  have hg : nodeE [lightU G] gNode = 8 := by unfold nodeE; rw [head_g]; rfl
  unfold checkV
  rw [if_pos (pre_light G G _ (by simp)), nodesV, if_pos (node_light (two_light G) G), nodesV, if_neg (by rw [hg]; decide), hg]
  unfold nodeQ
  rw [if_neg (by rw [head_g]; decide)]
  rfl
theorem light_find (G : Nat) : ixV (isNamed ⟨#[103]⟩) [lightN G, gNode] 0 = 1 := by
  have h1 : isNamed ⟨#[103]⟩ (lightN G) = false := by show (ByteArray.toList ⟨#[102]⟩ == ByteArray.toList ⟨#[103]⟩) = false; kernel_rfl
  have h2 : isNamed ⟨#[103]⟩ gNode = true := by show (ByteArray.toList ⟨#[103]⟩ == ByteArray.toList ⟨#[103]⟩) = true; kernel_rfl
  rw [ixV, h1, if_neg (by decide), ixV, h2, if_pos rfl]; rfl
theorem light_plain (G : Nat) : [lightN G].any hasAutos = false := rfl
theorem light_same (G G' : Nat) (a b c d : Option Addr) (e f g h : Nat) : pgSame ⟨⟨a, e, [lightU G]⟩, ⟨b, f, [lightN G]⟩⟩ ⟨⟨c, g, [lightU G']⟩, ⟨d, h, [lightN G']⟩⟩ = true := by
  have hs : redT.same redT = true := same_refl _
  simp [pgSame, lsame, all2, enSame, lightU, ndSame, lightN, declSame, eqSame, strSame_refl, hs]
theorem light_other (G G' : Nat) (a b c d : Option Addr) (e f g h : Nat) : pgSame ⟨⟨a, e, [lightU G]⟩, ⟨b, f, [lightN G]⟩⟩ ⟨⟨c, g, [lightU G']⟩, ⟨d, h, [lightN G', gNode]⟩⟩ = false := by
  simp [pgSame, lsame]
theorem ex_three (G : Nat) : exE [lightU G] (constT 3 2) = 14 := by
  rw [ex_const 3 2 (by decide)]
  rfl
end Go.Proofs.YtdghfhnkacfahaaGreat
set_option linter.unusedVariables false
set_option linter.unusedSimpArgs false
namespace Go.Proofs.YtdghfhnkacfahaaGreat
open Go.RowKit Go.BigFrame

theorem grown_set (w : World) (g i : Nat) (v : Value) : w.grownBy (w.setCell ⟨g, i, none⟩ v) (some g) := by
  have hb := (Below.refl 0 w).setCell (p := ⟨g, i, none⟩) (Nat.zero_le _) v
  exact ⟨hb.os, hb.tape, hb.output, hb.size, fun k _ hg => Below.heap_setCell w _ v k (fun e => hg (by rw [e]))⟩
theorem Light.other {w U : World} {G g : Nat} (h : Light w G) (hg : w.grownBy U (some g)) (hn : G + 7 < g) : Light U G :=
  ⟨h.b2.grown hg (by intro e; injection e with e; omega), h.b3.grown hg (by intro e; injection e with e; omega), h.b4.grown hg (by intro e; injection e with e; omega), h.b6.grown hg (by intro e; injection e with e; omega), h.b7.grown hg (by intro e; injection e with e; omega)⟩
theorem const_rx (w : World) (t v : Int) : RX w (constT t v) := by
  unfold constT
  rw [RX]
  exact ⟨by decide, by decide, by decide, by decide, .inl rfl⟩
theorem const_tb (t v : Int) (h : t ≤ 9223372036854775807) : TxB (constT t v) := by
  intro x hx
  simp only [constT, Tx.list, Tx.lists, List.mem_cons, List.not_mem_nil, or_false] at hx
  subst hx
  exact h
theorem after_of_more {w w1 w2 : World} (h : ∃ y, w2 = w1.more y) (a : After w w1) : After w w2 := by obtain ⟨y, rfl⟩ := h; exact inferInstance
def ndCells (x : NdD) : List Value := [.string x.name, .slice x.ins.A x.ins.l.length x.ins.c, .slice x.outs.A x.outs.l.length x.outs.c, .slice x.locals.A x.locals.l.length x.locals.c, .slice x.eqs.A x.eqs.l.length x.eqs.c, .slice x.autos.A x.autos.l.length x.autos.c, .slice x.assume.A x.assume.l.length x.assume.c, .slice x.ensure.A x.ensure.l.length x.ensure.c]
theorem ndCells_len (x : NdD) : (ndCells x).length = 8 := rfl
theorem nodeInfo : (Tryz.prog.info? 52).map (fun i => (i.zero, i.size, i.bytes)) = some (some (.agg #[.string ⟨#[]⟩, .slice none 0 0, .slice none 0 0, .slice none 0 0, .slice none 0 0, .slice none 0 0, .slice none 0 0, .slice none 0 0]), 8, 184) := by kernel_rfl
set_option maxRecDepth 100000 in
set_option maxHeartbeats 6400000 in
theorem awake_any (w : World) : Calls Tryz.prog 10 #[] w fun e w' => e = .returned (.bool true) ∧ After w w' := by
  go_enter Tryz.func10, Tryz.ntmps10
  go_wp2_with fail
  refine (light_any _).mono ?_
  rintro e w1 ⟨G1, rfl, a1, g1_, L1, n1⟩
  obtain ⟨gp, hgp⟩ : ∃ g, w1.heap.size = g := ⟨_, rfl⟩
  obtain ⟨W1, hW1, bW1, HKp⟩ : ∃ W, w1.alloc (.cells #[.slice (some ⟨G1 + 7, 0, none⟩) 1 1, .slice (some ⟨G1 + 8, 0, none⟩) 1 1] 25) = W ∧ After w1 W ∧ Hid (∀ V, After W V → V.cell? ⟨gp, 0, none⟩ = some (.slice (some ⟨G1 + 7, 0, none⟩) 1 1) ∧ V.cell? ⟨gp, 1, none⟩ = some (.slice (some ⟨G1 + 8, 0, none⟩) 1 1) ∧ Le (gp + 1) V) := by
    refine ⟨_, rfl, inferInstance, fun V k_ => ?_⟩
    have f_ := (Blk.new w1 25 #[.slice (some ⟨G1 + 7, 0, none⟩) 1 1, .slice (some ⟨G1 + 8, 0, none⟩) 1 1]).after (w' := V)
    rw [hgp] at f_
    exact ⟨(f_.cell 0).trans rfl, (f_.cell 1).trans rfl, f_.is_le⟩
  have L1' := Lib.hid L1
  have N1' := Lib.hid n1
  clear L1 n1
  obtain ⟨p0, p1, pl⟩ := HKp.out W1 (after_refl _)
  have aW1 : After w W1 := after_after a1 bW1
  have C1 := Lib.hid (pcheck_any (light_enums (L1'.out.here W1)) (light_nodes (S := True) (L1'.out.here W1) (N1'.out.after (w' := W1))) W1 (after_refl _))
  rw [light_check] at C1
  go_wp2_with fail
  try rw [hW1]
  try rw [hgp]
  clear hgp hW1
  refine C1.out.mono ?_
  rintro e w2 ⟨rfl, a2⟩
  clear C1
  go_wp2_with fail
  obtain ⟨gw, hgw⟩ : ∃ g, w2.heap.size = g := ⟨_, rfl⟩
  obtain ⟨W2, hW2, bW2, HKw⟩ : ∃ W, w2.alloc (.cells #[.int .i64 0, .int .i64 0] 27) = W ∧ After w2 W ∧ Hid (∀ V, After W V → V.cell? ⟨gw, 0, none⟩ = some (.int .i64 0) ∧ V.cell? ⟨gw, 1, none⟩ = some (.int .i64 0) ∧ Le (gw + 1) V) := by
    refine ⟨_, rfl, inferInstance, fun V k_ => ?_⟩
    have f_ := (Blk.new w2 27 #[.int .i64 0, .int .i64 0]).after (w' := V)
    rw [hgw] at f_
    exact ⟨(f_.cell 0).trans rfl, (f_.cell 1).trans rfl, f_.is_le⟩
  have aW2 : After w W2 := after_after aW1 (after_after a2 bW2)
  try rw [hW2]
  try rw [hgw]
  clear hgw hW2 p0 p1 pl
  refine (light_any _).mono ?_
  rintro e w3 ⟨G2, rfl, a3, g2_, L2, n2⟩
  obtain ⟨gq, hgq⟩ : ∃ g, w3.heap.size = g := ⟨_, rfl⟩
  obtain ⟨W3, hW3, bW3, HKq0⟩ : ∃ W, w3.alloc (.cells #[.slice (some ⟨G2 + 7, 0, none⟩) 1 1, .slice (some ⟨G2 + 8, 0, none⟩) 1 1] 25) = W ∧ After w3 W ∧ Hid (∀ V, After W V → V.cell? ⟨gq, 0, none⟩ = some (.slice (some ⟨G2 + 7, 0, none⟩) 1 1) ∧ V.cell? ⟨gq, 1, none⟩ = some (.slice (some ⟨G2 + 8, 0, none⟩) 1 1) ∧ Le (gq + 1) V) := by
    refine ⟨_, rfl, inferInstance, fun V k_ => ?_⟩
    have f_ := (Blk.new w3 25 #[.slice (some ⟨G2 + 7, 0, none⟩) 1 1, .slice (some ⟨G2 + 8, 0, none⟩) 1 1]).after (w' := V)
    rw [hgq] at f_
    exact ⟨(f_.cell 0).trans rfl, (f_.cell 1).trans rfl, f_.is_le⟩
  have aW3 : After w W3 := after_after aW2 (after_after a3 bW3)
  have a13 : After W1 W3 := after_after a2 (after_after bW2 (after_after a3 bW3))
  have hGq : G2 + 8 < gq := by rw [← hgq]; exact n2.lt
  have L2' := Lib.hid (L2.here W3)
  have N2' := Lib.hid (n2.after (w' := W3))
  have hq0 := Lib.hid (show Blk W3 gq 25 #[.slice (some ⟨G2 + 7, 0, none⟩) 1 1, .slice (some ⟨G2 + 8, 0, none⟩) 1 1] from by subst hW3; subst hgq; exact Blk.new _ _ _)
  obtain ⟨q0, q1, ql⟩ := HKq0.out W3 (after_refl _)
  clear L2 n2 HKq0
  have own := own_of_blk (base := W2.heap.size) (n := 1) (sz := 8) N2'.out (by omega) rfl (by decide)
  have hngq : gq ≠ G2 + 8 := by omega
  obtain ⟨i0, hi0, hz0, hz1, hz2⟩ := info_parts nodeInfo
  have fq1 := hq0.out.frozen 1
  have hgG : G2 + 8 < W3.heap.size := N2'.out.lt
  have s3_ := (after_after a3 bW3).below.size
  have q3_ : W2.heap.size ≤ gq := by rw [← hgq]; exact a3.below.size
  have hgq9 : gq < W3.heap.size := hq0.out.lt
  go_wp2_with (at_builtin; refine wpList_append_any (W3.alloc (.cells #[.string ⟨#[103]⟩, .slice none 0 0, .slice none 0 0, .slice none 0 0, .slice none 0 0, .slice none 0 0, .slice none 0 0, .slice none 0 0] 52)) rfl (.tmp 18) (.tmp 20) 23 rfl W2.heap.size 52 i0 _ 8 _ Tryz.underlying23 hi0 hz0 hz1 hz2 rfl (by decide) _ 1 _ rfl (own_after own (w' := W3.alloc (.cells #[.string ⟨#[103]⟩, .slice none 0 0, .slice none 0 0, .slice none 0 0, .slice none 0 0, .slice none 0 0, .slice none 0 0, .slice none 0 0] 52)) inferInstance) _ _ 1 1 [.string ⟨#[103]⟩, .slice none 0 0, .slice none 0 0, .slice none 0 0, .slice none 0 0, .slice none 0 0, .slice none 0 0, .slice none 0 0] rfl (cells_flat (w := W3) rfl #[.string ⟨#[103]⟩, .slice none 0 0, .slice none 0 0, .slice none 0 0, .slice none 0 0, .slice none 0 0, .slice none 0 0, .slice none 0 0] 52 _ rfl 1 8 rfl) (by intro u hu; simp only [List.mem_cons, List.not_mem_nil, or_false] at hu; rcases hu with rfl | rfl | rfl | rfl | rfl | rfl | rfl | rfl <;> rfl) (by decide) (by decide) (by simp only [size_alloc_]; omega) ?_; intro r4 W4 own4 hg4 hnx4; obtain ⟨A4, c4, hA4, _, _⟩ := own_slice own4; subst hA4; have BW4 := Lib.hid ((hq0.out.alloc (.cells #[.string ⟨#[103]⟩, .slice none 0 0, .slice none 0 0, .slice none 0 0, .slice none 0 0, .slice none 0 0, .slice none 0 0, .slice none 0 0] 52)).grown hg4 (by intro h; exact hngq (Option.some.inj (show some gq = some (G2 + 8) from h)))); have cq4 : W4.cell? ⟨gq, 1, none⟩ = some (.slice (some ⟨G2 + 8, 0, none⟩) 1 1) := (BW4.out.cell 1).trans rfl; have dq4 : W4.cell? ⟨gq, 0, none⟩ = some (.slice (some ⟨G2 + 7, 0, none⟩) 1 1) := (BW4.out.cell 0).trans rfl; have fq4 := BW4.out.frozen 1; have lq4 := BW4.out.is_le; replace own4 := Lib.hid own4; replace hnx4 := Lib.hid hnx4; replace hg4 := Lib.hid hg4)
  clear q0 q1 ql fq1 hW3 hgq
  obtain ⟨W5, hW5, B5, G5, hr4⟩ : ∃ W, W4.setCell ⟨gq, 1, none⟩ (.slice A4 2 c4) = W ∧ Blk W gq 25 #[.slice (some ⟨G2 + 7, 0, none⟩) 1 1, .slice A4 2 c4] ∧ W4.grownBy W (some gq) ∧ (Value.slice A4 2 c4).ownBlock ≠ some gq := by
    refine ⟨_, rfl, BW4.out.set_ 1 _, grown_set W4 _ _ _, ?_⟩
    intro h
    rcases hnx4.out with h1 | h1
    · rw [show (Value.slice A4 (1 + 1) c4).ownBlock = (Value.slice A4 2 c4).ownBlock from rfl] at h1; rw [h1] at h; exact hngq (Option.some.inj (show some (G2 + 8) = some gq from h)).symm
    · rw [show (Value.slice A4 (1 + 1) c4).ownBlock = (Value.slice A4 2 c4).ownBlock from rfl] at h1; rw [h1, size_alloc_] at h; have h3 := Option.some.inj h; omega
  have aX : After W2 (W3.alloc (.cells #[.string ⟨#[103]⟩, .slice none 0 0, .slice none 0 0, .slice none 0 0, .slice none 0 0, .slice none 0 0, .slice none 0 0, .slice none 0 0] 52)) := after_after (after_after a3 bW3) inferInstance
  have a4 : After W2 W4 := @after_grown_ W2 _ W4 aX _ _ 8 1 _ _ (own_after own (w' := W3.alloc (.cells #[.string ⟨#[103]⟩, .slice none 0 0, .slice none 0 0, .slice none 0 0, .slice none 0 0, .slice none 0 0, .slice none 0 0, .slice none 0 0] 52)) inferInstance) (Nat.le_refl _) hg4.out
  have n5_ : New W2 gq := ⟨q3_⟩
  have aW5 : After W2 W5 := by rw [← hW5]; exact inferInstance
  have L4 : Light W4 G2 := ⟨(L2'.out.b2.alloc _).grown hg4.out (by intro h; have h3 := Option.some.inj (show some (G2 + 2) = some (G2 + 8) from h); omega), (L2'.out.b3.alloc _).grown hg4.out (by intro h; have h3 := Option.some.inj (show some (G2 + 3) = some (G2 + 8) from h); omega), (L2'.out.b4.alloc _).grown hg4.out (by intro h; have h3 := Option.some.inj (show some (G2 + 4) = some (G2 + 8) from h); omega), (L2'.out.b6.alloc _).grown hg4.out (by intro h; have h3 := Option.some.inj (show some (G2 + 6) = some (G2 + 8) from h); omega), (L2'.out.b7.alloc _).grown hg4.out (by intro h; have h3 := Option.some.inj (show some (G2 + 7) = some (G2 + 8) from h); omega)⟩
  have L5 := Lib.hid (L4.other G5 (by omega))
  have own5 := Lib.hid (own4.out.kept G5 (.inr hr4))
  obtain ⟨A5, c5, hA5, RQ_⟩ := RowOf.of_own (P := PNd True) (cells := ndCells) (l := [lightN G2, gNode]) ndCells_len own5.out (by simp) (by
    intro b o y hb hy hc
    simp only [List.mem_cons, List.not_mem_nil, or_false] at hy
    rcases hy with rfl | rfl
    · exact light_node L5.out hc
    · exact ⟨hc 0 _ rfl, hc 1 _ rfl, hc 2 _ rfl, hc 3 _ rfl, hc 4 _ rfl, hc 5 _ rfl, hc 6 _ rfl, hc 7 _ rfl, by decide, RowOf.nil _, RowOf.nil _, RowOf.nil _, RowOf.nil _, RowOf.nil _, RowOf.nil _, RowOf.nil _⟩)
  injection hA5 with h1_ h2_ h3_
  clear h2_
  subst h1_; subst h3_
  have RQ := Lib.hid RQ_
  try rw [hW5]
  clear hW5 cq4 dq4 fq4 lq4
  have HKq : Hid (∀ V, After W5 V → V.cell? ⟨gq, 0, none⟩ = some (.slice (some ⟨G2 + 7, 0, none⟩) 1 1) ∧ V.cell? ⟨gq, 1, none⟩ = some (.slice A4 2 c4) ∧ Le (gq + 1) V) := fun V k_ => by
    have f_ := B5.after (w' := V)
    exact ⟨(f_.cell 0).trans rfl, (f_.cell 1).trans rfl, f_.is_le⟩
  have C2 := Lib.hid (pcheck_any (light_enums L5.out) RQ.out W5 (after_refl _))
  rw [light_check2] at C2
  replace C2 : Hid (Calls Tryz.prog 4 #[.agg #[.slice (some ⟨G2 + 7, 0, none⟩) 1 1, .slice A4 2 c4]] W5 fun e w' => e = .returned (.tuple #[.agg #[.int .i64 1, .int .i64 (-1)], .int .i64 8]) ∧ After W5 w') := C2
  have aw5 : After w W5 := after_after aW2 aW5
  have a15 : After W1 W5 := after_after a2 (after_after bW2 aW5)
  replace B5 := Lib.hid B5
  clear aX a4 L4 hnx4 G5 hr4 own4 own5 hg4 N2' L2' hq0 own BW4 hi0 hz0 hz1 hz2 n5_ hngq hgG s3_ q3_ hgq9 hGq
  refine C2.out.mono ?_
  rintro e w6 ⟨rfl, a6⟩
  clear C2
  obtain ⟨q0, q1, ql⟩ := HKq.out w6 a6
  go_wp2_with fail
  obtain ⟨gx, hgx⟩ : ∃ g, w6.heap.size = g := ⟨_, rfl⟩
  obtain ⟨W6, hW6, bW6, HKx⟩ : ∃ W, w6.alloc (.cells #[.int .i64 1, .int .i64 (-1)] 27) = W ∧ After w6 W ∧ Hid (∀ V, After W V → V.cell? ⟨gx, 0, none⟩ = some (.int .i64 1) ∧ V.cell? ⟨gx, 1, none⟩ = some (.int .i64 (-1)) ∧ Le (gx + 1) V) := by
    refine ⟨_, rfl, inferInstance, fun V k_ => ?_⟩
    have f_ := (Blk.new w6 27 #[.int .i64 1, .int .i64 (-1)]).after (w' := V)
    rw [hgx] at f_
    exact ⟨(f_.cell 0).trans rfl, (f_.cell 1).trans rfl, f_.is_le⟩
  try rw [hW6]
  try rw [hgx]
  clear hgx hW6 q0 q1 ql
  have a56 : After W5 W6 := after_after a6 bW6
  have C3 := Lib.hid (sfind_any (eA := some ⟨G2 + 7, 0, none⟩) (en := 1) (ec := 1) RQ.out ⟨#[103]⟩ W6 a56)
  rw [light_find] at C3
  refine C3.out.mono ?_
  rintro e w7 ⟨rfl, hy_⟩
  have a7 : After W6 w7 := after_of_more hy_ (after_refl _)
  clear hy_ C3
  obtain ⟨x0, x1, xl⟩ := HKx.out w7 a7
  go_wp2_with fail
  obtain ⟨gt, hgt⟩ : ∃ g, w7.heap.size = g := ⟨_, rfl⟩
  obtain ⟨W8, hW8, bW8, HKt⟩ : ∃ W, w7.alloc (.cells #[.int .i64 1, .int .i64 0, .int .i64 3, .int .i64 2, .string ⟨#[]⟩, .slice none 0 0] 58) = W ∧ After w7 W ∧ Hid (∀ V, After W V → V.cell? ⟨gt, 0, none⟩ = some (.int .i64 1) ∧ V.cell? ⟨gt, 1, none⟩ = some (.int .i64 0) ∧ V.cell? ⟨gt, 2, none⟩ = some (.int .i64 3) ∧ V.cell? ⟨gt, 3, none⟩ = some (.int .i64 2) ∧ V.cell? ⟨gt, 4, none⟩ = some (.string ⟨#[]⟩) ∧ V.cell? ⟨gt, 5, none⟩ = some (.slice none 0 0) ∧ Le (gt + 1) V) := by
    refine ⟨_, rfl, inferInstance, fun V k_ => ?_⟩
    have f_ := (Blk.new w7 58 #[.int .i64 1, .int .i64 0, .int .i64 3, .int .i64 2, .string ⟨#[]⟩, .slice none 0 0]).after (w' := V)
    rw [hgt] at f_
    exact ⟨(f_.cell 0).trans rfl, (f_.cell 1).trans rfl, (f_.cell 2).trans rfl, (f_.cell 3).trans rfl, (f_.cell 4).trans rfl, (f_.cell 5).trans rfl, f_.is_le⟩
  try rw [hW8]
  try rw [hgt]
  clear hgt hW8 x0 x1 xl
  have a68 : After W6 W8 := after_after a7 bW8
  have a58 : After W5 W8 := after_after a56 a68
  have a18 : After W1 W8 := after_after a15 a58
  have aw8 : After w W8 := after_after aw5 a58
  have HK : Hid (∀ V, After W8 V → V.cell? ⟨gp, 0, none⟩ = some (.slice (some ⟨G1 + 7, 0, none⟩) 1 1) ∧ V.cell? ⟨gp, 1, none⟩ = some (.slice (some ⟨G1 + 8, 0, none⟩) 1 1) ∧ V.cell? ⟨gx, 0, none⟩ = some (.int .i64 1) ∧ V.cell? ⟨gx, 1, none⟩ = some (.int .i64 (-1)) ∧ V.cell? ⟨gq, 0, none⟩ = some (.slice (some ⟨G2 + 7, 0, none⟩) 1 1) ∧ V.cell? ⟨gq, 1, none⟩ = some (.slice A4 2 c4) ∧ V.cell? ⟨gt, 0, none⟩ = some (.int .i64 1) ∧ V.cell? ⟨gt, 1, none⟩ = some (.int .i64 0) ∧ V.cell? ⟨gt, 2, none⟩ = some (.int .i64 3) ∧ V.cell? ⟨gt, 3, none⟩ = some (.int .i64 2) ∧ V.cell? ⟨gt, 4, none⟩ = some (.string ⟨#[]⟩) ∧ V.cell? ⟨gt, 5, none⟩ = some (.slice none 0 0)) := fun V k_ => ⟨(HKp.out V (after_after a18 k_)).1, (HKp.out V (after_after a18 k_)).2.1, (HKx.out V (after_after a68 k_)).1, (HKx.out V (after_after a68 k_)).2.1, (HKq.out V (after_after a58 k_)).1, (HKq.out V (after_after a58 k_)).2.1, (HKt.out V k_).1, (HKt.out V k_).2.1, (HKt.out V k_).2.2.1, (HKt.out V k_).2.2.2.1, (HKt.out V k_).2.2.2.2.1, (HKt.out V k_).2.2.2.2.2.1⟩
  have M := HK.out W8 (after_refl _)
  have L18 := Lib.hid (L1'.out.here W8 (k := after_after bW1 a18))
  have N18 := Lib.hid (N1'.out.after (w' := W8) (k := after_after bW1 a18))
  have D1 := Lib.hid (light_enums L18.out)
  have D2 := Lib.hid (light_nodes (S := True) L18.out N18.out)
  have D3 := Lib.hid ((light_enums L5.out).enums W8 (k := a58))
  have D4 := Lib.hid (RQ.out.nds W8 (k := a58))
  have C4 : Gives W8 6 #[.agg #[.slice (some ⟨G1 + 7, 0, none⟩) 1 1, .slice (some ⟨G1 + 8, 0, none⟩) 1 1]] (.bool true) := fun U hU => splain_any (S := True) D2.out U hU
  have C6 : Gives W8 24 #[.agg #[.slice (some ⟨G1 + 7, 0, none⟩) 1 1, .slice (some ⟨G1 + 8, 0, none⟩) 1 1], .agg #[.slice (some ⟨G2 + 7, 0, none⟩) 1 1, .slice A4 2 c4]] (.bool false) := fun U hU => (psame_any (S := True) D1.out D3.out D2.out D4.out U hU).mono fun e w_ h_ => ⟨by rw [h_.1, light_other], have := h_.2; After.is_more _ _⟩
  have C7 : Gives W8 25 #[.slice (some ⟨G1 + 7, 0, none⟩) 1 1, .agg #[.int .i64 1, .int .i64 0, .int .i64 3, .int .i64 2, .string ⟨#[]⟩, .slice none 0 0]] (.int .i64 14) := fun U hU => (sexpr_any (x := ⟨some ⟨G1 + 7, 0, none⟩, 1, [lightU G1]⟩) (k := 1) (o := 0) (t := 3) (v := 2) (s := ⟨#[]⟩) (A := none) (c := 0) (xs := []) D1.out (by decide) (const_rx W8 3 2) (const_tb 3 2 (by decide)) U hU).mono fun e w_ h_ => ⟨by rw [h_.1, show Tx.mk 1 0 3 2 ⟨#[]⟩ none 0 [] = constT 3 2 from rfl, ex_three], have := h_.2; After.is_more _ _⟩
  obtain ⟨tk1, tk2, tk3, tk4, tk5⟩ : True ∧ True ∧ True ∧ True ∧ True := by trivial
  go_region_held3 (fun V => V.cell? ⟨gp, 0, none⟩ = some (.slice (some ⟨G1 + 7, 0, none⟩) 1 1) ∧ V.cell? ⟨gp, 1, none⟩ = some (.slice (some ⟨G1 + 8, 0, none⟩) 1 1) ∧ V.cell? ⟨gx, 0, none⟩ = some (.int .i64 1) ∧ V.cell? ⟨gx, 1, none⟩ = some (.int .i64 (-1)) ∧ V.cell? ⟨gq, 0, none⟩ = some (.slice (some ⟨G2 + 7, 0, none⟩) 1 1) ∧ V.cell? ⟨gq, 1, none⟩ = some (.slice A4 2 c4) ∧ V.cell? ⟨gt, 0, none⟩ = some (.int .i64 1) ∧ V.cell? ⟨gt, 1, none⟩ = some (.int .i64 0) ∧ V.cell? ⟨gt, 2, none⟩ = some (.int .i64 3) ∧ V.cell? ⟨gt, 3, none⟩ = some (.int .i64 2) ∧ V.cell? ⟨gt, 4, none⟩ = some (.string ⟨#[]⟩) ∧ V.cell? ⟨gt, 5, none⟩ = some (.slice none 0 0)) (exact HK.out _ inferInstance)
    (first
      | (have _t := tk1; go_at_call 6; (with_reducible refine (Gives.on C4 _ inferInstance).mono ?_); rintro e v1 ⟨rfl, hy⟩; have u1 : After W8 v1 := after_of_more hy inferInstance; clear hy _t tk1)
      | (have _t := tk2; go_at_call 23; (with_reducible refine (light_any _).mono ?_); rintro e v2 ⟨G3, rfl, hy, g3_, L3, n3⟩; have u2 : After W8 v2 := after_after inferInstance hy; have L3' := Lib.hid L3; have N3' := Lib.hid n3; have C5 : Gives v2 24 #[.agg #[.slice (some ⟨G1 + 7, 0, none⟩) 1 1, .slice (some ⟨G1 + 8, 0, none⟩) 1 1], .agg #[.slice (some ⟨G3 + 7, 0, none⟩) 1 1, .slice (some ⟨G3 + 8, 0, none⟩) 1 1]] (.bool true) := fun U hU => (psame_any (S := True) (D1.out.enums v2) (light_enums L3'.out) (D2.out.nds v2) (light_nodes L3'.out N3'.out) U hU).mono (fun e w_ h_ => ⟨by rw [h_.1, light_same], have := h_.2; After.is_more _ _⟩); clear hy L3 n3 g3_ _t tk2)
      | (have _t := tk3; go_at_call 24; (with_reducible refine (Gives.on C5 _ inferInstance).mono ?_); rintro e v3 ⟨rfl, hy⟩; have u3 : After W8 v3 := after_of_more hy (after_after u2 inferInstance); clear hy _t tk3)
      | (have _t := tk4; go_at_call 24; (with_reducible refine (Gives.on C6 _ inferInstance).mono ?_); rintro e v4 ⟨rfl, hy⟩; have u4 : After W8 v4 := after_of_more hy inferInstance; clear hy _t tk4)
      | (have _t := tk5; go_at_call 25; (with_reducible refine (Gives.on C7 _ inferInstance).mono ?_); rintro e v5 ⟨rfl, hy⟩; have u5 : After W8 v5 := after_of_more hy inferInstance; clear hy _t tk5))
  go_wp2_with fail
  go_ret
  exact ⟨rfl, after_after aw8 (after_after u5 inferInstance)⟩
end Go.Proofs.YtdghfhnkacfahaaGreat
