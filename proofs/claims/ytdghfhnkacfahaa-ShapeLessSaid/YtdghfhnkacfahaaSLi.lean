/-
  Contract: the law's light, the program of the page's example; rows of the call's own as rows of structs (printed by gen_slight.py).
-/
import Derived.Test.YtdghfhnkacfahaaSPg
import Derived.Test.YtdghfhnkacfahaaSMust
set_option linter.unusedVariables false
set_option linter.unusedSimpArgs false
namespace Go.Proofs.Ytdghfhnkacfahaa
open Go.RowKit Go.BigFrame

/-- the blocks of light's program, that lie from G on -/
structure Light (U : World) (G : Nat) : Prop where
  b2 : Blk U (G + 2) 83 #[.string ⟨#[120]⟩, .int .i64 3, .slice none 0 0]
  b3 : Blk U (G + 3) 9 #[.string ⟨#[120]⟩]
  b4 : Blk U (G + 4) 48 #[.slice (some ⟨G + 3, 0, none⟩) 1 1, .int .i64 1, .int .i64 0, .int .i64 3, .int .i64 0, .string ⟨#[]⟩, .slice none 0 0]
  b6 : Blk U (G + 6) 9 #[.string ⟨#[82, 101, 100]⟩, .string ⟨#[71, 114, 101, 101, 110]⟩]
  b7 : Blk U (G + 7) 59 #[.string ⟨#[76, 105, 103, 104, 116]⟩, .slice (some ⟨G + 6, 0, none⟩) 2 2]
theorem Light.here {w : World} {G : Nat} (h : Light w G) (U : World) [k : After w U] : Light U G := ⟨h.b2.after, h.b3.after, h.b4.after, h.b6.after, h.b7.after⟩
/-- the cells of light's node -/
def lightC (G : Nat) : Array Value := #[.string ⟨#[102]⟩, .slice none 0 0, .slice (some ⟨G + 2, 0, none⟩) 1 1, .slice none 0 0, .slice (some ⟨G + 4, 0, none⟩) 1 1, .slice none 0 0, .slice none 0 0, .slice none 0 0]
set_option maxRecDepth 100000 in
set_option maxHeartbeats 1600000 in
theorem light_0 (w : World) : Calls Try.prog 20 #[] w fun e w' => e = .returned (.agg #[.slice (some ⟨w.heap.size + 7, 0, none⟩) 1 1, .slice (some ⟨w.heap.size + 8, 0, none⟩) 1 1]) ∧ After w w' ∧ Light w' w.heap.size ∧ Blk w' (w.heap.size + 8) 45 (lightC w.heap.size) := by
  obtain ⟨G, hG⟩ : ∃ G, w.heap.size = G := ⟨_, rfl⟩
  obtain ⟨u9, hu9, aw, HL, b8_, c0, c1⟩ : ∃ W, (((((((((w.alloc (.cells #[.slice (some ⟨G + 7, 0, none⟩) 1 1, .slice (some ⟨G + 8, 0, none⟩) 1 1] 32)).alloc (.cells #[.int .i64 1, .int .i64 0, .int .i64 3, .int .i64 0, .string ⟨#[]⟩, .slice none 0 0] 25)).alloc (.cells #[.string ⟨#[120]⟩, .int .i64 3, .slice none 0 0] 83)).alloc (.cells #[.string ⟨#[120]⟩] 9)).alloc (.cells #[.slice (some ⟨G + 3, 0, none⟩) 1 1, .int .i64 1, .int .i64 0, .int .i64 3, .int .i64 0, .string ⟨#[]⟩, .slice none 0 0] 48)).alloc (.cells #[.string ⟨#[102]⟩, .slice none 0 0, .slice (some ⟨G + 2, 0, none⟩) 1 1, .slice none 0 0, .slice (some ⟨G + 4, 0, none⟩) 1 1, .slice none 0 0, .slice none 0 0, .slice none 0 0] 45)).alloc (.cells #[.string ⟨#[82, 101, 100]⟩, .string ⟨#[71, 114, 101, 101, 110]⟩] 9)).alloc (.cells #[.string ⟨#[76, 105, 103, 104, 116]⟩, .slice (some ⟨G + 6, 0, none⟩) 2 2] 59)).alloc (.cells #[.string ⟨#[102]⟩, .slice none 0 0, .slice (some ⟨G + 2, 0, none⟩) 1 1, .slice none 0 0, .slice (some ⟨G + 4, 0, none⟩) 1 1, .slice none 0 0, .slice none 0 0, .slice none 0 0] 45)) = W ∧ After w W ∧ Light W G ∧ Blk W (G + 8) 45 (lightC G) ∧ W.cell? ⟨G, 0, none⟩ = some (.slice (some ⟨G + 7, 0, none⟩) 1 1) ∧ W.cell? ⟨G, 1, none⟩ = some (.slice (some ⟨G + 8, 0, none⟩) 1 1) := by
    have b0 := Blk.new w 32 #[.slice (some ⟨G + 7, 0, none⟩) 1 1, .slice (some ⟨G + 8, 0, none⟩) 1 1]
    obtain ⟨u1, hu1⟩ : ∃ v, w.alloc (.cells #[.slice (some ⟨G + 7, 0, none⟩) 1 1, .slice (some ⟨G + 8, 0, none⟩) 1 1] 32) = v := ⟨_, rfl⟩
    have s1 : u1.heap.size = G + 1 := by rw [← hu1, size_alloc_, hG]
    have a1 : After w u1 := by rw [← hu1]; exact inferInstance
    rw [hu1, hG] at b0
    rw [hu1]
    clear hu1
    have b1 := Blk.new u1 25 #[.int .i64 1, .int .i64 0, .int .i64 3, .int .i64 0, .string ⟨#[]⟩, .slice none 0 0]
    obtain ⟨u2, hu2⟩ : ∃ v, u1.alloc (.cells #[.int .i64 1, .int .i64 0, .int .i64 3, .int .i64 0, .string ⟨#[]⟩, .slice none 0 0] 25) = v := ⟨_, rfl⟩
    have s2 : u2.heap.size = G + 2 := by rw [← hu2, size_alloc_, s1]
    have a2 : After u1 u2 := by rw [← hu2]; exact inferInstance
    rw [hu2, s1] at b1
    rw [hu2]
    clear hu2
    have b2 := Blk.new u2 83 #[.string ⟨#[120]⟩, .int .i64 3, .slice none 0 0]
    obtain ⟨u3, hu3⟩ : ∃ v, u2.alloc (.cells #[.string ⟨#[120]⟩, .int .i64 3, .slice none 0 0] 83) = v := ⟨_, rfl⟩
    have s3 : u3.heap.size = G + 3 := by rw [← hu3, size_alloc_, s2]
    have a3 : After u2 u3 := by rw [← hu3]; exact inferInstance
    rw [hu3, s2] at b2
    rw [hu3]
    clear hu3
    have b3 := Blk.new u3 9 #[.string ⟨#[120]⟩]
    obtain ⟨u4, hu4⟩ : ∃ v, u3.alloc (.cells #[.string ⟨#[120]⟩] 9) = v := ⟨_, rfl⟩
    have s4 : u4.heap.size = G + 4 := by rw [← hu4, size_alloc_, s3]
    have a4 : After u3 u4 := by rw [← hu4]; exact inferInstance
    rw [hu4, s3] at b3
    rw [hu4]
    clear hu4
    have b4 := Blk.new u4 48 #[.slice (some ⟨G + 3, 0, none⟩) 1 1, .int .i64 1, .int .i64 0, .int .i64 3, .int .i64 0, .string ⟨#[]⟩, .slice none 0 0]
    obtain ⟨u5, hu5⟩ : ∃ v, u4.alloc (.cells #[.slice (some ⟨G + 3, 0, none⟩) 1 1, .int .i64 1, .int .i64 0, .int .i64 3, .int .i64 0, .string ⟨#[]⟩, .slice none 0 0] 48) = v := ⟨_, rfl⟩
    have s5 : u5.heap.size = G + 5 := by rw [← hu5, size_alloc_, s4]
    have a5 : After u4 u5 := by rw [← hu5]; exact inferInstance
    rw [hu5, s4] at b4
    rw [hu5]
    clear hu5
    have b5 := Blk.new u5 45 #[.string ⟨#[102]⟩, .slice none 0 0, .slice (some ⟨G + 2, 0, none⟩) 1 1, .slice none 0 0, .slice (some ⟨G + 4, 0, none⟩) 1 1, .slice none 0 0, .slice none 0 0, .slice none 0 0]
    obtain ⟨u6, hu6⟩ : ∃ v, u5.alloc (.cells #[.string ⟨#[102]⟩, .slice none 0 0, .slice (some ⟨G + 2, 0, none⟩) 1 1, .slice none 0 0, .slice (some ⟨G + 4, 0, none⟩) 1 1, .slice none 0 0, .slice none 0 0, .slice none 0 0] 45) = v := ⟨_, rfl⟩
    have s6 : u6.heap.size = G + 6 := by rw [← hu6, size_alloc_, s5]
    have a6 : After u5 u6 := by rw [← hu6]; exact inferInstance
    rw [hu6, s5] at b5
    rw [hu6]
    clear hu6
    have b6 := Blk.new u6 9 #[.string ⟨#[82, 101, 100]⟩, .string ⟨#[71, 114, 101, 101, 110]⟩]
    obtain ⟨u7, hu7⟩ : ∃ v, u6.alloc (.cells #[.string ⟨#[82, 101, 100]⟩, .string ⟨#[71, 114, 101, 101, 110]⟩] 9) = v := ⟨_, rfl⟩
    have s7 : u7.heap.size = G + 7 := by rw [← hu7, size_alloc_, s6]
    have a7 : After u6 u7 := by rw [← hu7]; exact inferInstance
    rw [hu7, s6] at b6
    rw [hu7]
    clear hu7
    have b7 := Blk.new u7 59 #[.string ⟨#[76, 105, 103, 104, 116]⟩, .slice (some ⟨G + 6, 0, none⟩) 2 2]
    obtain ⟨u8, hu8⟩ : ∃ v, u7.alloc (.cells #[.string ⟨#[76, 105, 103, 104, 116]⟩, .slice (some ⟨G + 6, 0, none⟩) 2 2] 59) = v := ⟨_, rfl⟩
    have s8 : u8.heap.size = G + 8 := by rw [← hu8, size_alloc_, s7]
    have a8 : After u7 u8 := by rw [← hu8]; exact inferInstance
    rw [hu8, s7] at b7
    rw [hu8]
    clear hu8
    have b8 := Blk.new u8 45 #[.string ⟨#[102]⟩, .slice none 0 0, .slice (some ⟨G + 2, 0, none⟩) 1 1, .slice none 0 0, .slice (some ⟨G + 4, 0, none⟩) 1 1, .slice none 0 0, .slice none 0 0, .slice none 0 0]
    obtain ⟨u9, hu9⟩ : ∃ v, u8.alloc (.cells #[.string ⟨#[102]⟩, .slice none 0 0, .slice (some ⟨G + 2, 0, none⟩) 1 1, .slice none 0 0, .slice (some ⟨G + 4, 0, none⟩) 1 1, .slice none 0 0, .slice none 0 0, .slice none 0 0] 45) = v := ⟨_, rfl⟩
    have s9 : u9.heap.size = G + 9 := by rw [← hu9, size_alloc_, s8]
    have a9 : After u8 u9 := by rw [← hu9]; exact inferInstance
    rw [hu9, s8] at b8
    rw [hu9]
    clear hu9
    have b0' := b0.after (k := after_after a2 (after_after a3 (after_after a4 (after_after a5 (after_after a6 (after_after a7 (after_after a8 (after_after a9 (after_refl u9)))))))))
    exact ⟨u9, rfl, after_after a1 (after_after a2 (after_after a3 (after_after a4 (after_after a5 (after_after a6 (after_after a7 (after_after a8 (after_after a9 (after_refl u9))))))))), ⟨b2.after (k := after_after a4 (after_after a5 (after_after a6 (after_after a7 (after_after a8 (after_after a9 (after_refl u9))))))), b3.after (k := after_after a5 (after_after a6 (after_after a7 (after_after a8 (after_after a9 (after_refl u9)))))), b4.after (k := after_after a6 (after_after a7 (after_after a8 (after_after a9 (after_refl u9))))), b6.after (k := after_after a8 (after_after a9 (after_refl u9))), b7.after (k := after_after a9 (after_refl u9))⟩, b8.after (k := after_refl u9), (b0'.cell 0).trans rfl, (b0'.cell 1).trans rfl⟩
  have hu9' : (((((((((w.alloc (.cells #[.slice (some ⟨G + 1 + 1 + 1 + 1 + 1 + 1 + 1, 0, none⟩) 1 1, .slice (some ⟨G + 1 + 1 + 1 + 1 + 1 + 1 + 1 + 1, 0, none⟩) 1 1] 32)).alloc (.cells #[.int .i64 1, .int .i64 0, .int .i64 3, .int .i64 0, .string ⟨#[]⟩, .slice none 0 0] 25)).alloc (.cells #[.string ⟨#[120]⟩, .int .i64 3, .slice none 0 0] 83)).alloc (.cells #[.string ⟨#[120]⟩] 9)).alloc (.cells #[.slice (some ⟨G + 1 + 1 + 1, 0, none⟩) 1 1, .int .i64 1, .int .i64 0, .int .i64 3, .int .i64 0, .string ⟨#[]⟩, .slice none 0 0] 48)).alloc (.cells #[.string ⟨#[102]⟩, .slice none 0 0, .slice (some ⟨G + 1 + 1, 0, none⟩) 1 1, .slice none 0 0, .slice (some ⟨G + 1 + 1 + 1 + 1, 0, none⟩) 1 1, .slice none 0 0, .slice none 0 0, .slice none 0 0] 45)).alloc (.cells #[.string ⟨#[82, 101, 100]⟩, .string ⟨#[71, 114, 101, 101, 110]⟩] 9)).alloc (.cells #[.string ⟨#[76, 105, 103, 104, 116]⟩, .slice (some ⟨G + 1 + 1 + 1 + 1 + 1 + 1, 0, none⟩) 2 2] 59)).alloc (.cells #[.string ⟨#[102]⟩, .slice none 0 0, .slice (some ⟨G + 1 + 1, 0, none⟩) 1 1, .slice none 0 0, .slice (some ⟨G + 1 + 1 + 1 + 1, 0, none⟩) 1 1, .slice none 0 0, .slice none 0 0, .slice none 0 0] 45)) = u9 := hu9
  go_enter Try.func20, Try.ntmps20
  go_wp2_with fail
  try rw [hG]
  try rw [hu9']
  exact bodyPost_ret (v := .agg #[.slice (some ⟨G + 7, 0, none⟩) 1 1, .slice (some ⟨G + 8, 0, none⟩) 1 1]) (by simp [results, Try.results20, go_sem, c0, c1]) rfl ⟨rfl, aw, HL, b8_⟩

theorem light_any (w : World) : Calls Try.prog 20 #[] w fun e w' => ∃ G, e = .returned (.agg #[.slice (some ⟨G + 7, 0, none⟩) 1 1, .slice (some ⟨G + 8, 0, none⟩) 1 1]) ∧ After w w' ∧ w.heap.size ≤ G ∧ Light w' G ∧ Blk w' (G + 8) 45 (lightC G) :=
  (light_0 w).mono fun e w' h => ⟨w.heap.size, h.1, h.2.1, Nat.le_refl _, h.2.2⟩

/-! ### rows of the call's own -/
theorem own_of_blk {U : World} {b base : Nat} {T : TypeId} {cs : Array Value} {n sz : Nat} (h : Blk U b T cs) (hb : base ≤ b) (hs : cs.size = n * sz) (hn : n ≤ maxLen) : U.ownsRow base T sz (.slice (some ⟨b, 0, none⟩) n n) n cs.toList :=
  ⟨by simpa using hs, .inr ⟨b, n, cs, rfl, hb, h, Nat.le_refl _, hn, hs, List.take_of_length_le (Nat.le_of_eq (by rw [Array.length_toList, hs]))⟩⟩
theorem RowOf.of_own {α : Type} {sz : Nat} {P : World → Nat → Nat → α → Prop} {cells : α → List Value} (hc : ∀ y, (cells y).length = sz) {w : World} {base : Nat} {T : TypeId} {v : Value} {l : List α} (own : w.ownsRow base T sz v l.length (l.flatMap cells)) (hl : l.length ≤ 140737488355328)
    (hP : ∀ b o y, b < w.heap.size → y ∈ l → (∀ j u, (cells y)[j]? = some u → w.cell? ⟨b, o + j, none⟩ = some u) → P w b o y) : ∃ A c, v = .slice A l.length c ∧ RowOf sz P w ⟨A, c, l⟩ := by
  obtain ⟨A, c, rfl, h1, h2⟩ := own_slice own
  refine ⟨A, c, rfl, ⟨?_, h1, h2, hl⟩⟩
  rcases own.2 with ⟨hv, h0⟩ | ⟨g, cap, cur, hv, hbg, hh, hnc, hcap, hsz, htk⟩
  · exact .inl (List.eq_nil_of_length_eq_zero h0)
  · injection hv with hA
    subst hA
    have hlt : g < w.heap.size := by
      rcases Nat.lt_or_ge g w.heap.size with h' | h'
      · exact h'
      · rw [Array.getElem?_eq_none h'] at hh; cases hh
    refine .inr ⟨g, 0, rfl, hlt, fun i y hy => hP g _ y hlt (List.mem_of_getElem? hy) fun j u hu => ?_⟩
    have hj : j < sz := by rw [← hc y]; exact (List.getElem?_eq_some_iff.1 hu).1
    have key : ∀ (l : List α) (i : Nat), l[i]? = some y → (l.flatMap cells)[i * sz + j]? = some u := by
      intro l
      induction l with
      | nil => intro i h; simp at h
      | cons a l ih =>
        intro i h
        rw [List.flatMap_cons]
        cases i with
        | zero =>
          simp at h
          subst h
          rw [Nat.zero_mul, Nat.zero_add, List.getElem?_append_left (by rw [hc]; exact hj)]
          exact hu
        | succ i =>
          rw [List.getElem?_append_right (by rw [hc, Nat.add_mul]; omega), hc, show (i + 1) * sz + j - sz = i * sz + j by rw [Nat.add_mul]; omega]
          exact ih i (by simpa using h)
    have := own.cells (g := g) rfl (i * sz + j) u (key l i hy)
    rw [Addr.add_lit] at this
    rwa [Nat.zero_add] at this ⊢
theorem RowOf.one {α : Type} {sz : Nat} {P : World → Nat → Nat → α → Prop} {w : World} {b : Nat} {x : α} (hlt : b < w.heap.size) (h : P w b 0 x) : RowOf sz P w ⟨some ⟨b, 0, none⟩, 1, [x]⟩ := by
  refine ⟨.inr ⟨b, 0, rfl, hlt, fun i y hy => ?_⟩, by simp, by simp, by simp⟩
  cases i with
  | zero => simp at hy; subst hy; simpa using h
  | succ i => simp at hy
/-- the program as data -/
def redT : Tx := .mk 1 0 3 0 ⟨#[]⟩ none 0 []
def lightN (G : Nat) : NdD := ⟨⟨#[102]⟩, ⟨none, 0, []⟩, ⟨some ⟨G + 2, 0, none⟩, 1, [⟨⟨#[120]⟩, 3, ⟨none, 0, []⟩⟩]⟩, ⟨none, 0, []⟩, ⟨some ⟨G + 4, 0, none⟩, 1, [⟨⟨some ⟨G + 3, 0, none⟩, 1, [⟨#[120]⟩]⟩, redT⟩]⟩, ⟨none, 0, []⟩, ⟨none, 0, []⟩, ⟨none, 0, []⟩⟩
def lightU (G : Nat) : EnD := ⟨⟨#[76, 105, 103, 104, 116]⟩, ⟨some ⟨G + 6, 0, none⟩, 2, [⟨#[82, 101, 100]⟩, ⟨#[71, 114, 101, 101, 110]⟩]⟩⟩
variable {S : Prop}
theorem redT_rx (w : World) : RX w redT := by
  unfold redT
  rw [RX]
  exact ⟨by decide, by decide, by decide, by decide, .inl rfl⟩
theorem redT_tb : TxB redT := by
  intro x hx
  simp only [redT, Tx.list, Tx.lists, List.mem_cons, List.not_mem_nil, or_false] at hx
  subst hx
  decide
theorem light_decl {U : World} {G : Nat} (h : Light U G) : PDecl U (G + 2) 0 ⟨⟨#[120]⟩, 3, ⟨none, 0, []⟩⟩ :=
  ⟨by decide, by rw [h.b2.cell]; rfl, by rw [h.b2.cell]; rfl, by rw [h.b2.cell]; rfl, by decide, RowOf.nil U⟩
theorem light_eq {U : World} {G : Nat} (h : Light U G) : PEq S U (G + 4) 0 ⟨⟨some ⟨G + 3, 0, none⟩, 1, [⟨#[120]⟩]⟩, redT⟩ :=
  ⟨redT_tb, fun _ => (by decide : redT.size ≤ 2000000), by rw [h.b4.cell]; rfl, ⟨by rw [h.b4.cell]; rfl, by rw [h.b4.cell]; rfl, by rw [h.b4.cell]; rfl, by rw [h.b4.cell]; rfl, by rw [h.b4.cell]; rfl, by rw [h.b4.cell]; rfl⟩, RowOf.one h.b3.lt ⟨by rw [h.b3.cell]; rfl, by decide⟩, redT_rx U⟩
/-- a node whose parts are light's, wherever it lies -/
theorem light_node {U : World} {G b o : Nat} (h : Light U G) (c : ∀ j u, ([.string ⟨#[102]⟩, .slice none 0 0, .slice (some ⟨G + 2, 0, none⟩) 1 1, .slice none 0 0, .slice (some ⟨G + 4, 0, none⟩) 1 1, .slice none 0 0, .slice none 0 0, .slice none 0 0] : List Value)[j]? = some u → U.cell? ⟨b, o + j, none⟩ = some u) : PNd S U b o (lightN G) :=
  ⟨c 0 _ rfl, c 1 _ rfl, c 2 _ rfl, c 3 _ rfl, c 4 _ rfl, c 5 _ rfl, c 6 _ rfl, c 7 _ rfl, (by decide : ByteArray.size ⟨#[102]⟩ ≤ 140737488355328), RowOf.nil U, RowOf.one h.b2.lt (light_decl h), RowOf.nil U, RowOf.one h.b4.lt (light_eq h), RowOf.nil U, RowOf.nil U, RowOf.nil U⟩
theorem light_nodes {U : World} {G : Nat} (h : Light U G) (h8 : Blk U (G + 8) 45 (lightC G)) : RowOf 8 (PNd S) U ⟨some ⟨G + 8, 0, none⟩, 1, [lightN G]⟩ :=
  RowOf.one h8.lt (light_node h fun j u hu => by rw [h8.cell, Nat.zero_add, ← Array.getElem?_toList]; exact hu)
theorem light_tags {U : World} {G : Nat} (h : Light U G) : RowOf 1 PStr U ⟨some ⟨G + 6, 0, none⟩, 2, [⟨#[82, 101, 100]⟩, ⟨#[71, 114, 101, 101, 110]⟩]⟩ := by
  refine ⟨.inr ⟨_, 0, rfl, h.b6.lt, fun i y hy => ?_⟩, by simp, by simp, by simp⟩
  match i, hy with
  | 0, hy => simp at hy; subst hy; exact ⟨by rw [h.b6.cell]; rfl, by decide⟩
  | 1, hy => simp at hy; subst hy; exact ⟨by rw [h.b6.cell]; rfl, by decide⟩
  | i + 2, hy => simp at hy
theorem light_enum {U : World} {G : Nat} (h : Light U G) : PEn U (G + 7) 0 (lightU G) :=
  ⟨by rw [h.b7.cell]; rfl, by rw [h.b7.cell]; rfl, (by decide : ByteArray.size ⟨#[76, 105, 103, 104, 116]⟩ ≤ 140737488355328), light_tags h⟩
theorem light_enums {U : World} {G : Nat} (h : Light U G) : RowOf 2 PEn U ⟨some ⟨G + 7, 0, none⟩, 1, [lightU G]⟩ := RowOf.one h.b7.lt (light_enum h)
end Go.Proofs.Ytdghfhnkacfahaa
