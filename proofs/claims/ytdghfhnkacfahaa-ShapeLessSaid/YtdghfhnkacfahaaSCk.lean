/-
  Contracts: shape's Check: the deferred function that recovers.
-/
import Derived.Test.YtdghfhnkacfahaaSNd
import Derived.Defers
import Derived.Recover
set_option linter.unusedVariables false
set_option linter.unusedSimpArgs false
namespace Go.Proofs.Ytdghfhnkacfahaa
open Go.RowKit Go.BigFrame

theorem as_nil (w : World) : (Instr.typeAssert Value.nilIface 20 69 true).run Try.prog w = .ok (.tuple #[.agg #[.int .i64 0, .int .i64 0, .int .i64 0], .bool false]) w := by kernel_rfl
theorem as_yes (v : Value) (w : World) : (Instr.typeAssert (Value.iface 69 v) 20 69 true).run Try.prog w = .ok (.tuple #[v, .bool true]) w := by kernel_rfl
theorem tmps_lit (p q a b c d e f g : Value) : #[p, q] ++ (((((((Array.replicate 12 undef).setIfInBounds 3 a).setIfInBounds 4 b).setIfInBounds 2 c).setIfInBounds 5 d).setIfInBounds 6 e).setIfInBounds 0 f).setIfInBounds 1 g = #[p, q, f, g, c, a, b, d, e, undef, undef, undef, undef, undef] := by kernel_rfl
set_option maxRecDepth 100000 in
theorem catch_idle (p q : Addr) (w : World) :
    CallsD Try.prog 32 #[.pointer (some p), .pointer (some q)] .returning w fun e u' w' => e = .returned (.tuple #[]) ∧ u' = .returning ∧ After w w' := by
  refine callsD_of_wpS Try.func32 rfl fun c₀ cs hu => ?_
  apply wpS_seq
  apply wpS_region
  simp [wpOpsS, go_sem, recoverD, hu, as_nil, as_yes, Try.ntmps32, Exit.thenS]
  refine wpS_of_wp ?_
  rw [tmps_lit]
  go_wp2_with fail
  exact ⟨rfl, _, by cases c₀; simp_all, .tuple #[], by simp [results, Try.results32, go_sem], rfl, rfl, inferInstance⟩
set_option maxRecDepth 100000 in
theorem catch_pan (g1 g2 : Nat) (nd q E : Int) (w0 w : World) (hw : After w0 w) (h1 : w0.heap.size ≤ g1) (h2 : w0.heap.size ≤ g2) {v1 v2 v3 : Value} (b1 : Blk w g1 35 #[v1, v2]) (b2 : Blk w g2 26 #[v3]) (hne : g1 ≠ g2) (older : List PanicEntry) :
    CallsD Try.prog 32 #[.pointer (some ⟨g1, 0, none⟩), .pointer (some ⟨g2, 0, none⟩)] (.panicking ({ v := .iface 69 (.agg #[.int .i64 nd, .int .i64 q, .int .i64 E]), recovered := false } :: older)) w fun e u' w' => e = .returned (.tuple #[]) ∧ u' = .panicking ({ v := .iface 69 (.agg #[.int .i64 nd, .int .i64 q, .int .i64 E]), recovered := true } :: older) ∧ After w0 w' ∧ Blk w' g1 35 #[.int .i64 nd, .int .i64 q] ∧ Blk w' g2 26 #[.int .i64 E] := by
  refine callsD_of_wpS Try.func32 rfl fun c₀ cs hu => ?_
  apply wpS_seq
  apply wpS_region
  simp [wpOpsS, go_sem, recoverD, hu, as_nil, as_yes, Try.ntmps32, Exit.thenS]
  refine wpS_of_wp ?_
  rw [tmps_lit]
  have e1 := Blk.lt b1
  have e2 := Blk.lt b2
  have x0 := Blk.new w 69 #[.int .i64 nd, .int .i64 q, .int .i64 E]
  obtain ⟨W, hW, aW, bW1, bW2⟩ : ∃ W, w.alloc (.cells #[.int .i64 nd, .int .i64 q, .int .i64 E] 69) = W ∧ After w0 W ∧ Blk W g1 35 #[v1, v2] ∧ Blk W g2 26 #[v3] := ⟨_, rfl, inferInstance, b1.alloc _, b2.alloc _⟩
  rw [hW] at x0
  rw [hW]
  obtain ⟨g, hg⟩ : ∃ g, w.heap.size = g := ⟨_, rfl⟩
  rw [hg] at x0 e1 e2 ⊢
  have k0 : W.cell? ⟨g, 0, none⟩ = some (.int .i64 nd) := by rw [x0.cell]; rfl
  have k1 : W.cell? ⟨g, 1, none⟩ = some (.int .i64 q) := by rw [x0.cell]; rfl
  have k2 : W.cell? ⟨g, 2, none⟩ = some (.int .i64 E) := by rw [x0.cell]; rfl
  have f1 := bW1.frozen 0
  have p1 : W.cell? ⟨g1, 0, none⟩ = some v1 := by rw [bW1.cell]; rfl
  have p2 : W.cell? ⟨g1, 1, none⟩ = some v2 := by rw [bW1.cell]; rfl
  have p3 : W.cell? ⟨g2, 0, none⟩ = some v3 := by rw [bW2.cell]; rfl
  have f2 := bW1.frozen 1
  have f3 := bW2.frozen 0
  have l1 := bW1.is_le
  have l2 := bW2.is_le
  have l3 := x0.is_le
  have n1 : New w0 g1 := ⟨h1⟩
  have n2 : New w0 g2 := ⟨h2⟩
  have m1 : Ne' g g1 := ⟨by omega⟩
  have m2 : Ne' g g2 := ⟨by omega⟩
  have m3 : Ne' g2 g1 := ⟨by omega⟩
  have m4 : Ne' g1 g2 := ⟨hne⟩
  have HR1 := Lib.hid ((((bW1.set_ 0 (.int .i64 nd)).set_ 1 (.int .i64 q)).far (p := ⟨g2, 0, none⟩) hne (.int .i64 E)))
  have HR2 := Lib.hid ((((bW2.far (p := ⟨g1, 0, none⟩) (Ne.symm hne) (.int .i64 nd)).far (p := ⟨g1, 1, none⟩) (Ne.symm hne) (.int .i64 q))).set_ 0 (.int .i64 E))
  clear hW hg x0 e1 e2 b1 b2 bW1 bW2 hw w
  go_wp2_with fail
  go_region
  exact ⟨rfl, _, rfl, .tuple #[], by simp [results, Try.results32, go_sem], rfl, rfl, inferInstance, HR1.out, HR2.out⟩
/-- the first error of a program ahead of its nodes -/
def preE (en : List EnD) (ns : List NdD) : Int := ore (limE (decide ((en.length : Int) ≤ 24) && decide ((ns.length : Int) ≤ 96)) 3) (firstE enumE en)
/-- the first error of nodes and its place, from index i on -/
noncomputable def nodesV (en : List EnD) : List NdD → Nat → Int × Int × Int
  | [], _ => (0, 0, 0)
  | n :: l, i => if nodeE en n = 0 then nodesV en l (i + 1) else ((i : Int), nodeQ en n, nodeE en n)
noncomputable def checkV (en : List EnD) (ns : List NdD) : Int × Int × Int := if preE en ns = 0 then nodesV en ns 0 else (-1, -1, preE en ns)
theorem nodesV_at (en : List EnD) : ∀ {l : List NdD} {j : Nat} {x : NdD} (k : Nat), l[j]? = some x → firstE (nodeE en) (l.take j) = 0 → nodeE en x ≠ 0 → nodesV en l k = (((k + j : Nat) : Int), nodeQ en x, nodeE en x)
  | [], j, x, k, h, _, _ => by simp at h
  | a :: l, 0, x, k, h, _, hx => by
    simp at h
    subst h
    rw [nodesV, if_neg hx]; rfl
  | a :: l, j + 1, x, k, h, h0, hx => by
    rw [List.take_succ_cons, firstE] at h0
    have ha : nodeE en a = 0 := by
      by_cases h : nodeE en a = 0
      · exact h
      · rw [ore_no h] at h0; exact absurd h0 h
    rw [ore_yes ha] at h0
    rw [nodesV, if_pos ha, nodesV_at en (k + 1) (by simpa using h) h0 hx]
    congr 1; omega
theorem nodesV_none (en : List EnD) : ∀ (l : List NdD) (k : Nat), firstE (nodeE en) l = 0 → nodesV en l k = (0, 0, 0)
  | [], _, _ => rfl
  | a :: l, k, h0 => by
    rw [firstE] at h0
    have ha : nodeE en a = 0 := by
      by_cases h : nodeE en a = 0
      · exact h
      · rw [ore_no h] at h0; exact absurd h0 h
    rw [ore_yes ha] at h0
    rw [nodesV, if_pos ha, nodesV_none en l (k + 1) h0]
/-- the worlds in which Check ends by an error -/
structure PF (w : World) (g2 g3 : Nat) (V : Int × Int × Int) (nd q F : Int) (U : World) : Prop where
  aft : After w U
  b2 : Blk U g2 35 #[.int .i64 0, .int .i64 0]
  b3 : Blk U g3 26 #[.int .i64 0]
  v : V = (nd, q, F)
def doorQ (w : World) (V : Int × Int × Int) : Ending → World → Prop := fun e w' => e = .returned (.tuple #[.agg #[.int .i64 V.1, .int .i64 V.2.1], .int .i64 V.2.2]) ∧ After w w'
set_option maxRecDepth 100000 in
theorem door_pan {w : World} {g2 g3 : Nat} {V : Int × Int × Int} {nd q F : Int} {U : World} {tm : Array Value} (h : PF w g2 g3 V nd q F U) (hn : w.heap.size ≤ g2 ∧ w.heap.size ≤ g3 ∧ g2 ≠ g3) (t2 : tm[2]? = some (.pointer (some ⟨g2, 0, none⟩))) (t3 : tm[3]? = some (.pointer (some ⟨g3, 0, none⟩))) :
    bodyPostD Try.prog Try.f13 (fun e w' => e = .returned (.tuple #[.agg #[.int .i64 V.1, .int .i64 V.2.1], .int .i64 V.2.2]) ∧ After w w') (Exit.panic [{ v := .iface 69 (.agg #[.int .i64 nd, .int .i64 q, .int .i64 F]), recovered := false }]) { tmps := tm, defers := [{ target := Target.fn (Fn.func 32) #[.pointer (some ⟨g2, 0, none⟩), .pointer (some ⟨g3, 0, none⟩)], args := #[] }] } U := by
  refine leaves_cons (f := 32) (args := #[.pointer (some ⟨g2, 0, none⟩), .pointer (some ⟨g3, 0, none⟩)]) (by simp) (by simp [go_sem]) ?_
  refine (catch_pan g2 g3 nd q F w U h.aft hn.1 hn.2.1 h.b2 h.b3 hn.2.2 []).mono ?_
  rintro e u' w'' ⟨rfl, rfl, a1, c1, c2⟩
  have y1 : w''.cell? ⟨g2, 0, none⟩ = some (.int .i64 nd) := by rw [c1.cell]; rfl
  have y2 : w''.cell? ⟨g2, 1, none⟩ = some (.int .i64 q) := by rw [c1.cell]; rfl
  have y3 : w''.cell? ⟨g3, 0, none⟩ = some (.int .i64 F) := by rw [c2.cell]; rfl
  have hv := h.v
  subst hv
  simp [Leaves, settle, results, Try.results13, go_sem, t2, t3, y1, y2, y3, a1]
set_option maxRecDepth 100000 in
theorem door_ret {w : World} {g2 g3 : Nat} {V : Int × Int × Int} {nd q F : Int} {U : World} {tm : Array Value} (h : PF w g2 g3 V nd q F U) (hn : w.heap.size ≤ g2 ∧ w.heap.size ≤ g3 ∧ g2 ≠ g3) (t2 : tm[2]? = some (.pointer (some ⟨g2, 0, none⟩))) (t3 : tm[3]? = some (.pointer (some ⟨g3, 0, none⟩))) (U2 : World) (a2 : After w U2) (y1 : U2.cell? ⟨g2, 0, none⟩ = some (.int .i64 V.1)) (y2 : U2.cell? ⟨g2, 1, none⟩ = some (.int .i64 V.2.1)) (y3 : U2.cell? ⟨g3, 0, none⟩ = some (.int .i64 V.2.2)) (l2 : Le (g2 + 1) U2) (l3 : Le (g3 + 1) U2) :
    bodyPostD Try.prog Try.f13 (fun e w' => e = .returned (.tuple #[.agg #[.int .i64 V.1, .int .i64 V.2.1], .int .i64 V.2.2]) ∧ After w w') Exit.ret { tmps := tm, defers := [{ target := Target.fn (Fn.func 32) #[.pointer (some ⟨g2, 0, none⟩), .pointer (some ⟨g3, 0, none⟩)], args := #[] }] } U2 := by
  refine leaves_cons (f := 32) (args := #[.pointer (some ⟨g2, 0, none⟩), .pointer (some ⟨g3, 0, none⟩)]) (by simp) (by simp [go_sem]) ?_
  refine (catch_idle ⟨g2, 0, none⟩ ⟨g3, 0, none⟩ _).mono ?_
  rintro e u' w'' ⟨rfl, rfl, a1⟩
  obtain ⟨z, rfl⟩ := @After.is_more _ _ a1
  simp [Leaves, settle, results, Try.results13, go_sem, t2, t3, y1, y2, y3]
  exact after_after a2 a1
set_option maxRecDepth 100000 in
set_option maxHeartbeats 6400000 in
theorem pcheck_any {w0 : World} {eA nA : Option Addr} {ec nc : Nat} {el : List EnD} {nl : List NdD} (hen : RowOf 2 PEn w0 ⟨eA, ec, el⟩) (hnd : RowOf 8 (PNd False) w0 ⟨nA, nc, nl⟩) (w : World) (hw : After w0 w) :
    Calls Try.prog 13 #[.agg #[.slice eA el.length ec, .slice nA nl.length nc]] w fun e w' => e = .returned (.tuple #[.agg #[.int .i64 (checkV el nl).1, .int .i64 (checkV el nl).2.1], .int .i64 (checkV el nl).2.2]) ∧ After w w' := by
  have hmf : ∀ (fn : Fn) (first cap : Array Value) (w : World), (Instr.makeFunc fn first cap).run Try.prog w = .ok (.func fn first cap) w := fun _ _ _ _ => rfl
  obtain ⟨V, hV⟩ : ∃ V, checkV el nl = V := ⟨_, rfl⟩
  rw [hV]
  obtain ⟨R, hR⟩ : ∃ R, preE el nl = R := ⟨_, rfl⟩
  have HVV : Hid (R ≠ 0 → V = (-1, -1, R)) := fun h => by rw [← hV, checkV, hR, if_neg h]
  have HVN : Hid (R = 0 → V = nodesV el nl 0) := fun h => by rw [← hV, checkV, hR, if_pos h]
  have HV0 : Hid (R = ore (limE (decide ((el.length : Int) ≤ 24) && decide ((nl.length : Int) ≤ 96)) 3) (ore (firstE enumE el) 0)) := by
    show _ = _
    rw [← hR, ore_zero]; rfl
  have hle1 := hen.len
  have hle2 := hnd.len
  simp only [] at hle1 hle2
  have HEN := Lib.hid hen
  have HND := Lib.hid hnd
  clear hV hR hen hnd
  obtain ⟨g0, hg0⟩ : ∃ g, w.heap.size = g := ⟨_, rfl⟩
  obtain ⟨W4, hW4, a4, q1, q2, q3, q4⟩ : ∃ W, (((w.alloc (.cells #[.slice eA el.length ec, .slice nA nl.length nc] 32)).alloc (.cells #[.int .i64 0, .int .i64 0] 35)).alloc (.cells #[.int .i64 0] 26)).alloc (.cells #[.slice eA el.length ec, .int .i64 (-1), .int .i64 (-1)] 73) = W ∧ After w W ∧ Blk W g0 32 #[.slice eA el.length ec, .slice nA nl.length nc] ∧ Blk W (g0 + 1) 35 #[.int .i64 0, .int .i64 0] ∧ Blk W (g0 + 1 + 1) 26 #[.int .i64 0] ∧ Look W (g0 + 1 + 1 + 1) eA el.length ec (-1) (-1) := by
    have b0 := Blk.new w 32 #[.slice eA el.length ec, .slice nA nl.length nc]
    obtain ⟨w1, hw1⟩ : ∃ v, w.alloc (.cells #[.slice eA el.length ec, .slice nA nl.length nc] 32) = v := ⟨_, rfl⟩
    have s1 : w1.heap.size = g0 + 1 := by rw [← hw1, size_alloc_, hg0]
    have a1 : After w w1 := by rw [← hw1]; exact inferInstance
    rw [hw1, hg0] at b0
    rw [hw1]
    have b1 := Blk.new w1 35 #[.int .i64 0, .int .i64 0]
    obtain ⟨w2, hw2⟩ : ∃ v, w1.alloc (.cells #[.int .i64 0, .int .i64 0] 35) = v := ⟨_, rfl⟩
    have s2 : w2.heap.size = g0 + 1 + 1 := by rw [← hw2, size_alloc_, s1]
    have a2 : After w1 w2 := by rw [← hw2]; exact inferInstance
    rw [hw2, s1] at b1
    rw [hw2]
    have b2 := Blk.new w2 26 #[.int .i64 0]
    obtain ⟨w3, hw3⟩ : ∃ v, w2.alloc (.cells #[.int .i64 0] 26) = v := ⟨_, rfl⟩
    have s3 : w3.heap.size = g0 + 1 + 1 + 1 := by rw [← hw3, size_alloc_, s2]
    have a3 : After w2 w3 := by rw [← hw3]; exact inferInstance
    rw [hw3, s2] at b2
    rw [hw3]
    have b3 := Blk.new w3 73 #[.slice eA el.length ec, .int .i64 (-1), .int .i64 (-1)]
    rw [s3] at b3
    exact ⟨_, rfl, after_after a1 (after_after a2 (after_after a3 inferInstance)), b0.after (k := after_after a2 (after_after a3 inferInstance)), b1.after (k := after_after a3 inferInstance), b2.after (k := inferInstance), b3⟩
  have a04 : After w0 W4 := after_after hw a4
  have hgl : w.heap.size ≤ g0 := Nat.le_of_eq hg0
  have HPF : Hid (∀ U, Bex (g0 + 1 + 1 + 1) W4 U → ∀ nd q F, V = (nd, q, F) → PF w (g0 + 1) (g0 + 1 + 1) V nd q F U) := fun U hU nd q F h => ⟨hU.after a4 (by omega), hU.blk q2 (by omega), hU.blk q3 (by omega), h⟩
  have HKX : Hid (∀ U, Bex (g0 + 1 + 1 + 1) W4 U → U.cell? ⟨g0, 0, none⟩ = some (.slice eA el.length ec) ∧ U.cell? ⟨g0, 1, none⟩ = some (.slice nA nl.length nc) ∧ Le (g0 + 1) U) := fun U hU => by
    have y0 := hU.blk q1 (by omega)
    exact ⟨by rw [y0.cell]; rfl, by rw [y0.cell]; rfl, y0.is_le⟩
  have HK : Hid (∀ U, After W4 U → U.cell? ⟨g0, 0, none⟩ = some (.slice eA el.length ec) ∧ U.cell? ⟨g0, 1, none⟩ = some (.slice nA nl.length nc) ∧ Le (g0 + 1) U) := fun U hU => HKX.out U (Bex.of hU)
  have HM : Hid (∀ b e, e ≠ 0 → ∀ U, After W4 U → Calls Try.prog 33 #[.pointer (some ⟨g0 + 1 + 1 + 1, 0, none⟩), .bool b, .int .i64 e] U fun e' w' => PE U (-1) (-1) (limE b e) e' w') := fun b e he U hU => must_any (q4.here U (k := hU)) b e he
  have HU : Hid (∀ (s : ByteArray) (A : Option Addr) (c : Nat) (l : List ByteArray), s.size ≤ 140737488355328 → RowOf 1 PStr W4 ⟨A, c, l⟩ → ∀ U, After W4 U → Calls Try.prog 34 #[.pointer (some ⟨g0 + 1 + 1 + 1, 0, none⟩), .agg #[.string s, .slice A l.length c]] U fun e w' => PE U (-1) (-1) (enumE ⟨s, A, c, l⟩) e w') := fun s A c l hs hr U hU => lenum_any q4 s hs ⟨A, c, l⟩ hr U hU
  have HLK := Lib.hid q4
  clear q1 q2 q3 q4
  obtain ⟨k0, k1, kl⟩ := HK.out W4 (after_refl _)
  have n2 : New w (g0 + 1) := ⟨by omega⟩
  have n3 : New w (g0 + 1 + 1) := ⟨by omega⟩
  have dBW4 := after_refl W4
  go_enter_defers Try.func13, Try.ntmps13
  by_cases hc0 : (el.length : Int) ≤ 24
  rotate_left
  · replace HV0 : Hid (R = ore (limE false 3) (ore (firstE enumE el) 0)) := by show _ = _; rw [HV0.out, decide_eq_false hc0]; simp only [Bool.false_and, Bool.and_false]
    have hn0 : ¬ el.length ≤ 24 := by omega
    go_wp2_with fail
    try rw [hg0]
    try rw [hW4]
    clear hW4 hg0
    refine (HM.out _ 3 (by decide) W4 (after_after (after_refl W4) (after_refl W4))).mono ?_
    rintro e w2 hp
    replace hp := hp.to (F := limE false 3) (by first | rfl | exact congrArg (fun b => limE b 3) (decide_eq_false (by omega)))
    by_cases hE : limE false 3 = 0
    rotate_left
    · obtain ⟨F, hF, HP⟩ : ∃ F, e = pan (-1) (-1) F ∧ Hid (PF w (g0 + 1) (g0 + 1 + 1) V (-1) (-1) F w2) := by
        obtain ⟨rfl, c2_⟩ := hp.of1 hE
        have HX : Hid (R = limE false 3) := Lib.hid (HV0.out.trans (ore_no hE))
        have HE : Hid (R = limE false 3) := HX
        exact ⟨_, rfl, Lib.hid (HPF.out _ (Bex.of (after_after (after_refl W4) c2_)) _ _ _ (by rw [HVV.out (by rw [HE.out]; exact hE), HE.out]))⟩
      clear hE hp
      subst hF
      unfold pan
      go_wp2_with fail
      exact door_pan HP.out ⟨by omega, by omega, by omega⟩ rfl rfl
    exact absurd hE (by decide)
  have hn0 : el.length ≤ 24 := by omega
  by_cases hc1 : (nl.length : Int) ≤ 96
  rotate_left
  · replace HV0 : Hid (R = ore (limE false 3) (ore (firstE enumE el) 0)) := by show _ = _; rw [HV0.out, decide_eq_true hc0, decide_eq_false hc1]; simp only [Bool.false_and, Bool.and_false]
    have hn1 : ¬ nl.length ≤ 96 := by omega
    go_wp2_with fail
    try rw [hg0]
    try rw [hW4]
    clear hW4 hg0
    refine (HM.out _ 3 (by decide) W4 (after_after (after_refl W4) (after_refl W4))).mono ?_
    rintro e w3 hp
    replace hp := hp.to (F := limE false 3) (by first | rfl | exact congrArg (fun b => limE b 3) (decide_eq_false (by omega)))
    by_cases hE : limE false 3 = 0
    rotate_left
    · obtain ⟨F, hF, HP⟩ : ∃ F, e = pan (-1) (-1) F ∧ Hid (PF w (g0 + 1) (g0 + 1 + 1) V (-1) (-1) F w3) := by
        obtain ⟨rfl, c3_⟩ := hp.of1 hE
        have HX : Hid (R = limE false 3) := Lib.hid (HV0.out.trans (ore_no hE))
        have HE : Hid (R = limE false 3) := HX
        exact ⟨_, rfl, Lib.hid (HPF.out _ (Bex.of (after_after (after_refl W4) c3_)) _ _ _ (by rw [HVV.out (by rw [HE.out]; exact hE), HE.out]))⟩
      clear hE hp
      subst hF
      unfold pan
      go_wp2_with fail
      exact door_pan HP.out ⟨by omega, by omega, by omega⟩ rfl rfl
    exact absurd hE (by decide)
  have hn1 : nl.length ≤ 96 := by omega
  replace HV0 : Hid (R = ore (limE true 3) (ore (firstE enumE el) 0)) := by show _ = _; rw [HV0.out, decide_eq_true hc0, decide_eq_true hc1]; rfl
  go_wp2_with fail
  try rw [hg0]
  try rw [hW4]
  clear hW4 hg0
  refine (HM.out _ 3 (by decide) W4 (after_after (after_refl W4) (after_refl W4))).mono ?_
  rintro e w4 hp
  replace hp := hp.to (F := limE true 3) (by first | rfl | exact congrArg (fun b => limE b 3) (decide_eq_true (by omega)))
  by_cases hE : limE true 3 = 0
  rotate_left
  · obtain ⟨F, hF, HP⟩ : ∃ F, e = pan (-1) (-1) F ∧ Hid (PF w (g0 + 1) (g0 + 1 + 1) V (-1) (-1) F w4) := by
      obtain ⟨rfl, c4_⟩ := hp.of1 hE
      have HX : Hid (R = limE true 3) := Lib.hid (HV0.out.trans (ore_no hE))
      have HE : Hid (R = limE true 3) := HX
      exact ⟨_, rfl, Lib.hid (HPF.out _ (Bex.of (after_after (after_refl W4) c4_)) _ _ _ (by rw [HVV.out (by rw [HE.out]; exact hE), HE.out]))⟩
    clear hE hp
    subst hF
    unfold pan
    go_wp2_with fail
    exact door_pan HP.out ⟨by omega, by omega, by omega⟩ rfl rfl
  replace HV0 := Lib.hid (HV0.out.trans (ore_yes hE))
  obtain ⟨rfl, c4_⟩ := hp.ofz hE
  have d4 : After W4 w4 := after_after (after_refl W4) c4_
  have b4 : After W4 w4 := after_after (after_refl W4) c4_
  clear k0 k1 kl
  obtain ⟨k0, k1, kl⟩ := HK.out w4 (b4)
  clear hE hp
  clear hc0 hn0 hc1 hn1
  go_wp2_with fail
  go_loopw [30] (fun i wr => ∃ j : Nat, j ≤ el.length ∧ i = .int .i64 (j : Nat) ∧ Hid (firstE enumE (el.take j) = 0) ∧ After W4 wr) (fun i _ => el.length - (intOf i).toNat)
  case atStart => exact ⟨0, by omega, rfl, Lib.hid (by simp [firstE]), b4⟩
  case round =>
    obtain ⟨j, hj, rfl, HJj, arj⟩ := hrel
    have drj : After W4 wr := after_after dBW4 arj
    obtain ⟨rj, hrj⟩ : ∃ r, wr = r := ⟨_, rfl⟩
    rw [hrj] at arj drj ⊢
    clear hrj wr
    clear k0 k1 kl
    obtain ⟨k0, k1, kl⟩ := HK.out rj (arj)
    by_cases hltj : j < el.length
    · have hltjI : (j : Int) < (el.length : Int) := by omega
      obtain ⟨bj, pj, yj, rfl, hlej, HYj, hPj⟩ := ((HEN.out.enums W4 (k := a04)).enums rj (k := after_after (after_refl W4) drj)).part (i := j) hltj
      obtain ⟨nm, tA, tc, tl⟩ := yj
      obtain ⟨_, _, HPj_⟩ := (HEN.out.enums W4 (k := a04)).elem (i := j) HYj.out
      have HPj := Lib.hid HPj_
      obtain ⟨z0, z1⟩ : rj.cell? ⟨bj, pj + j * 2, none⟩ = some (.string nm) ∧ rj.cell? ⟨bj, pj + j * 2 + 1, none⟩ = some (.slice tA tl.length tc) := ⟨hPj.c0, hPj.c1⟩
      clear HPj_ hPj
      have HS1 : Hid ((enumE ⟨nm, tA, tc, tl⟩) ≠ 0 → R = (enumE ⟨nm, tA, tc, tl⟩)) := Lib.hid fun h => by
        have h1 := firstE_stop enumE HYj.out HJj.out h
        have h2 : R = (enumE ⟨nm, tA, tc, tl⟩) := HV0.out.trans ((ore_no (by rw [h1]; exact h)).trans h1)
        exact h2
      have HV1 : Hid ((enumE ⟨nm, tA, tc, tl⟩) = ore (enumE ⟨nm, tA, tc, tl⟩) 0) := Lib.hid (ore_zero _).symm
      have HNj : Hid ((enumE ⟨nm, tA, tc, tl⟩) = 0 → firstE enumE (el.take (j + 1)) = 0) := Lib.hid fun h => (firstE_take enumE HYj.out HJj.out).trans h
      obtain ⟨X1, hX_⟩ : ∃ X, X = (enumE ⟨nm, tA, tc, tl⟩) := ⟨_, rfl⟩
      replace HV1 := Lib.hid (hX_.trans HV1.out)
      rw [← hX_] at HS1 HNj
      clear hX_
      obtain ⟨g5, hg5⟩ : ∃ g, rj.heap.size = g := ⟨_, rfl⟩
      obtain ⟨W5, hW5, HK5, a5_⟩ : ∃ W, rj.alloc (.cells #[.string nm, .slice tA tl.length tc] 59) = W ∧ Hid (∀ U : World, After W U → U.cell? ⟨g5, 0, none⟩ = some (.string nm) ∧ U.cell? ⟨g5, 1, none⟩ = some (.slice tA tl.length tc) ∧ Le (g5 + 1) U ∧ U.cell? ⟨g0, 0, none⟩ = some (.slice (some ⟨bj, pj, none⟩) el.length ec) ∧ U.cell? ⟨g0, 1, none⟩ = some (.slice nA nl.length nc) ∧ Le (g0 + 1) U) ∧ After rj W := by
        refine ⟨_, rfl, fun U hU => ?_, inferInstance⟩
        have y0 := (Blk.new rj 59 #[.string nm, .slice tA tl.length tc]).after (w' := U)
        rw [hg5] at y0
        have q0 : After W4 U := after_after (after_refl W4) (after_after drj (after_after inferInstance hU))
        have q1 : After W4 U := after_after (arj) (after_after inferInstance hU)
        exact ⟨by rw [y0.cell]; rfl, by rw [y0.cell]; rfl, y0.is_le, (HK.out U q0).1, (HK.out U q0).2.1, (HK.out U q0).2.2⟩
      have d5 : After W4 W5 := after_after drj a5_
      obtain ⟨f0, f1, m5_, o0_, o1_, o2_⟩ := HK5.out W5 (after_refl _)
      go_wp2_with fail
      try rw [hW5]
      try rw [hg5]
      clear hW5 hg5
      clear k0 k1 kl
      obtain ⟨_, _, _, k0, k1, kl⟩ := HK5.out W5 (after_refl _)
      clear o0_ o1_ o2_
      refine (HU.out nm tA tc tl HPj.out.nm HPj.out.tg W5 (after_after (after_refl W4) d5)).mono ?_
      rintro e w6 hp
      by_cases hE : enumE ⟨nm, tA, tc, tl⟩ = 0
      rotate_left
      · obtain ⟨F, hF, HP⟩ : ∃ F, e = pan (-1) (-1) F ∧ Hid (PF w (g0 + 1) (g0 + 1 + 1) V (-1) (-1) F w6) := by
          obtain ⟨rfl, c6_⟩ := hp.of1 hE
          have HX : Hid (X1 = enumE ⟨nm, tA, tc, tl⟩) := Lib.hid (HV1.out.trans (ore_no hE))
          have HE : Hid (R = enumE ⟨nm, tA, tc, tl⟩) := Lib.hid ((HS1.out (by rw [HX.out]; exact hE)).trans HX.out)
          exact ⟨_, rfl, Lib.hid (HPF.out _ (Bex.of (after_after d5 c6_)) _ _ _ (by rw [HVV.out (by rw [HE.out]; exact hE), HE.out]))⟩
        clear hE hp
        subst hF
        unfold pan
        go_wp2_with fail
        exact door_pan HP.out ⟨by omega, by omega, by omega⟩ rfl rfl
      replace HV1 := Lib.hid (HV1.out.trans (ore_yes hE))
      obtain ⟨rfl, c6_⟩ := hp.ofz hE
      have d6 : After W4 w6 := after_after d5 c6_
      have b6 : After W5 w6 := after_after (after_refl W5) c6_
      clear f0 f1 m5_ k0 k1 kl
      obtain ⟨f0, f1, m5_, k0, k1, kl⟩ := HK5.out w6 (b6)
      clear hE hp
      go_wp2_with fail
      go_roundw
      case rel => exact ⟨j + 1, by omega, by go_num, Lib.hid (HNj.out HV1.out), after_after (arj) (after_after a5_ (b6))⟩
      case measure => simp only [intOf]; omega
    · replace HV0 := Lib.hid (HV0.out.trans (ore_yes (firstE_all enumE hltj HJj.out)))
      replace HVN := Lib.hid (HVN.out HV0.out)
      clear HVV HV0 HM HU
      go_wp2_with fail
      go_loopw [41] (fun x wr => ∃ i : Nat, i ≤ nl.length ∧ x = .int .i64 (i : Nat) ∧ Hid (firstE (nodeE el) (nl.take i) = 0) ∧ Hid (Bex (g0 + 1 + 1 + 1) W4 wr ∧ ∃ n q, Look wr (g0 + 1 + 1 + 1) eA el.length ec n q)) (fun x _ => nl.length - (intOf x).toNat)
      case atStart => exact ⟨0, by omega, rfl, Lib.hid (by simp [firstE]), Lib.hid ⟨Bex.of drj, _, _, HLK.out.here rj (k := drj)⟩⟩
      case round =>
        clear k0 k1 kl
        obtain ⟨i, hi, rfl, HJi, HB⟩ := hrel
        obtain ⟨ri, hri⟩ : ∃ r, wr = r := ⟨_, rfl⟩
        rw [hri] at HB ⊢
        clear hri wr
        obtain ⟨k0, k1, kl⟩ := HKX.out ri HB.out.1
        obtain ⟨n', q', hli⟩ := HB.out.2
        have ari : After w0 ri := HB.out.1.after a04 (by have := hw.below.size; omega)
        by_cases hlti : i < nl.length
        · have hltiI : (i : Int) < (nl.length : Int) := by omega
          obtain ⟨bi, pi, yi, rfl, hlei, HYi, hPi⟩ := (HND.out.nds ri (k := ari)).part (i := i) hlti
          obtain ⟨nm, ⟨inA, inc, in_⟩, ⟨ouA, ouc, ou⟩, ⟨loA, loc, lo⟩, ⟨eqA, eqc, eq⟩, ⟨auA, auc, au⟩, ⟨asA, asc, as_⟩, ⟨enA, enc, en_⟩⟩ := yi
          obtain ⟨z0, z1, z2, z3, z4, z5, z6, z7⟩ : ri.cell? ⟨bi, pi + i * 8, none⟩ = some (.string nm) ∧ ri.cell? ⟨bi, pi + i * 8 + 1, none⟩ = some (.slice inA in_.length inc) ∧ ri.cell? ⟨bi, pi + i * 8 + 2, none⟩ = some (.slice ouA ou.length ouc) ∧ ri.cell? ⟨bi, pi + i * 8 + 3, none⟩ = some (.slice loA lo.length loc) ∧ ri.cell? ⟨bi, pi + i * 8 + 4, none⟩ = some (.slice eqA eq.length eqc) ∧ ri.cell? ⟨bi, pi + i * 8 + 5, none⟩ = some (.slice auA au.length auc) ∧ ri.cell? ⟨bi, pi + i * 8 + 6, none⟩ = some (.slice asA as_.length asc) ∧ ri.cell? ⟨bi, pi + i * 8 + 7, none⟩ = some (.slice enA en_.length enc) := ⟨hPi.c0, hPi.c1, hPi.c2, hPi.c3, hPi.c4, hPi.c5, hPi.c6, hPi.c7⟩
          obtain ⟨_, _, HPi_⟩ := HND.out.elem (i := i) HYi.out
          have HPi := Lib.hid HPi_
          clear HPi_ hPi
          obtain ⟨X1, hX1⟩ : ∃ X, nodeE el ⟨nm, ⟨inA, inc, in_⟩, ⟨ouA, ouc, ou⟩, ⟨loA, loc, lo⟩, ⟨eqA, eqc, eq⟩, ⟨auA, auc, au⟩, ⟨asA, asc, as_⟩, ⟨enA, enc, en_⟩⟩ = X := ⟨_, rfl⟩
          obtain ⟨Xq, hXq⟩ : ∃ X, nodeQ el ⟨nm, ⟨inA, inc, in_⟩, ⟨ouA, ouc, ou⟩, ⟨loA, loc, lo⟩, ⟨eqA, eqc, eq⟩, ⟨auA, auc, au⟩, ⟨asA, asc, as_⟩, ⟨enA, enc, en_⟩⟩ = X := ⟨_, rfl⟩
          have HS1 : Hid (X1 ≠ 0 → V = ((i : Int), Xq, X1)) := Lib.hid fun h => by
            have h1 := nodesV_at el 0 HYi.out HJi.out (by rw [hX1]; exact h)
            rw [Nat.zero_add, hX1, hXq] at h1
            exact HVN.out.trans h1
          have HNi : Hid (X1 = 0 → firstE (nodeE el) (nl.take (i + 1)) = 0) := Lib.hid fun h => (firstE_take (nodeE el) HYi.out HJi.out).trans (hX1.trans h)
          obtain ⟨gn, hgn⟩ : ∃ g, ri.heap.size = g := ⟨_, rfl⟩
          obtain ⟨W5, hW5, a5, bn, bl5⟩ : ∃ W, ri.alloc (.cells #[.string nm, .slice inA in_.length inc, .slice ouA ou.length ouc, .slice loA lo.length loc, .slice eqA eq.length eqc, .slice auA au.length auc, .slice asA as_.length asc, .slice enA en_.length enc] 45) = W ∧ After ri W ∧ Blk W gn 45 #[.string nm, .slice inA in_.length inc, .slice ouA ou.length ouc, .slice loA lo.length loc, .slice eqA eq.length eqc, .slice auA au.length auc, .slice asA as_.length asc, .slice enA en_.length enc] ∧ Look W (g0 + 1 + 1 + 1) eA el.length ec n' q' := ⟨_, rfl, inferInstance, by rw [← hgn]; exact Blk.new _ _ _, Look.here hli _⟩
          have hg4 : w0.heap.size ≤ g0 + 1 + 1 + 1 := by have := hw.below.size; omega
          have HN : Hid (Calls Try.prog 35 #[.pointer (some ⟨g0 + 1 + 1 + 1, 0, none⟩), .int .i64 (i : Nat), .agg #[.string nm, .slice inA in_.length inc, .slice ouA ou.length ouc, .slice loA lo.length loc, .slice eqA eq.length eqc, .slice auA au.length auc, .slice asA as_.length asc, .slice enA en_.length enc]] W5 fun e w' => ND W5 (g0 + 1 + 1 + 1) eA el.length ec (i : Nat) X1 Xq e w') := by
            have h := lnode_any (i := (i : Nat)) HEN.out HPi.out W5 (after_after ari a5) hg4 bl5
            rw [hX1, hXq] at h
            exact h
          have B5 : Bex (g0 + 1 + 1 + 1) W4 W5 := HB.out.1.trans (Bex.of a5)
          clear hX1 hXq hli bl5
          have v0 : W5.cell? ⟨gn, 0, none⟩ = some (.string nm) := by rw [bn.cell]; rfl
          have v1 : W5.cell? ⟨gn, 1, none⟩ = some (.slice inA in_.length inc) := by rw [bn.cell]; rfl
          have v2 : W5.cell? ⟨gn, 2, none⟩ = some (.slice ouA ou.length ouc) := by rw [bn.cell]; rfl
          have v3 : W5.cell? ⟨gn, 3, none⟩ = some (.slice loA lo.length loc) := by rw [bn.cell]; rfl
          have v4 : W5.cell? ⟨gn, 4, none⟩ = some (.slice eqA eq.length eqc) := by rw [bn.cell]; rfl
          have v5 : W5.cell? ⟨gn, 5, none⟩ = some (.slice auA au.length auc) := by rw [bn.cell]; rfl
          have v6 : W5.cell? ⟨gn, 6, none⟩ = some (.slice asA as_.length asc) := by rw [bn.cell]; rfl
          have v7 : W5.cell? ⟨gn, 7, none⟩ = some (.slice enA en_.length enc) := by rw [bn.cell]; rfl
          have e6 := bn.is_le
          clear bn
          go_wp2_with fail
          try rw [hW5]
          try rw [hgn]
          clear hW5 hgn
          refine HN.out.mono ?_
          rintro e w6 ⟨B6, h6⟩
          by_cases hE : X1 = 0
          rotate_left
          · obtain ⟨F, hF, HP⟩ : ∃ F, e = pan (i : Nat) Xq F ∧ Hid (PF w (g0 + 1) (g0 + 1 + 1) V (i : Nat) Xq F w6) := by
              rcases h6 with ⟨h, _⟩ | ⟨h, hh⟩
              · exact absurd h hE
              · exact ⟨_, hh, HPF.out _ (B5.trans B6) _ _ _ (HS1.out hE)⟩
            clear hE h6
            subst hF
            unfold pan
            go_wp2_with fail
            exact door_pan HP.out ⟨by omega, by omega, by omega⟩ rfl rfl
          obtain ⟨rfl, n6, q6, l6⟩ : e = .returned (.tuple #[]) ∧ ∃ n q, Look w6 (g0 + 1 + 1 + 1) eA el.length ec n q := by
            rcases h6 with ⟨_, hh, q', hl⟩ | ⟨h, _⟩
            · exact ⟨hh, _, q', hl⟩
            · exact absurd hE h
          replace HNi := Lib.hid (HNi.out hE)
          clear hE h6 k0 k1 kl v0 v1 v2 v3 v4 v5 v6 v7 e6
          obtain ⟨k0, k1, kl⟩ := HKX.out w6 (B5.trans B6)
          have HB6 := Lib.hid (B5.trans B6)
          have HL6 := Lib.hid l6
          clear l6
          go_wp2_with fail
          go_roundw
          case rel => exact ⟨i + 1, by omega, by go_num, HNi, Lib.hid ⟨HB6.out, _, _, HL6.out⟩⟩
          case measure => simp only [intOf]; omega
        · have hz := firstE_all (nodeE el) hlti HJi.out
          replace HVN := Lib.hid (HVN.out.trans (nodesV_none el nl 0 hz))
          clear hz
          have HP := Lib.hid (HPF.out _ HB.out.1 0 0 0 HVN.out)
          have y1 := HP.out.b2.cell 0
          have y2 := HP.out.b2.cell 1
          have y3 := HP.out.b3.cell 0
          have f1 := HP.out.b2.frozen 0
          have f2 := HP.out.b2.frozen 1
          have f3 := HP.out.b3.frozen 0
          have l2 := HP.out.b2.is_le
          have l3 := HP.out.b3.is_le
          replace y1 : ri.cell? ⟨g0 + 1, 0, none⟩ = some (.int .i64 0) := y1
          replace y2 : ri.cell? ⟨g0 + 1, 1, none⟩ = some (.int .i64 0) := y2
          replace y3 : ri.cell? ⟨g0 + 1 + 1, 0, none⟩ = some (.int .i64 0) := y3
          clear HJi hli
          go_wp2_with fail
          have hv := HVN.out
          have aft : After w ri := HP.out.aft
          have e2 := ((HP.out.b2.set_ 0 (.int .i64 0)).set_ 1 (.int .i64 0)).far (p := ⟨g0 + 1 + 1, 0, none⟩) (by show g0 + 1 ≠ g0 + 1 + 1; omega) (.int .i64 0)
          have e3 := ((HP.out.b3.far (p := ⟨g0 + 1, 0, none⟩) (by show g0 + 1 + 1 ≠ g0 + 1; omega) (.int .i64 0)).far (p := ⟨g0 + 1, 1, none⟩) (by show g0 + 1 + 1 ≠ g0 + 1; omega) (.int .i64 0)).set_ 0 (.int .i64 0)
          exact door_ret HP.out ⟨by omega, by omega, by omega⟩ rfl rfl _ inferInstance (by rw [hv]; exact e2.cell 0) (by rw [hv]; exact e2.cell 1) (by rw [hv]; exact e3.cell 0) e2.is_le e3.is_le
end Go.Proofs.Ytdghfhnkacfahaa
