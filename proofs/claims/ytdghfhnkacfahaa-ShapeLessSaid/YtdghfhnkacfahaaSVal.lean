/-
  Contracts: values of layer 5: Size, Has, and the reference's; the reference's valid.
-/
import Derived.Test.YtdghfhnkacfahaaSPg
import Derived.Test.YtdghfhnkacfahaaESize
set_option linter.unusedVariables false
set_option linter.unusedSimpArgs false
namespace Go.Proofs.Ytdghfhnkacfahaa
open Go.RowKit Go.BigFrame

/-- how many values a type has -/
def sizeV (l : List EnD) (t : Int) : Nat := if t = 1 then 2 else if t = 2 then 65536 else if 3 ≤ t then (match l[(t - 3).toNat]? with | some u => u.tags.l.length | none => 0) else 0
def hasV (l : List EnD) (t v : Int) : Bool := if t = 2 then decide (-32768 ≤ v) && decide (v ≤ 32767) else decide (0 ≤ v) && decide (v < (sizeV l t : Int))
theorem sizeV_le {w : World} {x : Lst EnD} (h : RowOf 2 PEn w x) (t : Int) : sizeV x.l t ≤ 140737488355328 := by
  unfold sizeV
  split
  · omega
  · split
    · omega
    · split
      · split
        · rename_i u hu
          rcases h.cells with e | ⟨b, p, e, hlt, hc⟩
          · rw [e] at hu; simp at hu
          · exact (hc _ _ hu).tg.len
        · omega
      · omega
set_option maxRecDepth 100000 in
set_option maxHeartbeats 1600000 in
theorem venum_any {w0 : World} {x : Lst EnD} (h : RowOf 2 PEn w0 x) (w : World) (hw : After w0 w) (t : Int) (ht : t ≤ 9223372036854775807) (h1 : t ≠ 1) (h2 : t ≠ 2) :
    Calls Try.prog 76 #[.slice x.A x.l.length x.c, .int .i64 t] w fun e w' => ∃ (s : ByteArray) (A : Option Addr) (c : Nat) (b : Value), e = .returned (.tuple #[.agg #[.string s, .slice A (sizeV x.l t) c], b]) ∧ After w w' := by
  have hl := h.len
  have hn0 : New w w.heap.size := inferInstance
  obtain ⟨A, c, l⟩ := x
  simp only [] at hl ⊢
  have z := Lib.hid (Blk.new w 59 #[.string ⟨#[]⟩, .slice none 0 0])
  by_cases h3 : t < 3
  · have hs : sizeV l t = 0 := by unfold sizeV; rw [if_neg h1, if_neg h2, if_neg (by omega)]
    rw [hs]
    have r2 := (z.out.set_ 0 (.string ⟨#[]⟩)).set_ 1 (.slice none 0 0)
    have k0 : (((w.alloc (.cells #[.string ⟨#[]⟩, .slice none 0 0] 59)).setCell ⟨w.heap.size, 0, none⟩ (.string ⟨#[]⟩)).setCell ⟨w.heap.size, 1, none⟩ (.slice none 0 0)).cell? ⟨w.heap.size, 0, none⟩ = some (.string ⟨#[]⟩) := by rw [r2.cell]; rfl
    have k1 : (((w.alloc (.cells #[.string ⟨#[]⟩, .slice none 0 0] 59)).setCell ⟨w.heap.size, 0, none⟩ (.string ⟨#[]⟩)).setCell ⟨w.heap.size, 1, none⟩ (.slice none 0 0)).cell? ⟨w.heap.size, 1, none⟩ = some (.slice none 0 0) := by rw [r2.cell]; rfl
    clear h1 h2 h hs
    go_enter Try.func76, Try.ntmps76
    go_wp2_with fail
    refine bodyPost_ret (v := .tuple #[.agg #[.string ⟨#[]⟩, .slice none 0 0], .bool false]) (by simp [results, Try.results76, go_sem, k0, k1]) rfl ?_
    first | exact ⟨_, _, _, _, rfl, inferInstance⟩ | exact ⟨⟨_, _, _, _, rfl⟩, inferInstance⟩ | infer_instance
  · have hwr : IntKind.i64.wrap (t - 3) = t - 3 := IntWalk.i64_in _ (by omega)
    by_cases h4 : t - 3 < (l.length : Int)
    · obtain ⟨n, hn⟩ : ∃ n : Nat, t - 3 = n := ⟨(t - 3).toNat, by omega⟩
      obtain ⟨b, p, y, rfl, hle, HY, hP⟩ := (h.enums w).part (i := n) (by show n < l.length; omega)
      simp only [] at HY
      have hs : sizeV l t = y.tags.l.length := by unfold sizeV; rw [if_neg h1, if_neg h2, if_pos (by omega), hn, Int.toNat_natCast, HY.out]
      rw [hs]
      have e0 := hP.c0
      have e1 := hP.c1
      have h4I : ¬ ((l.length : Int) ≤ (n : Int)) := by omega
      have h4J : (n : Int) < (l.length : Int) := by omega
      have r2 := (z.out.set_ 0 (.string y.name)).set_ 1 (.slice y.tags.A y.tags.l.length y.tags.c)
      obtain ⟨s9, hs9⟩ : ∃ s9, y.name = s9 := ⟨_, rfl⟩
      obtain ⟨A9, hA9⟩ : ∃ A9, y.tags.A = A9 := ⟨_, rfl⟩
      obtain ⟨n9, hn9⟩ : ∃ n9, y.tags.l.length = n9 := ⟨_, rfl⟩
      obtain ⟨c9, hc9⟩ : ∃ c9, y.tags.c = c9 := ⟨_, rfl⟩
      rw [hs9] at e0 r2
      rw [hA9, hn9, hc9] at e1 r2
      rw [hn9]
      have k0 : (((w.alloc (.cells #[.string ⟨#[]⟩, .slice none 0 0] 59)).setCell ⟨w.heap.size, 0, none⟩ (.string s9)).setCell ⟨w.heap.size, 1, none⟩ (.slice A9 n9 c9)).cell? ⟨w.heap.size, 0, none⟩ = some (.string s9) := by rw [r2.cell]; rfl
      have k1 : (((w.alloc (.cells #[.string ⟨#[]⟩, .slice none 0 0] 59)).setCell ⟨w.heap.size, 0, none⟩ (.string s9)).setCell ⟨w.heap.size, 1, none⟩ (.slice A9 n9 c9)).cell? ⟨w.heap.size, 1, none⟩ = some (.slice A9 n9 c9) := by rw [r2.cell]; rfl
      clear h1 h2 h hs hP HY hs9 hA9 hn9 hc9 r2
      go_enter Try.func76, Try.ntmps76
      go_wp2_with fail
      refine bodyPost_ret (v := .tuple #[.agg #[.string s9, .slice A9 n9 c9], .bool true]) (by simp [results, Try.results76, go_sem, k0, k1]) rfl ?_
      first | exact ⟨_, _, _, _, rfl, inferInstance⟩ | exact ⟨⟨_, _, _, _, rfl⟩, inferInstance⟩ | infer_instance
    · have hs : sizeV l t = 0 := by unfold sizeV; rw [if_neg h1, if_neg h2, if_pos (by omega), List.getElem?_eq_none (by omega)]
      rw [hs]
      have h4I : (l.length : Int) ≤ t - 3 := by omega
      have r2 := (z.out.set_ 0 (.string ⟨#[]⟩)).set_ 1 (.slice none 0 0)
      have k0 : (((w.alloc (.cells #[.string ⟨#[]⟩, .slice none 0 0] 59)).setCell ⟨w.heap.size, 0, none⟩ (.string ⟨#[]⟩)).setCell ⟨w.heap.size, 1, none⟩ (.slice none 0 0)).cell? ⟨w.heap.size, 0, none⟩ = some (.string ⟨#[]⟩) := by rw [r2.cell]; rfl
      have k1 : (((w.alloc (.cells #[.string ⟨#[]⟩, .slice none 0 0] 59)).setCell ⟨w.heap.size, 0, none⟩ (.string ⟨#[]⟩)).setCell ⟨w.heap.size, 1, none⟩ (.slice none 0 0)).cell? ⟨w.heap.size, 1, none⟩ = some (.slice none 0 0) := by rw [r2.cell]; rfl
      clear h1 h2 h hs
      go_enter Try.func76, Try.ntmps76
      go_wp2_with fail
      refine bodyPost_ret (v := .tuple #[.agg #[.string ⟨#[]⟩, .slice none 0 0], .bool false]) (by simp [results, Try.results76, go_sem, k0, k1]) rfl ?_
      first | exact ⟨_, _, _, _, rfl, inferInstance⟩ | exact ⟨⟨_, _, _, _, rfl⟩, inferInstance⟩ | infer_instance
set_option maxRecDepth 100000 in
set_option maxHeartbeats 1600000 in
theorem vsize_any {w0 : World} {x : Lst EnD} (h : RowOf 2 PEn w0 x) (w : World) (hw : After w0 w) (t : Int) (ht : t ≤ 9223372036854775807) :
    Calls Try.prog 41 #[.slice x.A x.l.length x.c, .int .i64 t] w fun e w' => e = .returned (.int .i64 (sizeV x.l t : Nat)) ∧ After w w' := by
  by_cases h1 : t = 1
  · subst h1
    go_enter Try.func41, Try.ntmps41
    go_wp2_with fail
    go_ret
    exact ⟨rfl, inferInstance⟩
  by_cases h2 : t = 2
  · subst h2
    go_enter Try.func41, Try.ntmps41
    go_wp2_with fail
    go_ret
    exact ⟨rfl, inferInstance⟩
  have HE := Lib.hid (venum_any h w hw t ht h1 h2)
  have b1 : (t == 1) = false := by simpa using h1
  have b2 : (t == 2) = false := by simpa using h2
  obtain ⟨n, hn⟩ : ∃ n, sizeV x.l t = n := ⟨_, rfl⟩
  rw [hn] at HE ⊢
  clear h hn h1 h2
  go_enter Try.func41, Try.ntmps41
  go_wp2_with fail
  refine HE.out.mono ?_
  rintro e w2 ⟨s, A, c, b, rfl, a2⟩
  go_wp2_with fail
  go_ret
  exact ⟨rfl, inferInstance⟩
theorem win_any (v : Int) (w : World) : Calls Try.prog 77 #[.int .i64 v] w fun e w' => e = .returned (.bool (decide (-32768 ≤ v) && decide (v ≤ 32767))) ∧ w' = w := by
  by_cases h1 : -32768 ≤ v
  · by_cases h2 : v ≤ 32767
    all_goals
      go_enter Try.func77, Try.ntmps77
      go_wp2_with fail
      go_ret
      exact ⟨ret_bool (by simp [h1, h2]), rfl⟩
  · go_enter Try.func77, Try.ntmps77
    go_wp2_with fail
    go_ret
    exact ⟨ret_bool (by simp; omega), rfl⟩
set_option maxHeartbeats 1600000 in
theorem vhas_any {w0 : World} {x : Lst EnD} (h : RowOf 2 PEn w0 x) (w : World) (hw : After w0 w) (t v : Int) (ht : t ≤ 9223372036854775807) :
    Calls Try.prog 42 #[.slice x.A x.l.length x.c, .int .i64 t, .int .i64 v] w fun e w' => e = .returned (.bool (hasV x.l t v)) ∧ After w w' := by
  unfold hasV
  by_cases h2 : t = 2
  · subst h2
    rw [if_pos rfl]
    have HI := Lib.hid (win_any v w)
    obtain ⟨q, hq⟩ : ∃ q, (decide (-32768 ≤ v) && decide (v ≤ 32767)) = q := ⟨_, rfl⟩
    rw [hq] at HI ⊢
    clear hq h
    go_enter Try.func42, Try.ntmps42
    go_wp2_with fail
    refine HI.out.mono ?_
    rintro e w2 ⟨rfl, hw2⟩
    rw [hw2]
    go_wp2_with fail
    go_ret
    exact ⟨rfl, inferInstance⟩
  · rw [if_neg h2]
    have b2 : (t == 2) = false := by simpa using h2
    by_cases h0 : 0 ≤ v
    · have HS := Lib.hid (vsize_any h w hw t ht)
      obtain ⟨n, hn⟩ : ∃ n, sizeV x.l t = n := ⟨_, rfl⟩
      rw [hn] at HS ⊢
      rw [show decide (0 ≤ v) = true by simpa using h0, Bool.true_and]
      clear h hn h2
      go_enter Try.func42, Try.ntmps42
      go_wp2_with fail
      refine HS.out.mono ?_
      rintro e w2 ⟨rfl, a2⟩
      go_wp2_with fail
      go_ret
      exact ⟨rfl, a2⟩
    · rw [show decide (0 ≤ v) = false by simpa using h0, Bool.false_and]
      clear h h2
      go_enter Try.func42, Try.ntmps42
      go_wp2_with fail
      go_ret
      exact ⟨rfl, inferInstance⟩
set_option maxRecDepth 100000 in
set_option maxHeartbeats 1600000 in
theorem rvsize_any {w0 : World} {x : Lst EnD} (h : RowOf 2 PEn w0 x) (w : World) (hw : After w0 w) (t : Int) (ht : t ≤ 9223372036854775807) :
    Calls Try.prog 51 #[.slice x.A x.l.length x.c, .int .i64 t] w fun e w' => e = .returned (.int .i64 (sizeV x.l t : Nat)) ∧ After w w' := by
  have hl := h.len
  obtain ⟨A, c, l⟩ := x
  simp only [] at hl ⊢
  by_cases h1 : t = 1
  · subst h1
    go_enter Try.func51, Try.ntmps51
    go_wp2_with fail
    go_ret
    exact ⟨rfl, inferInstance⟩
  by_cases h2 : t = 2
  · subst h2
    go_enter Try.func51, Try.ntmps51
    go_wp2_with fail
    go_ret
    exact ⟨rfl, inferInstance⟩
  have b1 : (t == 1) = false := by simpa using h1
  have b2 : (t == 2) = false := by simpa using h2
  by_cases h3 : t < 3
  · have hs : sizeV l t = 0 := by unfold sizeV; rw [if_neg h1, if_neg h2, if_neg (by omega)]
    rw [hs]
    clear h h1 h2 hs
    go_enter Try.func51, Try.ntmps51
    go_wp2_with fail
    go_ret
    exact ⟨rfl, inferInstance⟩
  · have hwr : IntKind.i64.wrap (t - 3) = t - 3 := IntWalk.i64_in _ (by omega)
    by_cases h4 : t - 3 < (l.length : Int)
    · obtain ⟨n, hn⟩ : ∃ n : Nat, t - 3 = n := ⟨(t - 3).toNat, by omega⟩
      obtain ⟨b, p, y, rfl, hle, HY, hP⟩ := (h.enums w).part (i := n) (by show n < l.length; omega)
      simp only [] at HY
      have hs : sizeV l t = y.tags.l.length := by unfold sizeV; rw [if_neg h1, if_neg h2, if_pos (by omega), hn, Int.toNat_natCast, HY.out]
      rw [hs]
      have e1 := hP.c1
      have h4I : ¬ ((l.length : Int) ≤ (n : Int)) := by omega
      have h4J : (n : Int) < (l.length : Int) := by omega
      obtain ⟨n9, hn9⟩ : ∃ n9, y.tags.l.length = n9 := ⟨_, rfl⟩
      rw [hn9] at e1 ⊢
      clear h1 h2 h hs hP HY hn9
      go_enter Try.func51, Try.ntmps51
      go_wp2_with fail
      go_ret
      exact ⟨rfl, inferInstance⟩
    · have hs : sizeV l t = 0 := by unfold sizeV; rw [if_neg h1, if_neg h2, if_pos (by omega), List.getElem?_eq_none (by omega)]
      rw [hs]
      have h4I : (l.length : Int) ≤ t - 3 := by omega
      clear h h1 h2 hs
      go_enter Try.func51, Try.ntmps51
      go_wp2_with fail
      go_ret
      exact ⟨rfl, inferInstance⟩
set_option maxHeartbeats 1600000 in
theorem rvhas_any {w0 : World} {x : Lst EnD} (h : RowOf 2 PEn w0 x) (w : World) (hw : After w0 w) (t v : Int) (ht : t ≤ 9223372036854775807) :
    Calls Try.prog 50 #[.slice x.A x.l.length x.c, .int .i64 t, .int .i64 v] w fun e w' => e = .returned (.bool (hasV x.l t v)) ∧ After w w' := by
  unfold hasV
  by_cases h2 : t = 2
  · subst h2
    rw [if_pos rfl]
    clear h
    by_cases h1 : -32768 ≤ v
    · by_cases h3 : v ≤ 32767
      all_goals
        go_enter Try.func50, Try.ntmps50
        go_wp2_with fail
        go_ret
        exact ⟨ret_bool (by simp [h1, h3]), inferInstance⟩
    · go_enter Try.func50, Try.ntmps50
      go_wp2_with fail
      go_ret
      exact ⟨ret_bool (by simp; omega), inferInstance⟩
  · rw [if_neg h2]
    have b2 : (t == 2) = false := by simpa using h2
    by_cases h0 : 0 ≤ v
    · have HS := Lib.hid (rvsize_any h w hw t ht)
      obtain ⟨n, hn⟩ : ∃ n, sizeV x.l t = n := ⟨_, rfl⟩
      rw [hn] at HS ⊢
      rw [show decide (0 ≤ v) = true by simpa using h0, Bool.true_and]
      clear h hn h2
      go_enter Try.func50, Try.ntmps50
      go_wp2_with fail
      refine HS.out.mono ?_
      rintro e w2 ⟨rfl, a2⟩
      go_wp2_with fail
      go_ret
      exact ⟨rfl, a2⟩
    · rw [show decide (0 ≤ v) = false by simpa using h0, Bool.false_and]
      clear h h2
      go_enter Try.func50, Try.ntmps50
      go_wp2_with fail
      go_ret
      exact ⟨rfl, inferInstance⟩
theorem rvalid_any {w0 : World} {x : Lst EnD} (h : RowOf 2 PEn w0 x) (w : World) (hw : After w0 w) (t : Int) (ht : t ≤ 9223372036854775807) :
    Calls Try.prog 49 #[.slice x.A x.l.length x.c, .int .i64 t] w fun e w' => e = .returned (.bool (decide (0 < sizeV x.l t))) ∧ After w w' := by
  have HS := Lib.hid (rvsize_any h w hw t ht)
  obtain ⟨n, hn⟩ : ∃ n, sizeV x.l t = n := ⟨_, rfl⟩
  rw [hn] at HS ⊢
  clear h hn
  go_enter Try.func49, Try.ntmps49
  go_wp2_with fail
  refine HS.out.mono ?_
  rintro e w2 ⟨rfl, a2⟩
  go_wp2_with fail
  go_ret
  exact ⟨ret_bool (by first | rfl | simp), a2⟩
end Go.Proofs.Ytdghfhnkacfahaa
