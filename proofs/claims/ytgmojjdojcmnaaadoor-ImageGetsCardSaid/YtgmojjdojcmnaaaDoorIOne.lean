/-
  Contracts: form and ranges of any operation; asm.one (printed by gen_ione.py).
-/
import Derived.Test.YtgmojjdojcmnaaaDoorIFormA
import Derived.Test.YtgmojjdojcmnaaaDoorIFormB
import Derived.Test.YtgmojjdojcmnaaaDoorIRangeA
import Derived.Test.YtgmojjdojcmnaaaDoorIRangeB
import Derived.Test.YtgmojjdojcmnaaaDoorIRangeC
import Derived.Test.YtgmojjdojcmnaaaDoorICkD
import Derived.Test.YtgmojjdojcmnaaaDoorICkE
set_option linter.unusedVariables false
set_option linter.unusedSimpArgs false
namespace Go.Proofs.YtgmojjdojcmnaaaDoor
open Go.RowKit Go.BigFrame

theorem formB_op {i : Ins} {at_ code : Int} (h : formB i at_ code = true) : 1 ≤ i.op ∧ i.op ≤ 10 := by
  by_cases hb : 1 ≤ i.op ∧ i.op ≤ 10
  · exact hb
  · exfalso
    unfold formB at h
    rw [if_neg (by omega), if_neg (by omega), if_neg (by omega), if_neg (by omega), if_neg (by omega), if_neg (by omega), if_neg (by omega), if_neg (by omega), if_neg (by omega), if_neg (by omega)] at h
    cases h
theorem formB_bad {i : Ins} {at_ code : Int} (h : i.op < 1 ∨ 10 < i.op) : formB i at_ code = false := by
  cases hf : formB i at_ code with
  | false => rfl
  | true => have := formB_op hf; omega
set_option maxRecDepth 100000 in
set_option maxHeartbeats 1600000 in
theorem form_bad (w : World) (s : ByteArray) (A1 : Option Addr) (n1 c1 : Nat) (A2 : Option Addr) (n2 c2 : Nat) (g : Int) (A3 : Option Addr) (n3 c3 : Nat) (A4 : Option Addr) (n4 c4 : Nat) (at_ op a b c d : Int) (h : op < 1 ∨ 10 < op) :
    Calls Tryd.prog 50 #[.agg #[.string s, .slice A1 n1 c1, .slice A2 n2 c2, .int .i64 g, .slice A3 n3 c3, .slice A4 n4 c4], .int .i64 at_, .agg #[.int .i64 op, .int .i64 a, .int .i64 b, .int .i64 c, .int .i64 d]] w fun e w' => e = .returned (.bool (formB ⟨op, a, b, c, d⟩ at_ (n4 : Nat))) ∧ After w w' := by
  rw [formB_bad (i := ⟨op, a, b, c, d⟩) h]
  have hk1 := Lib.hid (fun U : World => known_bad U op h)
  clear h
  go_enter Tryd.func50, Tryd.ntmps50
  go_wp2_with fail
  refine (hk1.out _).mono ?_
  rintro e w2 ⟨rfl, a2⟩
  have aw2 : After w w2 := after_after inferInstance a2
  clear a2
  go_wp2_with fail
  go_ret
  exact ⟨rfl, inferInstance⟩
theorem form_any (w0 w : World) (hO : Ops w0) (hw : After w0 w) (s : ByteArray) (A1 : Option Addr) (n1 c1 : Nat) (A2 : Option Addr) (n2 c2 : Nat) (g : Int) (A3 : Option Addr) (n3 c3 : Nat) (A4 : Option Addr) (n4 c4 : Nat) (at_ op a b c d : Int) :
    Calls Tryd.prog 50 #[.agg #[.string s, .slice A1 n1 c1, .slice A2 n2 c2, .int .i64 g, .slice A3 n3 c3, .slice A4 n4 c4], .int .i64 at_, .agg #[.int .i64 op, .int .i64 a, .int .i64 b, .int .i64 c, .int .i64 d]] w fun e w' => e = .returned (.bool (formB ⟨op, a, b, c, d⟩ at_ (n4 : Nat))) ∧ After w w' := by
  have hc : op = 1 ∨ op = 2 ∨ op = 3 ∨ op = 4 ∨ op = 5 ∨ op = 6 ∨ op = 7 ∨ op = 8 ∨ op = 9 ∨ op = 10 ∨ (op < 1 ∨ 10 < op) := by omega
  rcases hc with rfl | rfl | rfl | rfl | rfl | rfl | rfl | rfl | rfl | rfl | h
  · exact form_1 w0 w hO hw s A1 n1 c1 A2 n2 c2 g A3 n3 c3 A4 n4 c4 at_ a b c d
  · exact form_2 w0 w hO hw s A1 n1 c1 A2 n2 c2 g A3 n3 c3 A4 n4 c4 at_ a b c d
  · exact form_3 w0 w hO hw s A1 n1 c1 A2 n2 c2 g A3 n3 c3 A4 n4 c4 at_ a b c d
  · exact form_4 w0 w hO hw s A1 n1 c1 A2 n2 c2 g A3 n3 c3 A4 n4 c4 at_ a b c d
  · exact form_5 w0 w hO hw s A1 n1 c1 A2 n2 c2 g A3 n3 c3 A4 n4 c4 at_ a b c d
  · exact form_6 w0 w hO hw s A1 n1 c1 A2 n2 c2 g A3 n3 c3 A4 n4 c4 at_ a b c d
  · exact form_7 w0 w hO hw s A1 n1 c1 A2 n2 c2 g A3 n3 c3 A4 n4 c4 at_ a b c d
  · exact form_8 w0 w hO hw s A1 n1 c1 A2 n2 c2 g A3 n3 c3 A4 n4 c4 at_ a b c d
  · exact form_9 w0 w hO hw s A1 n1 c1 A2 n2 c2 g A3 n3 c3 A4 n4 c4 at_ a b c d
  · exact form_10 w0 w hO hw s A1 n1 c1 A2 n2 c2 g A3 n3 c3 A4 n4 c4 at_ a b c d
  · exact form_bad w s A1 n1 c1 A2 n2 c2 g A3 n3 c3 A4 n4 c4 at_ op a b c d h
theorem ranges_any {w0 : World} {A c_ A' cm_ m} (x : RIm w0 A c_ A' cm_ m) (w : World) (hO : Ops w0) (hw : After w0 w) (k_ : Nat) (hk_ : k_ < m.rts.length) (r : Rtn) (hr : m.rts[k_]? = some r) (hreg : r.regs ≤ 32768) (op a b c d : Int) (ho : 1 ≤ op ∧ op ≤ 10) :
    Calls Tryd.prog 51 #[.agg #[.slice A m.enums.length c_, .slice A' m.rts.length cm_], .int .i64 k_, .agg #[.int .i64 op, .int .i64 a, .int .i64 b, .int .i64 c, .int .i64 d]] w fun e w' => e = .returned (.bool (rangeB m r k_ ⟨op, a, b, c, d⟩)) ∧ After w w' := by
  have hc : op = 1 ∨ op = 2 ∨ op = 3 ∨ op = 4 ∨ op = 5 ∨ op = 6 ∨ op = 7 ∨ op = 8 ∨ op = 9 ∨ op = 10 := by omega
  rcases hc with rfl | rfl | rfl | rfl | rfl | rfl | rfl | rfl | rfl | rfl
  · exact ranges_1 x w hO hw k_ hk_ r hr hreg a b c d
  · exact ranges_2 x w hO hw k_ hk_ r hr hreg a b c d
  · exact ranges_3 x w hO hw k_ hk_ r hr hreg a b c d
  · exact ranges_4 x w hO hw k_ hk_ r hr hreg a b c d
  · exact ranges_5 x w hO hw k_ hk_ r hr hreg a b c d
  · exact ranges_6 x w hO hw k_ hk_ r hr hreg a b c d
  · exact ranges_7 x w hO hw k_ hk_ r hr hreg a b c d
  · exact ranges_8 x w hO hw k_ hk_ r hr hreg a b c d
  · exact ranges_9 x w hO hw k_ hk_ r hr hreg a b c d
  · exact ranges_10 x w hO hw k_ hk_ r hr hreg a b c d

theorem codeE_step {m : Img} {r : Rtn} {k j : Nat} {i : Ins} (h : r.code[j]? = some i) : codeE m r k j (r.code.drop j) = if formB i j r.code.length then (if rangeB m r k i then codeE m r k (j + 1) (r.code.drop (j + 1)) else 14) else 5 := by
  obtain ⟨hj, e⟩ := List.getElem?_eq_some_iff.1 h
  rw [List.drop_eq_getElem_cons hj, e, codeE]
theorem codeE_end {m : Img} {r : Rtn} {k j : Nat} (h : r.code.length ≤ j) : codeE m r k j (r.code.drop j) = 0 := by
  rw [List.drop_eq_nil_of_le h, codeE]

set_option maxRecDepth 100000 in
set_option maxHeartbeats 8000000 in
theorem one_title {w0 : World} {A c_ A' cm_ m} (x : RIm w0 A c_ A' cm_ m) (w : World) (hO : Ops w0) (hw : After w0 w) (k_ : Nat) (hk_ : k_ < m.rts.length) (r : Rtn) (hr : m.rts[k_]? = some r) (hbd : ∀ t, t ∈ r.ins ∨ t ∈ r.outs → t ≤ 9223372036854775807)
    (hq0 : nameB r.name = false) :
    Calls Tryd.prog 41 #[.agg #[.slice A m.enums.length c_, .slice A' m.rts.length cm_], .int .i64 k_] w fun e w' => e = .returned (.int .i64 (6)) ∧ After w w' := by
  have hl_ := x.rts.len
  have hkI : (k_ : Int) < (m.rts.length : Int) := by omega
  obtain ⟨bq, pq, s, A1, c1, A2, c2, A3, c3, A4, c4, r9, rfl, hle_, HX, HR, e0, e1, e2, e3, e4, e5⟩ := (x.rts.here w).part hk_
  obtain rfl : r = r9 := by
    have h1 := HX.out
    rw [hr] at h1
    injection h1 with h1
  have hin1 := HR.out.ins.len
  have hin2 := HR.out.outs.len
  have hin3 := HR.out.init.len
  have hin4 := HR.out.code.len
  have hss := HR.out.size
  have HNm : Hid (s.data.toList = r.name) := HR.out.name
  obtain ⟨W1, hW1, HK, a1⟩ : ∃ W1, ((w.alloc (.cells #[.slice A m.enums.length c_, .slice (some ⟨bq, pq, none⟩) m.rts.length cm_] 29)).alloc (.cells #[.string s, .slice A1 r.ins.length c1, .slice A2 r.outs.length c2, .int .i64 r.regs, .slice A3 r.init.length c3, .slice A4 r.code.length c4] 52)) = W1 ∧ Hid (∀ U : World, After W1 U → U.cell? ⟨w.heap.size, 0, none⟩ = some (.slice A m.enums.length c_) ∧ U.cell? ⟨w.heap.size, 1, none⟩ = some (.slice (some ⟨bq, pq, none⟩) m.rts.length cm_) ∧ U.cell? ⟨w.heap.size + 1, 0, none⟩ = some (.string s) ∧ U.cell? ⟨w.heap.size + 1, 1, none⟩ = some (.slice A1 r.ins.length c1) ∧ U.cell? ⟨w.heap.size + 1, 2, none⟩ = some (.slice A2 r.outs.length c2) ∧ U.cell? ⟨w.heap.size + 1, 3, none⟩ = some (.int .i64 r.regs) ∧ U.cell? ⟨w.heap.size + 1, 4, none⟩ = some (.slice A3 r.init.length c3) ∧ U.cell? ⟨w.heap.size + 1, 5, none⟩ = some (.slice A4 r.code.length c4) ∧ Le (w.heap.size + 2) U) ∧ After w W1 := by
    refine ⟨_, rfl, fun U hU => ?_, inferInstance⟩
    have y0 := ((Blk.new w 29 #[.slice A m.enums.length c_, .slice (some ⟨bq, pq, none⟩) m.rts.length cm_]).alloc (.cells #[.string s, .slice A1 r.ins.length c1, .slice A2 r.outs.length c2, .int .i64 r.regs, .slice A3 r.init.length c3, .slice A4 r.code.length c4] 52)).after (w' := U)
    have y1 := (Blk.new1 w (.cells #[.slice A m.enums.length c_, .slice (some ⟨bq, pq, none⟩) m.rts.length cm_] 29) 52 #[.string s, .slice A1 r.ins.length c1, .slice A2 r.outs.length c2, .int .i64 r.regs, .slice A3 r.init.length c3, .slice A4 r.code.length c4]).after (w' := U)
    exact ⟨by rw [y0.cell]; rfl, by rw [y0.cell]; rfl, by rw [y1.cell]; rfl, by rw [y1.cell]; rfl, by rw [y1.cell]; rfl, by rw [y1.cell]; rfl, by rw [y1.cell]; rfl, by rw [y1.cell]; rfl, y1.is_le⟩
  have HT := Lib.hid (fun U : World => title_any s hss U)
  rw [HNm.out] at HT
  rw [hq0] at HT
  have x' := Lib.hid x
  clear x
  obtain ⟨f0_, f1_, f2_, f3_, f4_, f5_, f6_, f7_, f8_⟩ := HK.out W1 inferInstance
  go_enter Tryd.func41, Tryd.ntmps41
  go_wp2_with fail
  try rw [hW1]
  clear hW1
  refine (HT.out _).mono ?_
  rintro e w2 ⟨rfl, a2⟩
  have b2_ : After w w2 := after_after a1 a2
  obtain ⟨f0_, f1_, f2_, f3_, f4_, f5_, f6_, f7_, f8_⟩ := HK.out w2 a2
  go_wp2_with fail
  go_ret
  exact ⟨rfl, b2_⟩

set_option maxRecDepth 100000 in
set_option maxHeartbeats 8000000 in
theorem one_lim1 {w0 : World} {A c_ A' cm_ m} (x : RIm w0 A c_ A' cm_ m) (w : World) (hO : Ops w0) (hw : After w0 w) (k_ : Nat) (hk_ : k_ < m.rts.length) (r : Rtn) (hr : m.rts[k_]? = some r) (hbd : ∀ t, t ∈ r.ins ∨ t ∈ r.outs → t ≤ 9223372036854775807)
    (hq0 : nameB r.name = true) (hl : 64 < r.ins.length ∨ 64 < r.outs.length) :
    Calls Tryd.prog 41 #[.agg #[.slice A m.enums.length c_, .slice A' m.rts.length cm_], .int .i64 k_] w fun e w' => e = .returned (.int .i64 (3)) ∧ After w w' := by
  have hl_ := x.rts.len
  have hkI : (k_ : Int) < (m.rts.length : Int) := by omega
  obtain ⟨bq, pq, s, A1, c1, A2, c2, A3, c3, A4, c4, r9, rfl, hle_, HX, HR, e0, e1, e2, e3, e4, e5⟩ := (x.rts.here w).part hk_
  obtain rfl : r = r9 := by
    have h1 := HX.out
    rw [hr] at h1
    injection h1 with h1
  have hin1 := HR.out.ins.len
  have hin2 := HR.out.outs.len
  have hin3 := HR.out.init.len
  have hin4 := HR.out.code.len
  have hss := HR.out.size
  have HNm : Hid (s.data.toList = r.name) := HR.out.name
  obtain ⟨W1, hW1, HK, a1⟩ : ∃ W1, ((w.alloc (.cells #[.slice A m.enums.length c_, .slice (some ⟨bq, pq, none⟩) m.rts.length cm_] 29)).alloc (.cells #[.string s, .slice A1 r.ins.length c1, .slice A2 r.outs.length c2, .int .i64 r.regs, .slice A3 r.init.length c3, .slice A4 r.code.length c4] 52)) = W1 ∧ Hid (∀ U : World, After W1 U → U.cell? ⟨w.heap.size, 0, none⟩ = some (.slice A m.enums.length c_) ∧ U.cell? ⟨w.heap.size, 1, none⟩ = some (.slice (some ⟨bq, pq, none⟩) m.rts.length cm_) ∧ U.cell? ⟨w.heap.size + 1, 0, none⟩ = some (.string s) ∧ U.cell? ⟨w.heap.size + 1, 1, none⟩ = some (.slice A1 r.ins.length c1) ∧ U.cell? ⟨w.heap.size + 1, 2, none⟩ = some (.slice A2 r.outs.length c2) ∧ U.cell? ⟨w.heap.size + 1, 3, none⟩ = some (.int .i64 r.regs) ∧ U.cell? ⟨w.heap.size + 1, 4, none⟩ = some (.slice A3 r.init.length c3) ∧ U.cell? ⟨w.heap.size + 1, 5, none⟩ = some (.slice A4 r.code.length c4) ∧ Le (w.heap.size + 2) U) ∧ After w W1 := by
    refine ⟨_, rfl, fun U hU => ?_, inferInstance⟩
    have y0 := ((Blk.new w 29 #[.slice A m.enums.length c_, .slice (some ⟨bq, pq, none⟩) m.rts.length cm_]).alloc (.cells #[.string s, .slice A1 r.ins.length c1, .slice A2 r.outs.length c2, .int .i64 r.regs, .slice A3 r.init.length c3, .slice A4 r.code.length c4] 52)).after (w' := U)
    have y1 := (Blk.new1 w (.cells #[.slice A m.enums.length c_, .slice (some ⟨bq, pq, none⟩) m.rts.length cm_] 29) 52 #[.string s, .slice A1 r.ins.length c1, .slice A2 r.outs.length c2, .int .i64 r.regs, .slice A3 r.init.length c3, .slice A4 r.code.length c4]).after (w' := U)
    exact ⟨by rw [y0.cell]; rfl, by rw [y0.cell]; rfl, by rw [y1.cell]; rfl, by rw [y1.cell]; rfl, by rw [y1.cell]; rfl, by rw [y1.cell]; rfl, by rw [y1.cell]; rfl, by rw [y1.cell]; rfl, y1.is_le⟩
  have m1 : (64 : Int) < max (r.ins.length : Int) (r.outs.length : Int) := by omega
  clear hl
  have HT := Lib.hid (fun U : World => title_any s hss U)
  rw [HNm.out] at HT
  rw [hq0] at HT
  have x' := Lib.hid x
  clear x
  obtain ⟨f0_, f1_, f2_, f3_, f4_, f5_, f6_, f7_, f8_⟩ := HK.out W1 inferInstance
  go_enter Tryd.func41, Tryd.ntmps41
  go_wp2_with fail
  try rw [hW1]
  clear hW1
  refine (HT.out _).mono ?_
  rintro e w2 ⟨rfl, a2⟩
  have b2_ : After w w2 := after_after a1 a2
  obtain ⟨f0_, f1_, f2_, f3_, f4_, f5_, f6_, f7_, f8_⟩ := HK.out w2 a2
  go_wp2_with fail
  go_ret
  exact ⟨rfl, b2_⟩

set_option maxRecDepth 100000 in
set_option maxHeartbeats 8000000 in
theorem one_lim2 {w0 : World} {A c_ A' cm_ m} (x : RIm w0 A c_ A' cm_ m) (w : World) (hO : Ops w0) (hw : After w0 w) (k_ : Nat) (hk_ : k_ < m.rts.length) (r : Rtn) (hr : m.rts[k_]? = some r) (hbd : ∀ t, t ∈ r.ins ∨ t ∈ r.outs → t ≤ 9223372036854775807)
    (hq0 : nameB r.name = true) (hl1 : r.ins.length ≤ 64) (hl2 : r.outs.length ≤ 64) (hl : 16384 < r.init.length) :
    Calls Tryd.prog 41 #[.agg #[.slice A m.enums.length c_, .slice A' m.rts.length cm_], .int .i64 k_] w fun e w' => e = .returned (.int .i64 (3)) ∧ After w w' := by
  have hl_ := x.rts.len
  have hkI : (k_ : Int) < (m.rts.length : Int) := by omega
  obtain ⟨bq, pq, s, A1, c1, A2, c2, A3, c3, A4, c4, r9, rfl, hle_, HX, HR, e0, e1, e2, e3, e4, e5⟩ := (x.rts.here w).part hk_
  obtain rfl : r = r9 := by
    have h1 := HX.out
    rw [hr] at h1
    injection h1 with h1
  have hin1 := HR.out.ins.len
  have hin2 := HR.out.outs.len
  have hin3 := HR.out.init.len
  have hin4 := HR.out.code.len
  have hss := HR.out.size
  have HNm : Hid (s.data.toList = r.name) := HR.out.name
  obtain ⟨W1, hW1, HK, a1⟩ : ∃ W1, ((w.alloc (.cells #[.slice A m.enums.length c_, .slice (some ⟨bq, pq, none⟩) m.rts.length cm_] 29)).alloc (.cells #[.string s, .slice A1 r.ins.length c1, .slice A2 r.outs.length c2, .int .i64 r.regs, .slice A3 r.init.length c3, .slice A4 r.code.length c4] 52)) = W1 ∧ Hid (∀ U : World, After W1 U → U.cell? ⟨w.heap.size, 0, none⟩ = some (.slice A m.enums.length c_) ∧ U.cell? ⟨w.heap.size, 1, none⟩ = some (.slice (some ⟨bq, pq, none⟩) m.rts.length cm_) ∧ U.cell? ⟨w.heap.size + 1, 0, none⟩ = some (.string s) ∧ U.cell? ⟨w.heap.size + 1, 1, none⟩ = some (.slice A1 r.ins.length c1) ∧ U.cell? ⟨w.heap.size + 1, 2, none⟩ = some (.slice A2 r.outs.length c2) ∧ U.cell? ⟨w.heap.size + 1, 3, none⟩ = some (.int .i64 r.regs) ∧ U.cell? ⟨w.heap.size + 1, 4, none⟩ = some (.slice A3 r.init.length c3) ∧ U.cell? ⟨w.heap.size + 1, 5, none⟩ = some (.slice A4 r.code.length c4) ∧ Le (w.heap.size + 2) U) ∧ After w W1 := by
    refine ⟨_, rfl, fun U hU => ?_, inferInstance⟩
    have y0 := ((Blk.new w 29 #[.slice A m.enums.length c_, .slice (some ⟨bq, pq, none⟩) m.rts.length cm_]).alloc (.cells #[.string s, .slice A1 r.ins.length c1, .slice A2 r.outs.length c2, .int .i64 r.regs, .slice A3 r.init.length c3, .slice A4 r.code.length c4] 52)).after (w' := U)
    have y1 := (Blk.new1 w (.cells #[.slice A m.enums.length c_, .slice (some ⟨bq, pq, none⟩) m.rts.length cm_] 29) 52 #[.string s, .slice A1 r.ins.length c1, .slice A2 r.outs.length c2, .int .i64 r.regs, .slice A3 r.init.length c3, .slice A4 r.code.length c4]).after (w' := U)
    exact ⟨by rw [y0.cell]; rfl, by rw [y0.cell]; rfl, by rw [y1.cell]; rfl, by rw [y1.cell]; rfl, by rw [y1.cell]; rfl, by rw [y1.cell]; rfl, by rw [y1.cell]; rfl, by rw [y1.cell]; rfl, y1.is_le⟩
  have m1 : ¬ ((64 : Int) < max (r.ins.length : Int) (r.outs.length : Int)) := by omega
  have m2 : (16384 : Int) < (r.init.length : Int) := by omega
  clear hl
  have HT := Lib.hid (fun U : World => title_any s hss U)
  rw [HNm.out] at HT
  rw [hq0] at HT
  have x' := Lib.hid x
  clear x
  obtain ⟨f0_, f1_, f2_, f3_, f4_, f5_, f6_, f7_, f8_⟩ := HK.out W1 inferInstance
  go_enter Tryd.func41, Tryd.ntmps41
  go_wp2_with fail
  try rw [hW1]
  clear hW1
  refine (HT.out _).mono ?_
  rintro e w2 ⟨rfl, a2⟩
  have b2_ : After w w2 := after_after a1 a2
  obtain ⟨f0_, f1_, f2_, f3_, f4_, f5_, f6_, f7_, f8_⟩ := HK.out w2 a2
  go_wp2_with fail
  go_ret
  exact ⟨rfl, b2_⟩

set_option maxRecDepth 100000 in
set_option maxHeartbeats 8000000 in
theorem one_lim3 {w0 : World} {A c_ A' cm_ m} (x : RIm w0 A c_ A' cm_ m) (w : World) (hO : Ops w0) (hw : After w0 w) (k_ : Nat) (hk_ : k_ < m.rts.length) (r : Rtn) (hr : m.rts[k_]? = some r) (hbd : ∀ t, t ∈ r.ins ∨ t ∈ r.outs → t ≤ 9223372036854775807)
    (hq0 : nameB r.name = true) (hl1 : r.ins.length ≤ 64) (hl2 : r.outs.length ≤ 64) (hl3 : r.init.length ≤ 16384) (hl : 32768 < r.code.length ∨ 32768 < r.regs) :
    Calls Tryd.prog 41 #[.agg #[.slice A m.enums.length c_, .slice A' m.rts.length cm_], .int .i64 k_] w fun e w' => e = .returned (.int .i64 (3)) ∧ After w w' := by
  have hl_ := x.rts.len
  have hkI : (k_ : Int) < (m.rts.length : Int) := by omega
  obtain ⟨bq, pq, s, A1, c1, A2, c2, A3, c3, A4, c4, r9, rfl, hle_, HX, HR, e0, e1, e2, e3, e4, e5⟩ := (x.rts.here w).part hk_
  obtain rfl : r = r9 := by
    have h1 := HX.out
    rw [hr] at h1
    injection h1 with h1
  have hin1 := HR.out.ins.len
  have hin2 := HR.out.outs.len
  have hin3 := HR.out.init.len
  have hin4 := HR.out.code.len
  have hss := HR.out.size
  have HNm : Hid (s.data.toList = r.name) := HR.out.name
  obtain ⟨W1, hW1, HK, a1⟩ : ∃ W1, ((w.alloc (.cells #[.slice A m.enums.length c_, .slice (some ⟨bq, pq, none⟩) m.rts.length cm_] 29)).alloc (.cells #[.string s, .slice A1 r.ins.length c1, .slice A2 r.outs.length c2, .int .i64 r.regs, .slice A3 r.init.length c3, .slice A4 r.code.length c4] 52)) = W1 ∧ Hid (∀ U : World, After W1 U → U.cell? ⟨w.heap.size, 0, none⟩ = some (.slice A m.enums.length c_) ∧ U.cell? ⟨w.heap.size, 1, none⟩ = some (.slice (some ⟨bq, pq, none⟩) m.rts.length cm_) ∧ U.cell? ⟨w.heap.size + 1, 0, none⟩ = some (.string s) ∧ U.cell? ⟨w.heap.size + 1, 1, none⟩ = some (.slice A1 r.ins.length c1) ∧ U.cell? ⟨w.heap.size + 1, 2, none⟩ = some (.slice A2 r.outs.length c2) ∧ U.cell? ⟨w.heap.size + 1, 3, none⟩ = some (.int .i64 r.regs) ∧ U.cell? ⟨w.heap.size + 1, 4, none⟩ = some (.slice A3 r.init.length c3) ∧ U.cell? ⟨w.heap.size + 1, 5, none⟩ = some (.slice A4 r.code.length c4) ∧ Le (w.heap.size + 2) U) ∧ After w W1 := by
    refine ⟨_, rfl, fun U hU => ?_, inferInstance⟩
    have y0 := ((Blk.new w 29 #[.slice A m.enums.length c_, .slice (some ⟨bq, pq, none⟩) m.rts.length cm_]).alloc (.cells #[.string s, .slice A1 r.ins.length c1, .slice A2 r.outs.length c2, .int .i64 r.regs, .slice A3 r.init.length c3, .slice A4 r.code.length c4] 52)).after (w' := U)
    have y1 := (Blk.new1 w (.cells #[.slice A m.enums.length c_, .slice (some ⟨bq, pq, none⟩) m.rts.length cm_] 29) 52 #[.string s, .slice A1 r.ins.length c1, .slice A2 r.outs.length c2, .int .i64 r.regs, .slice A3 r.init.length c3, .slice A4 r.code.length c4]).after (w' := U)
    exact ⟨by rw [y0.cell]; rfl, by rw [y0.cell]; rfl, by rw [y1.cell]; rfl, by rw [y1.cell]; rfl, by rw [y1.cell]; rfl, by rw [y1.cell]; rfl, by rw [y1.cell]; rfl, by rw [y1.cell]; rfl, y1.is_le⟩
  have m1 : ¬ ((64 : Int) < max (r.ins.length : Int) (r.outs.length : Int)) := by omega
  have m2 : ¬ ((16384 : Int) < (r.init.length : Int)) := by omega
  have m3 : (32768 : Int) < max (r.code.length : Int) r.regs := by omega
  clear hl
  have HT := Lib.hid (fun U : World => title_any s hss U)
  rw [HNm.out] at HT
  rw [hq0] at HT
  have x' := Lib.hid x
  clear x
  obtain ⟨f0_, f1_, f2_, f3_, f4_, f5_, f6_, f7_, f8_⟩ := HK.out W1 inferInstance
  go_enter Tryd.func41, Tryd.ntmps41
  go_wp2_with fail
  try rw [hW1]
  clear hW1
  refine (HT.out _).mono ?_
  rintro e w2 ⟨rfl, a2⟩
  have b2_ : After w w2 := after_after a1 a2
  obtain ⟨f0_, f1_, f2_, f3_, f4_, f5_, f6_, f7_, f8_⟩ := HK.out w2 a2
  go_wp2_with fail
  go_ret
  exact ⟨rfl, b2_⟩

set_option maxRecDepth 100000 in
set_option maxHeartbeats 8000000 in
theorem one_type {w0 : World} {A c_ A' cm_ m} (x : RIm w0 A c_ A' cm_ m) (w : World) (hO : Ops w0) (hw : After w0 w) (k_ : Nat) (hk_ : k_ < m.rts.length) (r : Rtn) (hr : m.rts[k_]? = some r) (hbd : ∀ t, t ∈ r.ins ∨ t ∈ r.outs → t ≤ 9223372036854775807)
    (hq0 : nameB r.name = true) (hl1 : r.ins.length ≤ 64) (hl2 : r.outs.length ≤ 64) (hl3 : r.init.length ≤ 16384) (hl4 : r.code.length ≤ 32768) (hreg : r.regs ≤ 32768) (hq4 : (r.ins ++ r.outs).any (fun t => !validB m.enums.length t) = true) :
    Calls Tryd.prog 41 #[.agg #[.slice A m.enums.length c_, .slice A' m.rts.length cm_], .int .i64 k_] w fun e w' => e = .returned (.int .i64 (10)) ∧ After w w' := by
  have hl_ := x.rts.len
  have hkI : (k_ : Int) < (m.rts.length : Int) := by omega
  obtain ⟨bq, pq, s, A1, c1, A2, c2, A3, c3, A4, c4, r9, rfl, hle_, HX, HR, e0, e1, e2, e3, e4, e5⟩ := (x.rts.here w).part hk_
  obtain rfl : r = r9 := by
    have h1 := HX.out
    rw [hr] at h1
    injection h1 with h1
  have hin1 := HR.out.ins.len
  have hin2 := HR.out.outs.len
  have hin3 := HR.out.init.len
  have hin4 := HR.out.code.len
  have hss := HR.out.size
  have HNm : Hid (s.data.toList = r.name) := HR.out.name
  obtain ⟨W1, hW1, HK, a1⟩ : ∃ W1, ((w.alloc (.cells #[.slice A m.enums.length c_, .slice (some ⟨bq, pq, none⟩) m.rts.length cm_] 29)).alloc (.cells #[.string s, .slice A1 r.ins.length c1, .slice A2 r.outs.length c2, .int .i64 r.regs, .slice A3 r.init.length c3, .slice A4 r.code.length c4] 52)) = W1 ∧ Hid (∀ U : World, After W1 U → U.cell? ⟨w.heap.size, 0, none⟩ = some (.slice A m.enums.length c_) ∧ U.cell? ⟨w.heap.size, 1, none⟩ = some (.slice (some ⟨bq, pq, none⟩) m.rts.length cm_) ∧ U.cell? ⟨w.heap.size + 1, 0, none⟩ = some (.string s) ∧ U.cell? ⟨w.heap.size + 1, 1, none⟩ = some (.slice A1 r.ins.length c1) ∧ U.cell? ⟨w.heap.size + 1, 2, none⟩ = some (.slice A2 r.outs.length c2) ∧ U.cell? ⟨w.heap.size + 1, 3, none⟩ = some (.int .i64 r.regs) ∧ U.cell? ⟨w.heap.size + 1, 4, none⟩ = some (.slice A3 r.init.length c3) ∧ U.cell? ⟨w.heap.size + 1, 5, none⟩ = some (.slice A4 r.code.length c4) ∧ Le (w.heap.size + 2) U) ∧ After w W1 := by
    refine ⟨_, rfl, fun U hU => ?_, inferInstance⟩
    have y0 := ((Blk.new w 29 #[.slice A m.enums.length c_, .slice (some ⟨bq, pq, none⟩) m.rts.length cm_]).alloc (.cells #[.string s, .slice A1 r.ins.length c1, .slice A2 r.outs.length c2, .int .i64 r.regs, .slice A3 r.init.length c3, .slice A4 r.code.length c4] 52)).after (w' := U)
    have y1 := (Blk.new1 w (.cells #[.slice A m.enums.length c_, .slice (some ⟨bq, pq, none⟩) m.rts.length cm_] 29) 52 #[.string s, .slice A1 r.ins.length c1, .slice A2 r.outs.length c2, .int .i64 r.regs, .slice A3 r.init.length c3, .slice A4 r.code.length c4]).after (w' := U)
    exact ⟨by rw [y0.cell]; rfl, by rw [y0.cell]; rfl, by rw [y1.cell]; rfl, by rw [y1.cell]; rfl, by rw [y1.cell]; rfl, by rw [y1.cell]; rfl, by rw [y1.cell]; rfl, by rw [y1.cell]; rfl, y1.is_le⟩
  have m1 : ¬ ((64 : Int) < max (r.ins.length : Int) (r.outs.length : Int)) := by omega
  have m2 : ¬ ((16384 : Int) < (r.init.length : Int)) := by omega
  have m3 : ¬ ((32768 : Int) < max (r.code.length : Int) r.regs) := by omega
  have HT := Lib.hid (fun U : World => title_any s hss U)
  rw [HNm.out] at HT
  rw [hq0] at HT
  have x' := Lib.hid x
  clear x
  obtain ⟨f0_, f1_, f2_, f3_, f4_, f5_, f6_, f7_, f8_⟩ := HK.out W1 inferInstance
  go_enter Tryd.func41, Tryd.ntmps41
  go_wp2_with fail
  try rw [hW1]
  clear hW1
  refine (HT.out _).mono ?_
  rintro e w2 ⟨rfl, a2⟩
  have b2_ : After w w2 := after_after a1 a2
  obtain ⟨f0_, f1_, f2_, f3_, f4_, f5_, f6_, f7_, f8_⟩ := HK.out w2 a2
  go_wp2_with fail
  have zp := Lib.hid (Blk.new w2 26 #[.slice A1 r.ins.length c1, .slice A2 r.outs.length c2])
  have lp := zp.out.is_le
  have HCc := Lib.hid (concat_any (HR.out.ins) (HR.out.outs) hl1 hl2 (w2.alloc (.cells #[.slice A1 r.ins.length c1, .slice A2 r.outs.length c2] 26)) (after_after b2_ inferInstance) w2.heap.size lp (by rw [zp.out.cell]; rfl) (by rw [zp.out.cell]; rfl))
  refine HCc.out.mono ?_
  rintro e w3 ⟨A9, c9, rfl, x9, a3⟩
  have b3_ : After W1 w3 := after_after a2 (after_after inferInstance a3)
  have d3_ : After w w3 := after_after a1 b3_
  clear f0_ f1_ f2_ f3_ f4_ f5_ f6_ f7_ f8_
  obtain ⟨f0_, f1_, f2_, f3_, f4_, f5_, f6_, f7_, f8_⟩ := HK.out w3 b3_
  have X9 := Lib.hid x9
  have HTy := Lib.hid (containsf_any X9.out w3 inferInstance 47 #[.pointer (some ⟨w.heap.size, 0, none⟩)] (enters_of Tryd.func47 (by kernel_rfl) rfl) (fun t => !validB m.enums.length t) (fun U z hU hz => by
    have hUU := HK.out U (after_after b3_ hU)
    have h_ := lit_types x'.out U (after_after hw (after_after d3_ hU)) w.heap.size hUU.1 hUU.2.1 z (hbd z (List.mem_append.1 hz))
    exact h_))
  rw [hq4, List.length_append] at HTy
  clear x9 zp HCc a3
  go_wp2_with fail
  refine HTy.out.mono ?_
  rintro e w4 ⟨rfl, a4⟩
  have b4_ : After W1 w4 := after_after b3_ a4
  have d4_ : After w w4 := after_after a1 b4_
  clear f0_ f1_ f2_ f3_ f4_ f5_ f6_ f7_ f8_
  obtain ⟨f0_, f1_, f2_, f3_, f4_, f5_, f6_, f7_, f8_⟩ := HK.out w4 b4_
  go_wp2_with fail
  go_ret
  exact ⟨rfl, d4_⟩

set_option maxRecDepth 100000 in
set_option maxHeartbeats 8000000 in
theorem one_arity {w0 : World} {A c_ A' cm_ m} (x : RIm w0 A c_ A' cm_ m) (w : World) (hO : Ops w0) (hw : After w0 w) (k_ : Nat) (hk_ : k_ < m.rts.length) (r : Rtn) (hr : m.rts[k_]? = some r) (hbd : ∀ t, t ∈ r.ins ∨ t ∈ r.outs → t ≤ 9223372036854775807)
    (hq0 : nameB r.name = true) (hl1 : r.ins.length ≤ 64) (hl2 : r.outs.length ≤ 64) (hl3 : r.init.length ≤ 16384) (hl4 : r.code.length ≤ 32768) (hreg : r.regs ≤ 32768) (hq4 : (r.ins ++ r.outs).any (fun t => !validB m.enums.length t) = false) (har : r.regs < (r.ins.length : Int) + (r.outs.length : Int)) :
    Calls Tryd.prog 41 #[.agg #[.slice A m.enums.length c_, .slice A' m.rts.length cm_], .int .i64 k_] w fun e w' => e = .returned (.int .i64 (9)) ∧ After w w' := by
  have hl_ := x.rts.len
  have hkI : (k_ : Int) < (m.rts.length : Int) := by omega
  obtain ⟨bq, pq, s, A1, c1, A2, c2, A3, c3, A4, c4, r9, rfl, hle_, HX, HR, e0, e1, e2, e3, e4, e5⟩ := (x.rts.here w).part hk_
  obtain rfl : r = r9 := by
    have h1 := HX.out
    rw [hr] at h1
    injection h1 with h1
  have hin1 := HR.out.ins.len
  have hin2 := HR.out.outs.len
  have hin3 := HR.out.init.len
  have hin4 := HR.out.code.len
  have hss := HR.out.size
  have HNm : Hid (s.data.toList = r.name) := HR.out.name
  obtain ⟨W1, hW1, HK, a1⟩ : ∃ W1, ((w.alloc (.cells #[.slice A m.enums.length c_, .slice (some ⟨bq, pq, none⟩) m.rts.length cm_] 29)).alloc (.cells #[.string s, .slice A1 r.ins.length c1, .slice A2 r.outs.length c2, .int .i64 r.regs, .slice A3 r.init.length c3, .slice A4 r.code.length c4] 52)) = W1 ∧ Hid (∀ U : World, After W1 U → U.cell? ⟨w.heap.size, 0, none⟩ = some (.slice A m.enums.length c_) ∧ U.cell? ⟨w.heap.size, 1, none⟩ = some (.slice (some ⟨bq, pq, none⟩) m.rts.length cm_) ∧ U.cell? ⟨w.heap.size + 1, 0, none⟩ = some (.string s) ∧ U.cell? ⟨w.heap.size + 1, 1, none⟩ = some (.slice A1 r.ins.length c1) ∧ U.cell? ⟨w.heap.size + 1, 2, none⟩ = some (.slice A2 r.outs.length c2) ∧ U.cell? ⟨w.heap.size + 1, 3, none⟩ = some (.int .i64 r.regs) ∧ U.cell? ⟨w.heap.size + 1, 4, none⟩ = some (.slice A3 r.init.length c3) ∧ U.cell? ⟨w.heap.size + 1, 5, none⟩ = some (.slice A4 r.code.length c4) ∧ Le (w.heap.size + 2) U) ∧ After w W1 := by
    refine ⟨_, rfl, fun U hU => ?_, inferInstance⟩
    have y0 := ((Blk.new w 29 #[.slice A m.enums.length c_, .slice (some ⟨bq, pq, none⟩) m.rts.length cm_]).alloc (.cells #[.string s, .slice A1 r.ins.length c1, .slice A2 r.outs.length c2, .int .i64 r.regs, .slice A3 r.init.length c3, .slice A4 r.code.length c4] 52)).after (w' := U)
    have y1 := (Blk.new1 w (.cells #[.slice A m.enums.length c_, .slice (some ⟨bq, pq, none⟩) m.rts.length cm_] 29) 52 #[.string s, .slice A1 r.ins.length c1, .slice A2 r.outs.length c2, .int .i64 r.regs, .slice A3 r.init.length c3, .slice A4 r.code.length c4]).after (w' := U)
    exact ⟨by rw [y0.cell]; rfl, by rw [y0.cell]; rfl, by rw [y1.cell]; rfl, by rw [y1.cell]; rfl, by rw [y1.cell]; rfl, by rw [y1.cell]; rfl, by rw [y1.cell]; rfl, by rw [y1.cell]; rfl, y1.is_le⟩
  have m1 : ¬ ((64 : Int) < max (r.ins.length : Int) (r.outs.length : Int)) := by omega
  have m2 : ¬ ((16384 : Int) < (r.init.length : Int)) := by omega
  have m3 : ¬ ((32768 : Int) < max (r.code.length : Int) r.regs) := by omega
  have hwr : IntKind.i64.wrap ((r.ins.length : Int) + (r.outs.length : Int)) = (r.ins.length : Int) + (r.outs.length : Int) := IntWalk.i64_in _ (by omega)
  have HT := Lib.hid (fun U : World => title_any s hss U)
  rw [HNm.out] at HT
  rw [hq0] at HT
  have x' := Lib.hid x
  clear x
  obtain ⟨f0_, f1_, f2_, f3_, f4_, f5_, f6_, f7_, f8_⟩ := HK.out W1 inferInstance
  go_enter Tryd.func41, Tryd.ntmps41
  go_wp2_with fail
  try rw [hW1]
  clear hW1
  refine (HT.out _).mono ?_
  rintro e w2 ⟨rfl, a2⟩
  have b2_ : After w w2 := after_after a1 a2
  obtain ⟨f0_, f1_, f2_, f3_, f4_, f5_, f6_, f7_, f8_⟩ := HK.out w2 a2
  go_wp2_with fail
  have zp := Lib.hid (Blk.new w2 26 #[.slice A1 r.ins.length c1, .slice A2 r.outs.length c2])
  have lp := zp.out.is_le
  have HCc := Lib.hid (concat_any (HR.out.ins) (HR.out.outs) hl1 hl2 (w2.alloc (.cells #[.slice A1 r.ins.length c1, .slice A2 r.outs.length c2] 26)) (after_after b2_ inferInstance) w2.heap.size lp (by rw [zp.out.cell]; rfl) (by rw [zp.out.cell]; rfl))
  refine HCc.out.mono ?_
  rintro e w3 ⟨A9, c9, rfl, x9, a3⟩
  have b3_ : After W1 w3 := after_after a2 (after_after inferInstance a3)
  have d3_ : After w w3 := after_after a1 b3_
  clear f0_ f1_ f2_ f3_ f4_ f5_ f6_ f7_ f8_
  obtain ⟨f0_, f1_, f2_, f3_, f4_, f5_, f6_, f7_, f8_⟩ := HK.out w3 b3_
  have X9 := Lib.hid x9
  have HTy := Lib.hid (containsf_any X9.out w3 inferInstance 47 #[.pointer (some ⟨w.heap.size, 0, none⟩)] (enters_of Tryd.func47 (by kernel_rfl) rfl) (fun t => !validB m.enums.length t) (fun U z hU hz => by
    have hUU := HK.out U (after_after b3_ hU)
    have h_ := lit_types x'.out U (after_after hw (after_after d3_ hU)) w.heap.size hUU.1 hUU.2.1 z (hbd z (List.mem_append.1 hz))
    exact h_))
  rw [hq4, List.length_append] at HTy
  clear x9 zp HCc a3
  go_wp2_with fail
  refine HTy.out.mono ?_
  rintro e w4 ⟨rfl, a4⟩
  have b4_ : After W1 w4 := after_after b3_ a4
  have d4_ : After w w4 := after_after a1 b4_
  clear f0_ f1_ f2_ f3_ f4_ f5_ f6_ f7_ f8_
  obtain ⟨f0_, f1_, f2_, f3_, f4_, f5_, f6_, f7_, f8_⟩ := HK.out w4 b4_
  go_wp2_with fail
  go_ret
  exact ⟨rfl, d4_⟩

set_option maxRecDepth 100000 in
set_option maxHeartbeats 8000000 in
theorem one_init {w0 : World} {A c_ A' cm_ m} (x : RIm w0 A c_ A' cm_ m) (w : World) (hO : Ops w0) (hw : After w0 w) (k_ : Nat) (hk_ : k_ < m.rts.length) (r : Rtn) (hr : m.rts[k_]? = some r) (hbd : ∀ t, t ∈ r.ins ∨ t ∈ r.outs → t ≤ 9223372036854775807)
    (hq0 : nameB r.name = true) (hl1 : r.ins.length ≤ 64) (hl2 : r.outs.length ≤ 64) (hl3 : r.init.length ≤ 16384) (hl4 : r.code.length ≤ 32768) (hreg : r.regs ≤ 32768) (hq4 : (r.ins ++ r.outs).any (fun t => !validB m.enums.length t) = false) (har : ¬ (r.regs < (r.ins.length : Int) + (r.outs.length : Int))) (hq6 : r.init.any (fun z => !inB z) = true) :
    Calls Tryd.prog 41 #[.agg #[.slice A m.enums.length c_, .slice A' m.rts.length cm_], .int .i64 k_] w fun e w' => e = .returned (.int .i64 (14)) ∧ After w w' := by
  have hl_ := x.rts.len
  have hkI : (k_ : Int) < (m.rts.length : Int) := by omega
  obtain ⟨bq, pq, s, A1, c1, A2, c2, A3, c3, A4, c4, r9, rfl, hle_, HX, HR, e0, e1, e2, e3, e4, e5⟩ := (x.rts.here w).part hk_
  obtain rfl : r = r9 := by
    have h1 := HX.out
    rw [hr] at h1
    injection h1 with h1
  have hin1 := HR.out.ins.len
  have hin2 := HR.out.outs.len
  have hin3 := HR.out.init.len
  have hin4 := HR.out.code.len
  have hss := HR.out.size
  have HNm : Hid (s.data.toList = r.name) := HR.out.name
  obtain ⟨W1, hW1, HK, a1⟩ : ∃ W1, ((w.alloc (.cells #[.slice A m.enums.length c_, .slice (some ⟨bq, pq, none⟩) m.rts.length cm_] 29)).alloc (.cells #[.string s, .slice A1 r.ins.length c1, .slice A2 r.outs.length c2, .int .i64 r.regs, .slice A3 r.init.length c3, .slice A4 r.code.length c4] 52)) = W1 ∧ Hid (∀ U : World, After W1 U → U.cell? ⟨w.heap.size, 0, none⟩ = some (.slice A m.enums.length c_) ∧ U.cell? ⟨w.heap.size, 1, none⟩ = some (.slice (some ⟨bq, pq, none⟩) m.rts.length cm_) ∧ U.cell? ⟨w.heap.size + 1, 0, none⟩ = some (.string s) ∧ U.cell? ⟨w.heap.size + 1, 1, none⟩ = some (.slice A1 r.ins.length c1) ∧ U.cell? ⟨w.heap.size + 1, 2, none⟩ = some (.slice A2 r.outs.length c2) ∧ U.cell? ⟨w.heap.size + 1, 3, none⟩ = some (.int .i64 r.regs) ∧ U.cell? ⟨w.heap.size + 1, 4, none⟩ = some (.slice A3 r.init.length c3) ∧ U.cell? ⟨w.heap.size + 1, 5, none⟩ = some (.slice A4 r.code.length c4) ∧ Le (w.heap.size + 2) U) ∧ After w W1 := by
    refine ⟨_, rfl, fun U hU => ?_, inferInstance⟩
    have y0 := ((Blk.new w 29 #[.slice A m.enums.length c_, .slice (some ⟨bq, pq, none⟩) m.rts.length cm_]).alloc (.cells #[.string s, .slice A1 r.ins.length c1, .slice A2 r.outs.length c2, .int .i64 r.regs, .slice A3 r.init.length c3, .slice A4 r.code.length c4] 52)).after (w' := U)
    have y1 := (Blk.new1 w (.cells #[.slice A m.enums.length c_, .slice (some ⟨bq, pq, none⟩) m.rts.length cm_] 29) 52 #[.string s, .slice A1 r.ins.length c1, .slice A2 r.outs.length c2, .int .i64 r.regs, .slice A3 r.init.length c3, .slice A4 r.code.length c4]).after (w' := U)
    exact ⟨by rw [y0.cell]; rfl, by rw [y0.cell]; rfl, by rw [y1.cell]; rfl, by rw [y1.cell]; rfl, by rw [y1.cell]; rfl, by rw [y1.cell]; rfl, by rw [y1.cell]; rfl, by rw [y1.cell]; rfl, y1.is_le⟩
  have m1 : ¬ ((64 : Int) < max (r.ins.length : Int) (r.outs.length : Int)) := by omega
  have m2 : ¬ ((16384 : Int) < (r.init.length : Int)) := by omega
  have m3 : ¬ ((32768 : Int) < max (r.code.length : Int) r.regs) := by omega
  have hwr : IntKind.i64.wrap ((r.ins.length : Int) + (r.outs.length : Int)) = (r.ins.length : Int) + (r.outs.length : Int) := IntWalk.i64_in _ (by omega)
  have HT := Lib.hid (fun U : World => title_any s hss U)
  rw [HNm.out] at HT
  rw [hq0] at HT
  have x' := Lib.hid x
  clear x
  obtain ⟨f0_, f1_, f2_, f3_, f4_, f5_, f6_, f7_, f8_⟩ := HK.out W1 inferInstance
  go_enter Tryd.func41, Tryd.ntmps41
  go_wp2_with fail
  try rw [hW1]
  clear hW1
  refine (HT.out _).mono ?_
  rintro e w2 ⟨rfl, a2⟩
  have b2_ : After w w2 := after_after a1 a2
  obtain ⟨f0_, f1_, f2_, f3_, f4_, f5_, f6_, f7_, f8_⟩ := HK.out w2 a2
  go_wp2_with fail
  have zp := Lib.hid (Blk.new w2 26 #[.slice A1 r.ins.length c1, .slice A2 r.outs.length c2])
  have lp := zp.out.is_le
  have HCc := Lib.hid (concat_any (HR.out.ins) (HR.out.outs) hl1 hl2 (w2.alloc (.cells #[.slice A1 r.ins.length c1, .slice A2 r.outs.length c2] 26)) (after_after b2_ inferInstance) w2.heap.size lp (by rw [zp.out.cell]; rfl) (by rw [zp.out.cell]; rfl))
  refine HCc.out.mono ?_
  rintro e w3 ⟨A9, c9, rfl, x9, a3⟩
  have b3_ : After W1 w3 := after_after a2 (after_after inferInstance a3)
  have d3_ : After w w3 := after_after a1 b3_
  clear f0_ f1_ f2_ f3_ f4_ f5_ f6_ f7_ f8_
  obtain ⟨f0_, f1_, f2_, f3_, f4_, f5_, f6_, f7_, f8_⟩ := HK.out w3 b3_
  have X9 := Lib.hid x9
  have HTy := Lib.hid (containsf_any X9.out w3 inferInstance 47 #[.pointer (some ⟨w.heap.size, 0, none⟩)] (enters_of Tryd.func47 (by kernel_rfl) rfl) (fun t => !validB m.enums.length t) (fun U z hU hz => by
    have hUU := HK.out U (after_after b3_ hU)
    have h_ := lit_types x'.out U (after_after hw (after_after d3_ hU)) w.heap.size hUU.1 hUU.2.1 z (hbd z (List.mem_append.1 hz))
    exact h_))
  rw [hq4, List.length_append] at HTy
  clear x9 zp HCc a3
  go_wp2_with fail
  refine HTy.out.mono ?_
  rintro e w4 ⟨rfl, a4⟩
  have b4_ : After W1 w4 := after_after b3_ a4
  have d4_ : After w w4 := after_after a1 b4_
  clear f0_ f1_ f2_ f3_ f4_ f5_ f6_ f7_ f8_
  obtain ⟨f0_, f1_, f2_, f3_, f4_, f5_, f6_, f7_, f8_⟩ := HK.out w4 b4_
  go_wp2_with fail
  have HIn := Lib.hid (containsf_any (HR.out.init) w4 d4_ 49 #[] (enters_of Tryd.func49 (by kernel_rfl) rfl) (fun z => !inB z) (fun U z hU hz => lit_vals U z))
  rw [hq6] at HIn
  refine HIn.out.mono ?_
  rintro e w5 ⟨rfl, a5⟩
  have b5_ : After W1 w5 := after_after b4_ a5
  have d5_ : After w w5 := after_after a1 b5_
  clear f0_ f1_ f2_ f3_ f4_ f5_ f6_ f7_ f8_
  obtain ⟨f0_, f1_, f2_, f3_, f4_, f5_, f6_, f7_, f8_⟩ := HK.out w5 b5_
  go_wp2_with fail
  go_ret
  exact ⟨rfl, d5_⟩

set_option maxRecDepth 100000 in
set_option maxHeartbeats 8000000 in
theorem one_code {w0 : World} {A c_ A' cm_ m} (x : RIm w0 A c_ A' cm_ m) (w : World) (hO : Ops w0) (hw : After w0 w) (k_ : Nat) (hk_ : k_ < m.rts.length) (r : Rtn) (hr : m.rts[k_]? = some r) (hbd : ∀ t, t ∈ r.ins ∨ t ∈ r.outs → t ≤ 9223372036854775807)
    (hq0 : nameB r.name = true) (hl1 : r.ins.length ≤ 64) (hl2 : r.outs.length ≤ 64) (hl3 : r.init.length ≤ 16384) (hl4 : r.code.length ≤ 32768) (hreg : r.regs ≤ 32768) (hq4 : (r.ins ++ r.outs).any (fun t => !validB m.enums.length t) = false) (har : ¬ (r.regs < (r.ins.length : Int) + (r.outs.length : Int))) (hq6 : r.init.any (fun z => !inB z) = false) :
    Calls Tryd.prog 41 #[.agg #[.slice A m.enums.length c_, .slice A' m.rts.length cm_], .int .i64 k_] w fun e w' => e = .returned (.int .i64 (codeE m r k_ 0 r.code)) ∧ After w w' := by
  have hl_ := x.rts.len
  have hkI : (k_ : Int) < (m.rts.length : Int) := by omega
  obtain ⟨bq, pq, s, A1, c1, A2, c2, A3, c3, A4, c4, r9, rfl, hle_, HX, HR, e0, e1, e2, e3, e4, e5⟩ := (x.rts.here w).part hk_
  obtain rfl : r = r9 := by
    have h1 := HX.out
    rw [hr] at h1
    injection h1 with h1
  have hin1 := HR.out.ins.len
  have hin2 := HR.out.outs.len
  have hin3 := HR.out.init.len
  have hin4 := HR.out.code.len
  have hss := HR.out.size
  have HNm : Hid (s.data.toList = r.name) := HR.out.name
  obtain ⟨W1, hW1, HK, a1⟩ : ∃ W1, ((w.alloc (.cells #[.slice A m.enums.length c_, .slice (some ⟨bq, pq, none⟩) m.rts.length cm_] 29)).alloc (.cells #[.string s, .slice A1 r.ins.length c1, .slice A2 r.outs.length c2, .int .i64 r.regs, .slice A3 r.init.length c3, .slice A4 r.code.length c4] 52)) = W1 ∧ Hid (∀ U : World, After W1 U → U.cell? ⟨w.heap.size, 0, none⟩ = some (.slice A m.enums.length c_) ∧ U.cell? ⟨w.heap.size, 1, none⟩ = some (.slice (some ⟨bq, pq, none⟩) m.rts.length cm_) ∧ U.cell? ⟨w.heap.size + 1, 0, none⟩ = some (.string s) ∧ U.cell? ⟨w.heap.size + 1, 1, none⟩ = some (.slice A1 r.ins.length c1) ∧ U.cell? ⟨w.heap.size + 1, 2, none⟩ = some (.slice A2 r.outs.length c2) ∧ U.cell? ⟨w.heap.size + 1, 3, none⟩ = some (.int .i64 r.regs) ∧ U.cell? ⟨w.heap.size + 1, 4, none⟩ = some (.slice A3 r.init.length c3) ∧ U.cell? ⟨w.heap.size + 1, 5, none⟩ = some (.slice A4 r.code.length c4) ∧ Le (w.heap.size + 2) U) ∧ After w W1 := by
    refine ⟨_, rfl, fun U hU => ?_, inferInstance⟩
    have y0 := ((Blk.new w 29 #[.slice A m.enums.length c_, .slice (some ⟨bq, pq, none⟩) m.rts.length cm_]).alloc (.cells #[.string s, .slice A1 r.ins.length c1, .slice A2 r.outs.length c2, .int .i64 r.regs, .slice A3 r.init.length c3, .slice A4 r.code.length c4] 52)).after (w' := U)
    have y1 := (Blk.new1 w (.cells #[.slice A m.enums.length c_, .slice (some ⟨bq, pq, none⟩) m.rts.length cm_] 29) 52 #[.string s, .slice A1 r.ins.length c1, .slice A2 r.outs.length c2, .int .i64 r.regs, .slice A3 r.init.length c3, .slice A4 r.code.length c4]).after (w' := U)
    exact ⟨by rw [y0.cell]; rfl, by rw [y0.cell]; rfl, by rw [y1.cell]; rfl, by rw [y1.cell]; rfl, by rw [y1.cell]; rfl, by rw [y1.cell]; rfl, by rw [y1.cell]; rfl, by rw [y1.cell]; rfl, y1.is_le⟩
  have m1 : ¬ ((64 : Int) < max (r.ins.length : Int) (r.outs.length : Int)) := by omega
  have m2 : ¬ ((16384 : Int) < (r.init.length : Int)) := by omega
  have m3 : ¬ ((32768 : Int) < max (r.code.length : Int) r.regs) := by omega
  have hwr : IntKind.i64.wrap ((r.ins.length : Int) + (r.outs.length : Int)) = (r.ins.length : Int) + (r.outs.length : Int) := IntWalk.i64_in _ (by omega)
  obtain ⟨T, hT⟩ : ∃ T, codeE m r k_ 0 r.code = T := ⟨_, rfl⟩
  rw [hT]
  have HTc := Lib.hid hT
  clear hT
  have HT := Lib.hid (fun U : World => title_any s hss U)
  rw [HNm.out] at HT
  rw [hq0] at HT
  have x' := Lib.hid x
  clear x
  obtain ⟨f0_, f1_, f2_, f3_, f4_, f5_, f6_, f7_, f8_⟩ := HK.out W1 inferInstance
  go_enter Tryd.func41, Tryd.ntmps41
  go_wp2_with fail
  try rw [hW1]
  clear hW1
  refine (HT.out _).mono ?_
  rintro e w2 ⟨rfl, a2⟩
  have b2_ : After w w2 := after_after a1 a2
  obtain ⟨f0_, f1_, f2_, f3_, f4_, f5_, f6_, f7_, f8_⟩ := HK.out w2 a2
  go_wp2_with fail
  have zp := Lib.hid (Blk.new w2 26 #[.slice A1 r.ins.length c1, .slice A2 r.outs.length c2])
  have lp := zp.out.is_le
  have HCc := Lib.hid (concat_any (HR.out.ins) (HR.out.outs) hl1 hl2 (w2.alloc (.cells #[.slice A1 r.ins.length c1, .slice A2 r.outs.length c2] 26)) (after_after b2_ inferInstance) w2.heap.size lp (by rw [zp.out.cell]; rfl) (by rw [zp.out.cell]; rfl))
  refine HCc.out.mono ?_
  rintro e w3 ⟨A9, c9, rfl, x9, a3⟩
  have b3_ : After W1 w3 := after_after a2 (after_after inferInstance a3)
  have d3_ : After w w3 := after_after a1 b3_
  clear f0_ f1_ f2_ f3_ f4_ f5_ f6_ f7_ f8_
  obtain ⟨f0_, f1_, f2_, f3_, f4_, f5_, f6_, f7_, f8_⟩ := HK.out w3 b3_
  have X9 := Lib.hid x9
  have HTy := Lib.hid (containsf_any X9.out w3 inferInstance 47 #[.pointer (some ⟨w.heap.size, 0, none⟩)] (enters_of Tryd.func47 (by kernel_rfl) rfl) (fun t => !validB m.enums.length t) (fun U z hU hz => by
    have hUU := HK.out U (after_after b3_ hU)
    have h_ := lit_types x'.out U (after_after hw (after_after d3_ hU)) w.heap.size hUU.1 hUU.2.1 z (hbd z (List.mem_append.1 hz))
    exact h_))
  rw [hq4, List.length_append] at HTy
  clear x9 zp HCc a3
  go_wp2_with fail
  refine HTy.out.mono ?_
  rintro e w4 ⟨rfl, a4⟩
  have b4_ : After W1 w4 := after_after b3_ a4
  have d4_ : After w w4 := after_after a1 b4_
  clear f0_ f1_ f2_ f3_ f4_ f5_ f6_ f7_ f8_
  obtain ⟨f0_, f1_, f2_, f3_, f4_, f5_, f6_, f7_, f8_⟩ := HK.out w4 b4_
  go_wp2_with fail
  have HIn := Lib.hid (containsf_any (HR.out.init) w4 d4_ 49 #[] (enters_of Tryd.func49 (by kernel_rfl) rfl) (fun z => !inB z) (fun U z hU hz => lit_vals U z))
  rw [hq6] at HIn
  refine HIn.out.mono ?_
  rintro e w5 ⟨rfl, a5⟩
  have b5_ : After W1 w5 := after_after b4_ a5
  have d5_ : After w w5 := after_after a1 b5_
  clear f0_ f1_ f2_ f3_ f4_ f5_ f6_ f7_ f8_
  obtain ⟨f0_, f1_, f2_, f3_, f4_, f5_, f6_, f7_, f8_⟩ := HK.out w5 b5_
  go_wp2_with fail
  go_loopw [69] (fun i wr => ∃ j : Nat, j ≤ r.code.length ∧ i = .int .i64 (j : Nat) ∧ Hid (codeE m r k_ j (r.code.drop j) = T) ∧ After w5 wr) (fun i _ => r.code.length - (intOf i).toNat)
  case atStart => exact ⟨0, by omega, rfl, HTc, inferInstance⟩
  case round =>
    obtain ⟨j, hj, rfl, HJ, ar⟩ := hrel
    have br : After W1 wr := after_after b5_ ar
    have dr : After w wr := after_after a1 br
    clear f0_ f1_ f2_ f3_ f4_ f5_ f6_ f7_ f8_
    obtain ⟨f0_, f1_, f2_, f3_, f4_, f5_, f6_, f7_, f8_⟩ := HK.out wr br
    by_cases hlt : j < r.code.length
    · have hltI : (j : Int) < (r.code.length : Int) := by omega
      obtain ⟨bc, pc, op, a, b, c, d, rfl, hlc, HC, i0, i1, i2, i3, i4⟩ := (HR.out.code.here wr).part (i := j) hlt
      have HS := Lib.hid (codeE_step (m := m) (k := k_) HC.out)
      have HF := Lib.hid (fun (U : World) (hU : After w0 U) => form_any w0 U hO hU s A1 r.ins.length c1 A2 r.outs.length c2 r.regs A3 r.init.length c3 (some ⟨bc, pc, none⟩) r.code.length c4 j op a b c d)
      have HFo : Hid (formB ⟨op, a, b, c, d⟩ (j : Nat) r.code.length = true → 1 ≤ op ∧ op ≤ 10) := fun h => formB_op h
      obtain ⟨q1, hq1⟩ : ∃ q, formB ⟨op, a, b, c, d⟩ (j : Nat) r.code.length = q := ⟨_, rfl⟩
      rw [hq1] at HF HS HFo
      obtain ⟨g8, hg8⟩ : ∃ g8, wr.heap.size = g8 := ⟨_, rfl⟩
      obtain ⟨W6, hW6, HK6, a6, l6⟩ : ∃ W6, wr.alloc (.cells #[.int .i64 op, .int .i64 a, .int .i64 b, .int .i64 c, .int .i64 d] 61) = W6 ∧ Hid (∀ U : World, After W6 U → U.cell? ⟨g8, 0, none⟩ = some (.int .i64 op) ∧ U.cell? ⟨g8, 1, none⟩ = some (.int .i64 a) ∧ U.cell? ⟨g8, 2, none⟩ = some (.int .i64 b) ∧ U.cell? ⟨g8, 3, none⟩ = some (.int .i64 c) ∧ U.cell? ⟨g8, 4, none⟩ = some (.int .i64 d) ∧ Le (g8 + 1) U) ∧ After wr W6 ∧ wr.heap.size < W6.heap.size := by
        refine ⟨_, rfl, fun U hU => ?_, inferInstance, by rw [size_alloc_]; omega⟩
        have y0 := (Blk.new wr 61 #[.int .i64 op, .int .i64 a, .int .i64 b, .int .i64 c, .int .i64 d]).after (w' := U)
        rw [hg8] at y0
        exact ⟨by rw [y0.cell]; rfl, by rw [y0.cell]; rfl, by rw [y0.cell]; rfl, by rw [y0.cell]; rfl, by rw [y0.cell]; rfl, y0.is_le⟩
      clear hq1 HC
      obtain ⟨f0_, f1_, f2_, f3_, f4_, f5_, f6_, f7_, f8_⟩ := HK.out W6 (after_after br a6)
      obtain ⟨n0_, n1_, n2_, n3_, n4_, n5_⟩ := HK6.out W6 inferInstance
      go_wp2_with fail
      try rw [hW6]
      try rw [hg8]
      clear hW6 hg8
      refine (HF.out W6 (after_after hw (after_after dr a6))).mono ?_
      rintro e w7 ⟨rfl, a7⟩
      have br7 : After W1 w7 := after_after br (after_after a6 a7)
      clear f0_ f1_ f2_ f3_ f4_ f5_ f6_ f7_ f8_
      obtain ⟨f0_, f1_, f2_, f3_, f4_, f5_, f6_, f7_, f8_⟩ := HK.out w7 br7
      obtain ⟨n0_, n1_, n2_, n3_, n4_, n5_⟩ := HK6.out w7 a7
      have d7 : After w w7 := after_after a1 br7
      have e7 : After w5 w7 := after_after ar (after_after a6 a7)
      cases q1 with
      | false =>
        have HE : Hid (T = 5) := by
          show T = 5
          have h_ := HS.out
          rw [HJ.out] at h_
          simpa using h_
        go_wp2_with fail
        go_ret
        exact ⟨by rw [HE.out]; rfl, d7⟩
      | true =>
        have ho := HFo.out rfl
        have HRg := Lib.hid (fun (U : World) (hU : After w0 U) => ranges_any x'.out U hO hU k_ hk_ r hr hreg op a b c d ho)
        obtain ⟨q2, hq2⟩ : ∃ q, rangeB m r k_ ⟨op, a, b, c, d⟩ = q := ⟨_, rfl⟩
        rw [hq2] at HRg HS
        clear hq2 ho
        go_wp2_with fail
        refine (HRg.out w7 (after_after hw d7)).mono ?_
        rintro e w8 ⟨rfl, a8⟩
        have d8 : After w w8 := after_after d7 a8
        have e8 : After w5 w8 := after_after e7 a8
        cases q2 with
        | false =>
          have HE : Hid (T = 14) := by
            show T = 14
            have h_ := HS.out
            rw [HJ.out] at h_
            simpa using h_
          go_wp2_with fail
          go_ret
          exact ⟨by rw [HE.out]; rfl, d8⟩
        | true =>
          have HE : Hid (codeE m r k_ (j + 1) (r.code.drop (j + 1)) = T) := by
            show codeE m r k_ (j + 1) (r.code.drop (j + 1)) = T
            have h_ := HS.out
            rw [HJ.out] at h_
            simpa using h_.symm
          go_wp2_with fail
          go_roundw
          case rel => exact ⟨j + 1, by omega, by go_num, HE, e8⟩
          case measure => simp only [intOf]; omega
    · have HE : Hid (T = 0) := by
        have h_ := codeE_end (m := m) (r := r) (k := k_) (j := j) (by omega)
        rw [HJ.out] at h_
        exact h_
      go_wp2_with fail
      go_ret
      exact ⟨by rw [HE.out]; rfl, dr⟩

theorem any_not {α : Type} (l : List α) (p : α → Bool) : l.any (fun t => !p t) = !l.all p := by
  induction l with
  | nil => rfl
  | cons a l ih => rw [List.any_cons, List.all_cons, ih]; simp
theorem one_any {w0 : World} {A c_ A' cm_ m} (x : RIm w0 A c_ A' cm_ m) (w : World) (hO : Ops w0) (hw : After w0 w) (k_ : Nat) (hk_ : k_ < m.rts.length) (r : Rtn) (hr : m.rts[k_]? = some r) (hbd : ∀ t, t ∈ r.ins ∨ t ∈ r.outs → t ≤ 9223372036854775807) :
    Calls Tryd.prog 41 #[.agg #[.slice A m.enums.length c_, .slice A' m.rts.length cm_], .int .i64 k_] w fun e w' => e = .returned (.int .i64 (rtnE m k_ r)) ∧ After w w' := by
  by_cases h0 : nameB r.name = true
  rotate_left
  · have e : rtnE m k_ r = 6 := by unfold rtnE; rw [if_pos (by simpa using h0)]
    rw [e]
    exact one_title x w hO hw k_ hk_ r hr hbd (by simpa using h0)
  have e0 : (!nameB r.name) = false := by rw [h0]; rfl
  by_cases h1 : 64 < r.ins.length ∨ 64 < r.outs.length
  · have e : rtnE m k_ r = 3 := by unfold rtnE limB; rw [e0, if_neg (by decide), if_pos (by simp; omega)]
    rw [e]
    exact one_lim1 x w hO hw k_ hk_ r hr hbd h0 h1
  by_cases h2 : 16384 < r.init.length
  · have e : rtnE m k_ r = 3 := by unfold rtnE limB; rw [e0, if_neg (by decide), if_pos (by simp; omega)]
    rw [e]
    exact one_lim2 x w hO hw k_ hk_ r hr hbd h0 (by omega) (by omega) h2
  by_cases h3 : 32768 < r.code.length ∨ 32768 < r.regs
  · have e : rtnE m k_ r = 3 := by unfold rtnE limB; rw [e0, if_neg (by decide), if_pos (by simp; omega)]
    rw [e]
    exact one_lim3 x w hO hw k_ hk_ r hr hbd h0 (by omega) (by omega) (by omega) h3
  have el : (!limB r) = false := by unfold limB; simp; omega
  have ea : (r.ins ++ r.outs).any (fun t => !validB m.enums.length t) = !(r.ins.all (validB m.enums.length) && r.outs.all (validB m.enums.length)) := by
    rw [any_not, List.all_append]
  cases h4 : (r.ins ++ r.outs).any (fun t => !validB m.enums.length t) with
  | true =>
    have e : rtnE m k_ r = 10 := by unfold rtnE; rw [e0, if_neg (by decide), el, if_neg (by decide), ← ea, h4, if_pos rfl]
    rw [e]
    exact one_type x w hO hw k_ hk_ r hr hbd h0 (by omega) (by omega) (by omega) (by omega) (by omega) h4
  | false =>
    by_cases h5 : r.regs < (r.ins.length : Int) + (r.outs.length : Int)
    · have e : rtnE m k_ r = 9 := by unfold rtnE; rw [e0, if_neg (by decide), el, if_neg (by decide), ← ea, h4, if_neg (by decide), if_pos h5]
      rw [e]
      exact one_arity x w hO hw k_ hk_ r hr hbd h0 (by omega) (by omega) (by omega) (by omega) (by omega) h4 h5
    · have ei : r.init.any (fun z => !inB z) = !r.init.all inB := any_not _ _
      cases h6 : r.init.any (fun z => !inB z) with
      | true =>
        have e : rtnE m k_ r = 14 := by unfold rtnE; rw [e0, if_neg (by decide), el, if_neg (by decide), ← ea, h4, if_neg (by decide), if_neg h5, ← ei, h6, if_pos rfl]
        rw [e]
        exact one_init x w hO hw k_ hk_ r hr hbd h0 (by omega) (by omega) (by omega) (by omega) (by omega) h4 h5 h6
      | false =>
        have e : rtnE m k_ r = codeE m r k_ 0 r.code := by unfold rtnE; rw [e0, if_neg (by decide), el, if_neg (by decide), ← ea, h4, if_neg (by decide), if_neg h5, ← ei, h6, if_neg (by decide)]
        rw [e]
        exact one_code x w hO hw k_ hk_ r hr hbd h0 (by omega) (by omega) (by omega) (by omega) (by omega) h4 h5 h6
end Go.Proofs.YtgmojjdojcmnaaaDoor
