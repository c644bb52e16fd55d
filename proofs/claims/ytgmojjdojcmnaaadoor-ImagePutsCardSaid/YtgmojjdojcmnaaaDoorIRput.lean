/-
  Contract of the reference: Put.
-/
import Derived.Test.YtgmojjdojcmnaaaDoorIOl
import Derived.Test.YtgmojjdojcmnaaaDoorIRe
import Derived.Test.YtgmojjdojcmnaaaDoorIPut
import Derived.Test.YtgmojjdojcmnaaaDoorIInF
import Derived.Deep.RegionHeld3
import Derived.BigRegion
set_option linter.unusedVariables false
set_option linter.unusedSimpArgs false
namespace Go.Proofs.YtgmojjdojcmnaaaDoor
open Go.RowKit Go.BigFrame

theorem wpList_first {ops : Array Oper} {rest : List Oper} {o : Oper} {a : Act} {Q : Exit → Act → World → Prop} {w : World} (hgd : o.guard = none) (s x : Operand)
    (ho : o.op = .call { callee := .builtin .append, args := #[s, x], argTypes := #[22, 22] })
    (g0 : Nat) (l : List UInt8) (n : Nat) (hl : l.length = n) (hs : a.eval s = .slice (some ⟨g0, 0, none⟩) n n) (hc : ∀ j u, (yv l)[j]? = some u → w.cell? ⟨g0, j, none⟩ = some u)
    (A2 : Option Addr) (m c2 : Nat) (l2 : List UInt8) (hx : a.eval x = .slice A2 m c2) (hm : l2.length = m) (x2 : RY w A2 c2 l2) (h0 : 0 < m) (hsum : l.length + l2.length ≤ 200000000)
    (h : ∀ (A' : Option Addr) (n' c' : Nat) (w' : World), OL w' w.heap.size A' n' c' (l ++ l2) → After w w' → wpList Tryd.prog ops Q rest (a.put o.dst (.slice A' n' c')) w') : wpList Tryd.prog ops Q (o :: rest) a w := by
  obtain ⟨i0, hi, hz0, hz1, hz2⟩ := info_parts byteInfo
  obtain ⟨ad, rfl, _, hcx⟩ := x2.reads.2 (by omega)
  subst hl
  subst hm
  obtain ⟨v3, w3, hr3, ho3, hgr3⟩ := run_append_arg_grows (P := Tryd.prog) (w := w) 22 o.type 5 i0 (.int .u8 0) 1 1 Tryd.underlying22 hi hz0 hz1 hz2 rfl (by omega) ⟨g0, 0, none⟩ l.length l.length (yv l) (by rw [yv_length]; omega) (fun j u hu => by rw [Addr.add_lit, Nat.zero_add]; exact hc j u hu) ad l2.length c2 (yv l2) (by rw [yv_length]; omega) hcx (by omega) (by unfold maxLen; omega) (by omega)
  refine Lib.wpList_append_run _ hgd s x 22 22 ho (.slice (some ⟨g0, 0, none⟩) l.length l.length) (.slice (some ad) l2.length c2) hs hx _ _ hr3 ?_
  obtain ⟨A3, c3, rfl, _, _⟩ := own_slice ho3
  refine h A3 (l.length + l2.length) c3 w3 ⟨by rw [yv_append]; exact ho3, List.length_append, by omega⟩ ?_
  have := (inferInstance : After w w)
  exact ⟨this.below.grown hgr3 (Nat.le_refl _) (fun k hk => by cases hk)⟩

theorem rd6 {w : World} {g : Nat} {t : TypeId} {a b c d e f : Value} (h : Blk w g t #[a, b, c, d, e, f]) : w.cell? ⟨g, 0, none⟩ = some (a) ∧ w.cell? ⟨g, 1, none⟩ = some (b) ∧ w.cell? ⟨g, 2, none⟩ = some (c) ∧ w.cell? ⟨g, 3, none⟩ = some (d) ∧ w.cell? ⟨g, 4, none⟩ = some (e) ∧ w.cell? ⟨g, 5, none⟩ = some (f) := by
  refine ⟨?_, ?_, ?_, ?_, ?_, ?_⟩ <;> (rw [h.cell]; rfl)
theorem rd5 {w : World} {g : Nat} {t : TypeId} {a b c d e : Value} (h : Blk w g t #[a, b, c, d, e]) : w.cell? ⟨g, 0, none⟩ = some (a) ∧ w.cell? ⟨g, 1, none⟩ = some (b) ∧ w.cell? ⟨g, 2, none⟩ = some (c) ∧ w.cell? ⟨g, 3, none⟩ = some (d) ∧ w.cell? ⟨g, 4, none⟩ = some (e) := by
  refine ⟨?_, ?_, ?_, ?_, ?_⟩ <;> (rw [h.cell]; rfl)
theorem sz22 {b0 : List UInt8} {r : Rtn} (h : b0.length ≤ 97000000) (hr : rtLim r) : (b0 ++ enc (r.name.length : Nat) ++ r.name).length + (encL r.ins).length ≤ 200000000 := by
  unfold rtLim at hr
  simp only [List.length_append, encL_length, enc_length]; omega
theorem sz24 {b0 : List UInt8} {r : Rtn} (h : b0.length ≤ 97000000) (hr : rtLim r) : (b0 ++ enc (r.name.length : Nat) ++ r.name ++ encL r.ins).length + (encL r.outs).length ≤ 200000000 := by
  unfold rtLim at hr
  simp only [List.length_append, encL_length, enc_length]; omega
theorem sz26 {b0 : List UInt8} {r : Rtn} (h : b0.length ≤ 97000000) (hr : rtLim r) : (b0 ++ enc (r.name.length : Nat) ++ r.name ++ encL r.ins ++ encL r.outs).length + (enc r.regs).length ≤ 200000000 := by
  unfold rtLim at hr
  simp only [List.length_append, encL_length, enc_length]; omega
theorem sz28 {b0 : List UInt8} {r : Rtn} (h : b0.length ≤ 97000000) (hr : rtLim r) : (b0 ++ enc (r.name.length : Nat) ++ r.name ++ encL r.ins ++ encL r.outs ++ enc r.regs).length + (encL r.init).length ≤ 200000000 := by
  unfold rtLim at hr
  simp only [List.length_append, encL_length, enc_length]; omega
theorem szK {b0 : List UInt8} {r : Rtn} (h : b0.length ≤ 97000000) (hr : rtLim r) : (b0 ++ enc (r.name.length : Nat) ++ r.name ++ encL r.ins ++ encL r.outs ++ enc r.regs ++ encL r.init ++ enc (r.code.length : Nat)).length ≤ 98000000 := by
  unfold rtLim at hr
  simp only [List.length_append, encL_length, enc_length]; omega
theorem szC {K : List UInt8} {r : Rtn} (h : K.length ≤ 98000000) (hr : rtLim r) (j : Nat) : (K ++ (r.code.take j).flatMap encI).length ≤ 99000000 := by
  unfold rtLim at hr
  rw [List.length_append, code_len, List.length_take]; omega
theorem sz41 {b0 : List UInt8} {r : Rtn} (h : b0.length ≤ 97000000) (hr : rtLim r) : (b0 ++ enc (r.name.length : Nat) ++ r.name ++ encL r.ins ++ encL r.outs ++ enc r.regs ++ encL r.init).length + (enc (r.code.length : Nat)).length ≤ 200000000 := by
  unfold rtLim at hr
  simp only [List.length_append, encL_length, enc_length]; omega
theorem sz30 {b1 : List UInt8} (op a b_ c_ d : Int) (h : b1.length ≤ 99000000) : (b1).length + (enc op).length ≤ 200000000 := by
  simp only [List.length_append, enc_length]; omega
theorem sz32 {b1 : List UInt8} (op a b_ c_ d : Int) (h : b1.length ≤ 99000000) : (b1 ++ enc op).length + (enc a).length ≤ 200000000 := by
  simp only [List.length_append, enc_length]; omega
theorem sz34 {b1 : List UInt8} (op a b_ c_ d : Int) (h : b1.length ≤ 99000000) : (b1 ++ enc op ++ enc a).length + (enc b_).length ≤ 200000000 := by
  simp only [List.length_append, enc_length]; omega
theorem sz36 {b1 : List UInt8} (op a b_ c_ d : Int) (h : b1.length ≤ 99000000) : (b1 ++ enc op ++ enc a ++ enc b_).length + (enc c_).length ≤ 200000000 := by
  simp only [List.length_append, enc_length]; omega
theorem sz38 {b1 : List UInt8} (op a b_ c_ d : Int) (h : b1.length ≤ 99000000) : (b1 ++ enc op ++ enc a ++ enc b_ ++ enc c_).length + (enc d).length ≤ 200000000 := by
  simp only [List.length_append, enc_length]; omega

set_option maxRecDepth 100000 in
set_option maxHeartbeats 16000000 in
theorem rput_ok {w0 : World} {A c A' c' m} (x : RIm w0 A c A' c' m) (w : World) (hw : After w0 w) (hm : chk m = 0) :
    Calls Tryd.prog 17 #[.agg #[.slice A m.enums.length c, .slice A' m.rts.length c']] w fun e w' => ∃ (A1 : Option Addr) (n1 c1 : Nat), e = .returned (.tuple #[.slice A1 n1 c1, .int .i64 0]) ∧ OL w' w.heap.size A1 n1 c1 (putB m) ∧ After w w' := by
  obtain ⟨L1, L2, L3⟩ := chk_lim hm
  have L3' := Lib.hid L3
  clear L3
  have HC := Lib.hid (fun (U : World) (hU : After w0 U) => rcheck_any x U hU)
  rw [hm] at HC
  have X := Lib.hid x
  clear x hm
  obtain ⟨g1, hg1⟩ : ∃ g1, w.heap.size = g1 := ⟨_, rfl⟩
  obtain ⟨W1, hW1, HK, a1⟩ : ∃ W1, w.alloc (.cells #[.slice A m.enums.length c, .slice A' m.rts.length c'] 29) = W1 ∧ Hid (∀ U : World, After W1 U → U.cell? ⟨g1, 0, none⟩ = some (.slice A m.enums.length c) ∧ U.cell? ⟨g1, 1, none⟩ = some (.slice A' m.rts.length c') ∧ Le (g1 + 1) U) ∧ After w W1 := by
    refine ⟨_, rfl, fun U hU => ?_, inferInstance⟩
    have y0 := (Blk.new w 29 #[.slice A m.enums.length c, .slice A' m.rts.length c']).after (w' := U)
    rw [hg1] at y0
    exact ⟨by rw [y0.cell]; rfl, by rw [y0.cell]; rfl, y0.is_le⟩
  obtain ⟨k0, k1, k2⟩ := HK.out W1 inferInstance
  rw [hg1]
  have HN := Lib.hid (fun (z : Int) (U : World) => rnum_own z U)
  have kc := fun (W : World) (C : Array Value) (n c : Nat) => Lib.run_convert_bytes_const (P := Tryd.prog) W 22 5 C n c Tryd.underlying22 Tryd.underlying5
  have kb := fun (W : World) (s : ByteArray) => run_bytes_of_string (P := Tryd.prog) W 9 22 5 s Tryd.underlying9 Tryd.underlying22 Tryd.underlying5
  go_enter Tryd.func17, Tryd.ntmps17
  go_wp2_with fail
  try rw [hW1]
  try rw [hg1]
  clear hW1 
  refine (HC.out W1 (after_after hw a1)).mono ?_
  rintro e w2 ⟨rfl, a2⟩
  clear k0 k1 k2
  obtain ⟨k0, k1, k2⟩ := HK.out w2 a2
  have aw2 : After w w2 := after_after a1 a2
  have sz2 : g1 < w2.heap.size := by have := k2.le; omega
  obtain ⟨B, hB⟩ : ∃ B, w2.heap.size = B := ⟨_, rfl⟩
  have kc2 := kc w2 #[.int .u8 83, .int .u8 89, .int .u8 78, .int .u8 49] 4 4
  rw [hB, show (#[.int .u8 83, .int .u8 89, .int .u8 78, .int .u8 49] : Array Value).size = 4 from rfl] at kc2
  clear kc
  obtain ⟨W3, hW3, C3, a3⟩ : ∃ W3, w2.alloc (.cells #[.int .u8 83, .int .u8 89, .int .u8 78, .int .u8 49] 5 (4, 5)) = W3 ∧ Hid (∀ U : World, After W3 U → ∀ j u, (yv [83, 89, 78, 49])[j]? = some u → U.cell? ⟨B, j, none⟩ = some u) ∧ After w2 W3 := by
    refine ⟨_, rfl, fun U hU j u hu => ?_, inferInstance⟩
    refine (hU.below.cell (p := ⟨B, j, none⟩) (by rw [size_alloc_, hB]; exact Nat.lt_succ_self _)).trans ?_
    rw [← hB, World.cell?_alloc_mark, ← hu]; simp [yv]
  have HL1 := Lib.hid (rlist_any X.out.enums (by omega) W3 (after_after hw (after_after aw2 a3)))
  obtain ⟨k3, k4, k5⟩ := HK.out W3 (after_after a2 a3)
  go_wp2_with fail
  clear k3 k4 k5
  try rw [hW3]
  try rw [hB]
  clear hW3
  refine HL1.out.mono ?_
  rintro e w4 ⟨A4, n4, c4, rfl, o4, a4⟩
  have O4 := Lib.hid o4
  have C4 := Lib.hid (C3.out w4 a4)
  have a24 : After w2 w4 := after_after a3 a4
  have h4 := o4.len
  rw [encL_length] at h4
  have hs4 := a24.below.size
  clear o4 HL1 C3
  go_wp2_with (at_builtin; refine wpList_first rfl (.tmp 16) (.tmp 19) rfl B [83, 89, 78, 49] 4 rfl rfl C4.out A4 n4 c4 (encL m.enums) rfl O4.out.len O4.out.bytes (by omega) (by rw [encL_length]; simp only [List.length_cons, List.length_nil]; omega) ?_)
  intro A5 n5 c5 w5 o5 k5
  have a5 : After w2 w5 := after_after a24 k5
  have O5 : Hid (OL w5 B A5 n5 c5 ([83, 89, 78, 49] ++ encL m.enums)) := o5.base (by omega)
  clear o5 k5 O4 C4
  clear k0 k1 k2
  obtain ⟨k0, k1, k2⟩ := HK.out w5 (after_after a2 a5)
  have hs5 := a5.below.size
  go_wp2_with fail
  refine (HN.out (m.rts.length : Nat) w5).mono ?_
  rintro e w6 ⟨A6, rfl, o6, a6⟩
  have O6 := Lib.hid o6
  have O56 := Lib.hid (O5.out.here w6)
  have a26 : After w2 w6 := after_after a5 a6
  have hs6 := a26.below.size
  clear o6 O5
  go_wp2_with (at_builtin; refine wpList_ol rfl (.tmp 21) (.tmp 25) rfl B A5 n5 c5 ([83, 89, 78, 49] ++ encL m.enums) rfl O56.out A6 4 4 (enc (m.rts.length : Nat)) rfl (enc_length _) O6.out.bytes (by rw [List.length_append, encL_length, enc_length]; simp only [List.length_cons, List.length_nil]; omega) (by omega) ?_)
  intro A7 n7 c7 w7 o7 k7
  have a7 : After w2 w7 := k7.aft w2 a26 (by omega)
  obtain ⟨H, hH⟩ : ∃ H, [83, 89, 78, 49] ++ encL m.enums ++ enc (m.rts.length : Nat) = H := ⟨_, rfl⟩
  have O7 : Hid (OL w7 B A7 n7 c7 H) := by show OL _ _ _ _ _ _; rw [← hH]; first | exact o7 | simpa using o7
  have HHl : Hid (H.length ≤ 200) := by show _ ≤ _; rw [← hH]; simp only [List.length_append, encL_length, enc_length, List.length_cons, List.length_nil]; omega
  have HHe := Lib.hid hH
  clear hH o7 k7 O6 O56
  go_wp2_with fail
  go_loopw [5, 6] (fun v i wr => ∃ (k : Nat) (A8 : Option Addr) (n8 c8 : Nat), k ≤ m.rts.length ∧ i = .int .i64 (k : Nat) ∧ v = .slice A8 n8 c8 ∧ Hid (OL wr B A8 n8 c8 (H ++ (m.rts.take k).flatMap encR)) ∧ After w2 wr) (fun _ i _ => m.rts.length - (intOf i).toNat)
  case atStart => exact ⟨0, _, _, _, by omega, rfl, rfl, by simpa using O7, a7⟩
  case round =>
    obtain ⟨k, A8, n8, c8, hk, rfl, rfl, HO, ar⟩ := hrel
    have dr : After w wr := after_after aw2 ar
    clear k0 k1 k2
    obtain ⟨k0, k1, k2⟩ := HK.out wr (after_after a2 ar)
    have hsr := ar.below.size
    by_cases hlt : k < m.rts.length
    · have hltI : (k : Int) < (m.rts.length : Int) := by omega
      obtain ⟨bq, pq, s, A1, c1, A2, c2, A3, c3, A4', c4', r, rfl, hle_, HX, HR, e0, e1, e2, e3, e4, e5⟩ := X.out.rts.part hlt
      have hw2 : After w0 w2 := after_after hw aw2
      have hwr : After w0 wr := after_after hw2 ar
      have kk : ∀ j v, w0.cell? ⟨bq, j, none⟩ = some v → wr.cell? ⟨bq, j, none⟩ = some v := fun j v hv => (hwr.below.cell (p := ⟨bq, j, none⟩) hle_.le).trans hv
      have hleq : Le (bq + 1) wr := ⟨Nat.le_trans hle_.le hwr.below.size⟩
      replace e0 := kk _ _ e0
      replace e1 := kk _ _ e1
      replace e2 := kk _ _ e2
      replace e3 := kk _ _ e3
      replace e4 := kk _ _ e4
      replace e5 := kk _ _ e5
      have hRL := L3'.out r (List.mem_of_getElem? HX.out)
      have HRL := Lib.hid hRL
      have hNl : r.name.length ≤ 40 := hRL.1
      have hil : r.ins.length ≤ 64 := hRL.2.1
      have hol : r.outs.length ≤ 64 := hRL.2.2.1
      have hnl : r.init.length ≤ 16384 := hRL.2.2.2.1
      have hcl : r.code.length ≤ 32768 := hRL.2.2.2.2
      have HSS : Hid (s.size = r.name.length) := HR.out.slen
      have hsz : s.size ≤ 140737488355328 := HR.out.size
      have hsz4 : s.size ≤ 40 := by rw [HSS.out]; omega
      have HNm : Hid (s.data.toList = r.name) := HR.out.name
      have HTk := Lib.hid (takeR_succ HX.out)
      have HB0_ : Hid ((H ++ (m.rts.take k).flatMap encR).length ≤ 97000000) := by
        show _ ≤ _
        have h1 := rts_len (m.rts.take k) (fun r' hr' => L3'.out r' (List.mem_of_mem_take hr'))
        have h2 := HHl.out
        rw [List.length_append]
        rw [List.length_take] at h1
        omega
      obtain ⟨b0, hb0⟩ : ∃ b0, H ++ (m.rts.take k).flatMap encR = b0 := ⟨_, rfl⟩
      have HEb := Lib.hid hb0
      have HB0 : Hid (b0.length ≤ 97000000) := by show _ ≤ _; rw [← hb0]; exact HB0_.out
      rw [hb0] at HO
      have HLi := Lib.hid (fun (U : World) (hU : After w2 U) => rlist_any HR.out.ins (by omega) U (after_after hw2 hU))
      have HLo := Lib.hid (fun (U : World) (hU : After w2 U) => rlist_any HR.out.outs (by omega) U (after_after hw2 hU))
      have HLn := Lib.hid (fun (U : World) (hU : After w2 U) => rlist_any HR.out.init (by omega) U (after_after hw2 hU))
      clear hRL hb0 HB0_ HX kk
      obtain ⟨g8, hg8⟩ : ∃ g8, wr.heap.size = g8 := ⟨_, rfl⟩
      obtain ⟨w8, hw8, Ow8, qw8, Pw8⟩ : ∃ w8, wr.alloc (.cells #[.string s, .slice A1 r.ins.length c1, .slice A2 r.outs.length c2, .int .i64 r.regs, .slice A3 r.init.length c3, .slice A4' r.code.length c4'] 52) = w8 ∧ Hid (OL w8 B A8 n8 c8 b0) ∧ After w2 w8 ∧ Hid (Blk w8 g8 52 #[.string s, .slice A1 r.ins.length c1, .slice A2 r.outs.length c2, .int .i64 r.regs, .slice A3 r.init.length c3, .slice A4' r.code.length c4']) := ⟨_, rfl, HO.out.here _, inferInstance, by rw [← hg8]; exact Blk.new _ _ _⟩
      have hst8 : g8 < w8.heap.size := Pw8.out.lt
      have hs8 := qw8.below.size
      have f0_ : w8.cell? ⟨g8, 0, none⟩ = some (.string s) := by rw [Pw8.out.cell]; rfl
      have f1_ : w8.cell? ⟨g8, 1, none⟩ = some (.slice A1 r.ins.length c1) := by rw [Pw8.out.cell]; rfl
      have f2_ : w8.cell? ⟨g8, 2, none⟩ = some (.slice A2 r.outs.length c2) := by rw [Pw8.out.cell]; rfl
      have f3_ : w8.cell? ⟨g8, 3, none⟩ = some (.int .i64 r.regs) := by rw [Pw8.out.cell]; rfl
      have f4_ : w8.cell? ⟨g8, 4, none⟩ = some (.slice A3 r.init.length c3) := by rw [Pw8.out.cell]; rfl
      have f5_ : w8.cell? ⟨g8, 5, none⟩ = some (.slice A4' r.code.length c4') := by rw [Pw8.out.cell]; rfl
      have fl_ := Pw8.out.is_le
      go_wp2_with fail
      try rw [hw8]
      try rw [hg8]
      clear hw8 hg8 HO
      go_cut [5] (fun v wx => ∃ (A9 : Option Addr) (n9 c9 : Nat) (W : World), W = wx ∧ v = .slice A9 n9 c9 ∧ Hid (OL W B A9 n9 c9 (b0 ++ enc (r.name.length : Nat) ++ r.name)) ∧ After w2 W ∧ Hid (Blk W g8 52 #[.string s, .slice A1 r.ins.length c1, .slice A2 r.outs.length c2, .int .i64 r.regs, .slice A3 r.init.length c3, .slice A4' r.code.length c4']))
      case first =>
        have tk1 : True := trivial
        have tk2 : True := trivial
        have tk3 : True := trivial
        have hBq : B ≤ w2.heap.size := by omega
        have cne : ∀ (U : World) (ad : Addr), (some ⟨U.heap.size, 0, none⟩ : Option Addr) = some ad → w8.heap.size ≤ U.heap.size → (Value.slice A8 n8 c8).ownBlock ≠ some ad.block := fun U ad e hU hb => by
          injection e with e
          subst e
          have := Ow8.out.ob_lt _ hb
          have h2 : (⟨U.heap.size, 0, none⟩ : Addr).block = U.heap.size := rfl
          omega
        have Pw8d := Lib.hid Pw8.out.drew
        have hlb : Hid (b0.length + (enc (s.size : Nat)).length ≤ 200000000) := by show _ ≤ _; have h := HB0.out; rw [enc_length]; omega
        have hlc : Hid ((b0 ++ enc (s.size : Nat)).length + s.data.toList.length ≤ 200000000) := by
          show _ ≤ _
          have h := HB0.out
          have h2 : s.data.toList.length = s.size := rfl
          rw [List.length_append, enc_length]; omega
        go_region_law
          (first
          | (have _t := tk1; go_simp; go_at_call 8; (with_reducible refine (HN.out (s.size : Nat) _).mono ?_); rintro e w11 ⟨A11, rfl, o11, a11⟩; have q11 : After w2 w11 := after_after inferInstance a11; have Z11 := Lib.hid o11; have y11 : After w8 w11 := after_after inferInstance a11; have Ow11 := Lib.hid (Ow8.out.here w11); have Pw11 := Lib.hid (Pw8.out.after (w' := w11)); have f11_ : w11.cell? ⟨g8, 0, none⟩ = some (.string s) := (by rw [Pw11.out.cell]; rfl); have l11_ := Pw11.out.is_le; try (have C11 := Lib.hid ((conv_ry2 _ _ s hsz _).here w11 (k := a11))); clear _t tk1 o11)
          | (have _t := tk2; refine step_ol rfl (.tmp 39) (.tmp 43) rfl B A8 n8 c8 b0 rfl (Ow11.out.here _) A11 4 4 (enc (s.size : Nat)) rfl (enc_length _) (Z11.out.bytes.here _) hlb.out (Nat.le_trans hBq (inferInstance : After w2 _).below.size) ?_; intro A12 n12 c12 w12 o12 k12; have q12 : After w2 w12 := k12.aft w2 inferInstance (by omega); have Ow12 : Hid (OL w12 B A12 n12 c12 (b0 ++ enc (s.size : Nat))) := o12; have Pw12 : Hid (Blk w12 g8 52 #[.string s, .slice A1 r.ins.length c1, .slice A2 r.outs.length c2, .int .i64 r.regs, .slice A3 r.init.length c3, .slice A4' r.code.length c4']) := (by first | exact k12.blk _ _ _ Pw11.out (by decide) | exact k12.blk _ _ _ (Pw11.out.drew.alloc _) (by decide)); have f12_ : w12.cell? ⟨g8, 0, none⟩ = some (.string s) := (by rw [Pw12.out.cell]; rfl); have l12_ := Pw12.out.is_le; try (have C12 := Lib.hid (k12.ry C11.out (fun ad e => cne _ ad e (Nat.le_refl _)))); try (have C12 := Lib.hid (k12.ry (conv_ry1 _ _ s hsz _) (fun ad e => cne _ ad e y11.below.size))); clear _t tk2 o12)
          | (have _t := tk3; refine step_ol rfl (.tmp 44) (.tmp 47) rfl B A12 n12 c12 (b0 ++ enc (s.size : Nat)) rfl (Ow12.out.here _) _ s.size _ s.data.toList rfl rfl (by first | exact C12.out | exact conv_ry1 _ _ s hsz _ | exact k12.ry (conv_ry1 _ _ s hsz _) (fun ad e => cne _ ad e y11.below.size)) hlc.out (Nat.le_trans hBq (inferInstance : After w2 _).below.size) ?_; intro A13 n13 c13 w13 o13 k13; have q13 : After w2 w13 := k13.aft w2 inferInstance (by omega); have Ow13 : Hid (OL w13 B A13 n13 c13 (b0 ++ enc (s.size : Nat) ++ s.data.toList)) := o13; have Pw13 : Hid (Blk w13 g8 52 #[.string s, .slice A1 r.ins.length c1, .slice A2 r.outs.length c2, .int .i64 r.regs, .slice A3 r.init.length c3, .slice A4' r.code.length c4']) := (by first | exact k13.blk _ _ _ Pw12.out (by decide) | exact k13.blk _ _ _ (Pw12.out.drew.alloc _) (by decide)); clear _t tk3 o13))
        all_goals
          go_wp2_with fail
          go_meet
          refine ⟨A13, n13, c13, _, rfl, rfl, ?_, q13, Pw13⟩
          have h := Ow13.out
          rw [HSS.out, HNm.out] at h
          exact h
      case rest =>
        obtain ⟨A9, n9, c9, w20, rfl, rfl, Ow20, qw20, Pw20⟩ := hcut
        have f0_ : w20.cell? ⟨g8, 0, none⟩ = some (.string s) := by rw [Pw20.out.cell]; rfl
        have f1_ : w20.cell? ⟨g8, 1, none⟩ = some (.slice A1 r.ins.length c1) := by rw [Pw20.out.cell]; rfl
        have f2_ : w20.cell? ⟨g8, 2, none⟩ = some (.slice A2 r.outs.length c2) := by rw [Pw20.out.cell]; rfl
        have f3_ : w20.cell? ⟨g8, 3, none⟩ = some (.int .i64 r.regs) := by rw [Pw20.out.cell]; rfl
        have f4_ : w20.cell? ⟨g8, 4, none⟩ = some (.slice A3 r.init.length c3) := by rw [Pw20.out.cell]; rfl
        have f5_ : w20.cell? ⟨g8, 5, none⟩ = some (.slice A4' r.code.length c4') := by rw [Pw20.out.cell]; rfl
        have fl_ := Pw20.out.is_le
        have hs20 := qw20.below.size
        go_wp2_with fail
        have tk1 : True := trivial
        have tk2 : True := trivial
        have tk3 : True := trivial
        have tk4 : True := trivial
        have Pd := Lib.hid (Pw20.out.drew)
        go_region_held3 (fun V => V.cell? ⟨g8, 0, none⟩ = some (.string s) ∧ V.cell? ⟨g8, 1, none⟩ = some (.slice A1 r.ins.length c1) ∧ V.cell? ⟨g8, 2, none⟩ = some (.slice A2 r.outs.length c2) ∧ V.cell? ⟨g8, 3, none⟩ = some (.int .i64 r.regs) ∧ V.cell? ⟨g8, 4, none⟩ = some (.slice A3 r.init.length c3) ∧ V.cell? ⟨g8, 5, none⟩ = some (.slice A4' r.code.length c4')) (exact rd6 (Hid.out (by assumption)))
          (first
          | (have _t := tk1; go_at_call 34; (with_reducible refine (HLi.out _ inferInstance).mono ?_); rintro e w21 ⟨A21, n21, c21, rfl, o21, a21⟩; have qw21 : After w2 w21 := after_after inferInstance a21; have O21_ := Lib.hid o21; have Ow20_21 := Lib.hid (Ow20.out.here w21 (k := after_after inferInstance a21)); have Pw21 := Lib.hid (Pw20.out.after (k := after_after inferInstance a21)); clear _t tk1 o21)
          | (have _t := tk2; refine step_ol rfl (.tmp 49) (.tmp 52) rfl B A9 n9 c9 (b0 ++ enc (r.name.length : Nat) ++ r.name) rfl Ow20_21.out A21 n21 c21 (encL r.ins) rfl O21_.out.len O21_.out.bytes (sz22 HB0.out HRL.out) (Nat.le_trans (Nat.le_of_eq hB.symm) qw21.below.size) ?_; intro A22 n22 c22 w22 o22 k22; have qw22 : After w2 w22 := k22.aft w2 qw21 (Nat.le_of_eq hB); have Ow22 : Hid (OL w22 B A22 n22 c22 (b0 ++ enc (r.name.length : Nat) ++ r.name ++ encL r.ins)) := o22; have Pw22 := Lib.hid (k22.blk _ _ _ Pw21.out (by decide)); clear _t tk2 o22 k22)
          | (have _t := tk3; go_at_call 34; (with_reducible refine (HLo.out _ inferInstance).mono ?_); rintro e w23 ⟨A23, n23, c23, rfl, o23, a23⟩; have qw23 : After w2 w23 := after_after inferInstance a23; have O23_ := Lib.hid o23; have Ow22_23 := Lib.hid (Ow22.out.here w23 (k := after_after inferInstance a23)); have Pw23 := Lib.hid (Pw22.out.after (k := after_after inferInstance a23)); clear _t tk3 o23)
          | (have _t := tk4; refine step_ol rfl (.tmp 53) (.tmp 56) rfl B A22 n22 c22 (b0 ++ enc (r.name.length : Nat) ++ r.name ++ encL r.ins) rfl Ow22_23.out A23 n23 c23 (encL r.outs) rfl O23_.out.len O23_.out.bytes (sz24 HB0.out HRL.out) (Nat.le_trans (Nat.le_of_eq hB.symm) qw23.below.size) ?_; intro A24 n24 c24 w24 o24 k24; have qw24 : After w2 w24 := k24.aft w2 qw23 (Nat.le_of_eq hB); have Ow24 : Hid (OL w24 B A24 n24 c24 (b0 ++ enc (r.name.length : Nat) ++ r.name ++ encL r.ins ++ encL r.outs)) := o24; have Pw24 := Lib.hid (k24.blk _ _ _ Pw23.out (by decide)); clear _t tk4 o24 k24))
        clear f0_ f1_ f2_ f3_ f4_ f5_ fl_
        have f0_ : w24.cell? ⟨g8, 0, none⟩ = some (.string s) := by rw [Pw24.out.cell]; rfl
        have f1_ : w24.cell? ⟨g8, 1, none⟩ = some (.slice A1 r.ins.length c1) := by rw [Pw24.out.cell]; rfl
        have f2_ : w24.cell? ⟨g8, 2, none⟩ = some (.slice A2 r.outs.length c2) := by rw [Pw24.out.cell]; rfl
        have f3_ : w24.cell? ⟨g8, 3, none⟩ = some (.int .i64 r.regs) := by rw [Pw24.out.cell]; rfl
        have f4_ : w24.cell? ⟨g8, 4, none⟩ = some (.slice A3 r.init.length c3) := by rw [Pw24.out.cell]; rfl
        have f5_ : w24.cell? ⟨g8, 5, none⟩ = some (.slice A4' r.code.length c4') := by rw [Pw24.out.cell]; rfl
        have fl_ := Pw24.out.is_le
        go_wp2_with fail
        have tk1 : True := trivial
        have tk2 : True := trivial
        have tk3 : True := trivial
        have tk4 : True := trivial
        have Pd := Lib.hid (Pw24.out.drew)
        go_region_held3 (fun V => V.cell? ⟨g8, 0, none⟩ = some (.string s) ∧ V.cell? ⟨g8, 1, none⟩ = some (.slice A1 r.ins.length c1) ∧ V.cell? ⟨g8, 2, none⟩ = some (.slice A2 r.outs.length c2) ∧ V.cell? ⟨g8, 3, none⟩ = some (.int .i64 r.regs) ∧ V.cell? ⟨g8, 4, none⟩ = some (.slice A3 r.init.length c3) ∧ V.cell? ⟨g8, 5, none⟩ = some (.slice A4' r.code.length c4')) (exact rd6 (Hid.out (by assumption)))
          (first
          | (have _t := tk1; go_at_call 8; (with_reducible refine (HN.out r.regs _).mono ?_); rintro e w25 ⟨A25, rfl, o25, a25⟩; have qw25 : After w2 w25 := after_after inferInstance a25; have O25_ := Lib.hid o25; have Ow24_25 := Lib.hid (Ow24.out.here w25 (k := after_after inferInstance a25)); have Pw25 := Lib.hid (Pw24.out.after (k := after_after inferInstance a25)); clear _t tk1 o25)
          | (have _t := tk2; refine step_ol rfl (.tmp 58) (.tmp 61) rfl B A24 n24 c24 (b0 ++ enc (r.name.length : Nat) ++ r.name ++ encL r.ins ++ encL r.outs) rfl Ow24_25.out A25 4 4 (enc r.regs) rfl (enc_length _) O25_.out.bytes (sz26 HB0.out HRL.out) (Nat.le_trans (Nat.le_of_eq hB.symm) qw25.below.size) ?_; intro A26 n26 c26 w26 o26 k26; have qw26 : After w2 w26 := k26.aft w2 qw25 (Nat.le_of_eq hB); have Ow26 : Hid (OL w26 B A26 n26 c26 (b0 ++ enc (r.name.length : Nat) ++ r.name ++ encL r.ins ++ encL r.outs ++ enc r.regs)) := o26; have Pw26 := Lib.hid (k26.blk _ _ _ Pw25.out (by decide)); clear _t tk2 o26 k26)
          | (have _t := tk3; go_at_call 34; (with_reducible refine (HLn.out _ inferInstance).mono ?_); rintro e w27 ⟨A27, n27, c27, rfl, o27, a27⟩; have qw27 : After w2 w27 := after_after inferInstance a27; have O27_ := Lib.hid o27; have Ow26_27 := Lib.hid (Ow26.out.here w27 (k := after_after inferInstance a27)); have Pw27 := Lib.hid (Pw26.out.after (k := after_after inferInstance a27)); clear _t tk3 o27)
          | (have _t := tk4; refine step_ol rfl (.tmp 62) (.tmp 65) rfl B A26 n26 c26 (b0 ++ enc (r.name.length : Nat) ++ r.name ++ encL r.ins ++ encL r.outs ++ enc r.regs) rfl Ow26_27.out A27 n27 c27 (encL r.init) rfl O27_.out.len O27_.out.bytes (sz28 HB0.out HRL.out) (Nat.le_trans (Nat.le_of_eq hB.symm) qw27.below.size) ?_; intro A28 n28 c28 w28 o28 k28; have qw28 : After w2 w28 := k28.aft w2 qw27 (Nat.le_of_eq hB); have Ow28 : Hid (OL w28 B A28 n28 c28 (b0 ++ enc (r.name.length : Nat) ++ r.name ++ encL r.ins ++ encL r.outs ++ enc r.regs ++ encL r.init)) := o28; have Pw28 := Lib.hid (k28.blk _ _ _ Pw27.out (by decide)); clear _t tk4 o28 k28))
        clear f0_ f1_ f2_ f3_ f4_ f5_ fl_
        have f0_ : w28.cell? ⟨g8, 0, none⟩ = some (.string s) := by rw [Pw28.out.cell]; rfl
        have f1_ : w28.cell? ⟨g8, 1, none⟩ = some (.slice A1 r.ins.length c1) := by rw [Pw28.out.cell]; rfl
        have f2_ : w28.cell? ⟨g8, 2, none⟩ = some (.slice A2 r.outs.length c2) := by rw [Pw28.out.cell]; rfl
        have f3_ : w28.cell? ⟨g8, 3, none⟩ = some (.int .i64 r.regs) := by rw [Pw28.out.cell]; rfl
        have f4_ : w28.cell? ⟨g8, 4, none⟩ = some (.slice A3 r.init.length c3) := by rw [Pw28.out.cell]; rfl
        have f5_ : w28.cell? ⟨g8, 5, none⟩ = some (.slice A4' r.code.length c4') := by rw [Pw28.out.cell]; rfl
        have fl_ := Pw28.out.is_le
        have hs_w28 := qw28.below.size
        go_wp2_with fail
        refine (HN.out (r.code.length : Nat) w28).mono ?_
        rintro e w40 ⟨A40, rfl, o40, a40⟩
        have q40 : After w2 w40 := after_after qw28 a40
        have Oz40 := Lib.hid o40
        have Ow40 := Lib.hid (Ow28.out.here w40)
        have P40 := Lib.hid (Pw28.out.after (w' := w40))
        have hs40 := q40.below.size
        clear o40
        go_wp2_with (at_builtin; refine wpList_ol rfl (.tmp 67) (.tmp 71) rfl B A28 n28 c28 (b0 ++ enc (r.name.length : Nat) ++ r.name ++ encL r.ins ++ encL r.outs ++ enc r.regs ++ encL r.init) rfl Ow40.out A40 4 4 (enc (r.code.length : Nat)) rfl (enc_length _) Oz40.out.bytes (sz41 HB0.out HRL.out) (Nat.le_trans (Nat.le_of_eq hB.symm) q40.below.size) ?_)
        intro A41 n41 c41 w41 o41 k41
        have q41 : After w2 w41 := k41.aft w2 q40 (Nat.le_of_eq hB)
        obtain ⟨K, hK⟩ : ∃ K, b0 ++ enc (r.name.length : Nat) ++ r.name ++ encL r.ins ++ encL r.outs ++ enc r.regs ++ encL r.init ++ enc (r.code.length : Nat) = K := ⟨_, rfl⟩
        have O41 : Hid (OL w41 B A41 n41 c41 K) := by show OL _ _ _ _ _ _; rw [← hK]; first | exact o41 | simpa using o41
        have Pw41 := Lib.hid (k41.blk _ _ _ P40.out (by decide))
        have HKl : Hid (K.length ≤ 98000000) := by show _ ≤ _; rw [← hK]; exact szK HB0.out HRL.out
        have HKe := Lib.hid hK
        have hs41 := q41.below.size
        clear hK o41 k41
        clear f0_ f1_ f2_ f3_ f4_ f5_ fl_
        have f0_ : w41.cell? ⟨g8, 0, none⟩ = some (.string s) := by rw [Pw41.out.cell]; rfl
        have f1_ : w41.cell? ⟨g8, 1, none⟩ = some (.slice A1 r.ins.length c1) := by rw [Pw41.out.cell]; rfl
        have f2_ : w41.cell? ⟨g8, 2, none⟩ = some (.slice A2 r.outs.length c2) := by rw [Pw41.out.cell]; rfl
        have f3_ : w41.cell? ⟨g8, 3, none⟩ = some (.int .i64 r.regs) := by rw [Pw41.out.cell]; rfl
        have f4_ : w41.cell? ⟨g8, 4, none⟩ = some (.slice A3 r.init.length c3) := by rw [Pw41.out.cell]; rfl
        have f5_ : w41.cell? ⟨g8, 5, none⟩ = some (.slice A4' r.code.length c4') := by rw [Pw41.out.cell]; rfl
        have fl_ := Pw41.out.is_le
        go_wp2_with fail
        go_loopw [5, 8] (fun v i wv => ∃ (j : Nat) (Aj : Option Addr) (nj cj : Nat) (W : World), W = wv ∧ j ≤ r.code.length ∧ i = .int .i64 (j : Nat) ∧ v = .slice Aj nj cj ∧ Hid (OL W B Aj nj cj (K ++ (r.code.take j).flatMap encI)) ∧ After w2 W ∧ Hid (Blk W g8 52 #[.string s, .slice A1 r.ins.length c1, .slice A2 r.outs.length c2, .int .i64 r.regs, .slice A3 r.init.length c3, .slice A4' r.code.length c4'])) (fun _ i _ => r.code.length - (intOf i).toNat)
        case atStart => exact ⟨0, _, _, _, _, rfl, by omega, rfl, rfl, by simpa using O41, q41, Pw41⟩
        case round =>
          obtain ⟨j, Aj, nj, cj, wi, rfl, hj, rfl, rfl, HQ, qwi, Pwi⟩ := hrel
          have f0_ : wi.cell? ⟨g8, 0, none⟩ = some (.string s) := by rw [Pwi.out.cell]; rfl
          have f1_ : wi.cell? ⟨g8, 1, none⟩ = some (.slice A1 r.ins.length c1) := by rw [Pwi.out.cell]; rfl
          have f2_ : wi.cell? ⟨g8, 2, none⟩ = some (.slice A2 r.outs.length c2) := by rw [Pwi.out.cell]; rfl
          have f3_ : wi.cell? ⟨g8, 3, none⟩ = some (.int .i64 r.regs) := by rw [Pwi.out.cell]; rfl
          have f4_ : wi.cell? ⟨g8, 4, none⟩ = some (.slice A3 r.init.length c3) := by rw [Pwi.out.cell]; rfl
          have f5_ : wi.cell? ⟨g8, 5, none⟩ = some (.slice A4' r.code.length c4') := by rw [Pwi.out.cell]; rfl
          have fl_ := Pwi.out.is_le
          have hswi := qwi.below.size
          by_cases hlt2 : j < r.code.length
          · have hltI2 : (j : Int) < (r.code.length : Int) := by omega
            obtain ⟨bc, pc, op, a, b_, c_, d, rfl, hlc, HC2, i0_, i1_, i2_, i3_, i4_⟩ := HR.out.code.part (i := j) hlt2
            have hlbc : Le (bc + 1) wi := ⟨Nat.le_trans hlc.le (after_after hw2 qwi).below.size⟩
            have kk : ∀ j v, w0.cell? ⟨bc, j, none⟩ = some v → wi.cell? ⟨bc, j, none⟩ = some v := fun j v hv => ((after_after hw2 qwi).below.cell (p := ⟨bc, j, none⟩) hlc.le).trans hv
            replace i0_ := kk _ _ i0_
            replace i1_ := kk _ _ i1_
            replace i2_ := kk _ _ i2_
            replace i3_ := kk _ _ i3_
            replace i4_ := kk _ _ i4_
            have HT2 := Lib.hid (takeI_succ HC2.out)
            obtain ⟨b1, hb1⟩ : ∃ b1, K ++ (r.code.take j).flatMap encI = b1 := ⟨_, rfl⟩
            have HB1 : Hid (b1.length ≤ 99000000) := by show _ ≤ _; rw [← hb1]; exact szC HKl.out HRL.out j
            have HE1 := Lib.hid hb1
            rw [hb1] at HQ
            clear kk HC2 hb1
            obtain ⟨g9, hg9⟩ : ∃ g9, wi.heap.size = g9 := ⟨_, rfl⟩
            obtain ⟨wj, hwj, Owj, qwj, Pwj, Iwj⟩ : ∃ wj, wi.alloc (.cells #[.int .i64 op, .int .i64 a, .int .i64 b_, .int .i64 c_, .int .i64 d] 61) = wj ∧ Hid (OL wj B Aj nj cj b1) ∧ After w2 wj ∧ Hid (Blk wj g8 52 #[.string s, .slice A1 r.ins.length c1, .slice A2 r.outs.length c2, .int .i64 r.regs, .slice A3 r.init.length c3, .slice (some ⟨bc, pc, none⟩) r.code.length c4']) ∧ Hid (Blk wj g9 61 #[.int .i64 op, .int .i64 a, .int .i64 b_, .int .i64 c_, .int .i64 d]) := ⟨_, rfl, HQ.out.here _, inferInstance, Pwi.out.alloc _, by rw [← hg9]; exact Blk.new _ _ _⟩
            have hswj := qwj.below.size
            have n0_ : wj.cell? ⟨g9, 0, none⟩ = some (.int .i64 op) := by rw [Iwj.out.cell]; rfl
            have n1_ : wj.cell? ⟨g9, 1, none⟩ = some (.int .i64 a) := by rw [Iwj.out.cell]; rfl
            have n2_ : wj.cell? ⟨g9, 2, none⟩ = some (.int .i64 b_) := by rw [Iwj.out.cell]; rfl
            have n3_ : wj.cell? ⟨g9, 3, none⟩ = some (.int .i64 c_) := by rw [Iwj.out.cell]; rfl
            have n4_ : wj.cell? ⟨g9, 4, none⟩ = some (.int .i64 d) := by rw [Iwj.out.cell]; rfl
            have nl_ := Iwj.out.is_le
            go_wp2_with fail
            try rw [hwj]
            try rw [hg9]
            clear hwj
            have tk1 : True := trivial
            have tk2 : True := trivial
            have tk3 : True := trivial
            have tk4 : True := trivial
            have Id := Lib.hid (Iwj.out.drew)
            go_region_held3 (fun V => V.cell? ⟨g9, 0, none⟩ = some (.int .i64 op) ∧ V.cell? ⟨g9, 1, none⟩ = some (.int .i64 a) ∧ V.cell? ⟨g9, 2, none⟩ = some (.int .i64 b_) ∧ V.cell? ⟨g9, 3, none⟩ = some (.int .i64 c_) ∧ V.cell? ⟨g9, 4, none⟩ = some (.int .i64 d)) (exact rd5 (Hid.out (by assumption)))
              (first
              | (have _t := tk1; go_at_call 8; (with_reducible refine (HN.out op _).mono ?_); rintro e w29 ⟨A29, rfl, o29, a29⟩; have qw29 : After w2 w29 := after_after inferInstance a29; have O29_ := Lib.hid o29; have Owj_29 := Lib.hid (Owj.out.here w29 (k := after_after inferInstance a29)); have Pw29 := Lib.hid (Pwj.out.after (k := after_after inferInstance a29)); have Iw29 := Lib.hid (Iwj.out.after (k := after_after inferInstance a29)); clear _t tk1 o29)
              | (have _t := tk2; refine step_ol rfl (.tmp 85) (.tmp 88) rfl B Aj nj cj (b1) rfl Owj_29.out A29 4 4 (enc op) rfl (enc_length _) O29_.out.bytes (sz30 op a b_ c_ d HB1.out) (Nat.le_trans (Nat.le_of_eq hB.symm) qw29.below.size) ?_; intro A30 n30 c30 w30 o30 k30; have qw30 : After w2 w30 := k30.aft w2 qw29 (Nat.le_of_eq hB); have Ow30 : Hid (OL w30 B A30 n30 c30 (b1 ++ enc op)) := o30; have Pw30 := Lib.hid (k30.blk _ _ _ Pw29.out (by decide)); have Iw30 := Lib.hid (k30.blk _ _ _ Iw29.out (by decide)); clear _t tk2 o30 k30)
              | (have _t := tk3; go_at_call 8; (with_reducible refine (HN.out a _).mono ?_); rintro e w31 ⟨A31, rfl, o31, a31⟩; have qw31 : After w2 w31 := after_after inferInstance a31; have O31_ := Lib.hid o31; have Ow30_31 := Lib.hid (Ow30.out.here w31 (k := after_after inferInstance a31)); have Pw31 := Lib.hid (Pw30.out.after (k := after_after inferInstance a31)); have Iw31 := Lib.hid (Iw30.out.after (k := after_after inferInstance a31)); clear _t tk3 o31)
              | (have _t := tk4; refine step_ol rfl (.tmp 89) (.tmp 92) rfl B A30 n30 c30 (b1 ++ enc op) rfl Ow30_31.out A31 4 4 (enc a) rfl (enc_length _) O31_.out.bytes (sz32 op a b_ c_ d HB1.out) (Nat.le_trans (Nat.le_of_eq hB.symm) qw31.below.size) ?_; intro A32 n32 c32 w32 o32 k32; have qw32 : After w2 w32 := k32.aft w2 qw31 (Nat.le_of_eq hB); have Ow32 : Hid (OL w32 B A32 n32 c32 (b1 ++ enc op ++ enc a)) := o32; have Pw32 := Lib.hid (k32.blk _ _ _ Pw31.out (by decide)); have Iw32 := Lib.hid (k32.blk _ _ _ Iw31.out (by decide)); clear _t tk4 o32 k32))
            clear n0_ n1_ n2_ n3_ n4_ nl_
            have n0_ : w32.cell? ⟨g9, 0, none⟩ = some (.int .i64 op) := by rw [Iw32.out.cell]; rfl
            have n1_ : w32.cell? ⟨g9, 1, none⟩ = some (.int .i64 a) := by rw [Iw32.out.cell]; rfl
            have n2_ : w32.cell? ⟨g9, 2, none⟩ = some (.int .i64 b_) := by rw [Iw32.out.cell]; rfl
            have n3_ : w32.cell? ⟨g9, 3, none⟩ = some (.int .i64 c_) := by rw [Iw32.out.cell]; rfl
            have n4_ : w32.cell? ⟨g9, 4, none⟩ = some (.int .i64 d) := by rw [Iw32.out.cell]; rfl
            have nl_ := Iw32.out.is_le
            go_wp2_with fail
            have tk1 : True := trivial
            have tk2 : True := trivial
            have tk3 : True := trivial
            have tk4 : True := trivial
            have tk5 : True := trivial
            have tk6 : True := trivial
            have Id := Lib.hid (Iw32.out.drew)
            go_region_held3 (fun V => V.cell? ⟨g9, 0, none⟩ = some (.int .i64 op) ∧ V.cell? ⟨g9, 1, none⟩ = some (.int .i64 a) ∧ V.cell? ⟨g9, 2, none⟩ = some (.int .i64 b_) ∧ V.cell? ⟨g9, 3, none⟩ = some (.int .i64 c_) ∧ V.cell? ⟨g9, 4, none⟩ = some (.int .i64 d)) (exact rd5 (Hid.out (by assumption)))
              (first
              | (have _t := tk1; go_at_call 8; (with_reducible refine (HN.out b_ _).mono ?_); rintro e w33 ⟨A33, rfl, o33, a33⟩; have qw33 : After w2 w33 := after_after inferInstance a33; have O33_ := Lib.hid o33; have Ow32_33 := Lib.hid (Ow32.out.here w33 (k := after_after inferInstance a33)); have Pw33 := Lib.hid (Pw32.out.after (k := after_after inferInstance a33)); have Iw33 := Lib.hid (Iw32.out.after (k := after_after inferInstance a33)); clear _t tk1 o33)
              | (have _t := tk2; refine step_ol rfl (.tmp 94) (.tmp 97) rfl B A32 n32 c32 (b1 ++ enc op ++ enc a) rfl Ow32_33.out A33 4 4 (enc b_) rfl (enc_length _) O33_.out.bytes (sz34 op a b_ c_ d HB1.out) (Nat.le_trans (Nat.le_of_eq hB.symm) qw33.below.size) ?_; intro A34 n34 c34 w34 o34 k34; have qw34 : After w2 w34 := k34.aft w2 qw33 (Nat.le_of_eq hB); have Ow34 : Hid (OL w34 B A34 n34 c34 (b1 ++ enc op ++ enc a ++ enc b_)) := o34; have Pw34 := Lib.hid (k34.blk _ _ _ Pw33.out (by decide)); have Iw34 := Lib.hid (k34.blk _ _ _ Iw33.out (by decide)); clear _t tk2 o34 k34)
              | (have _t := tk3; go_at_call 8; (with_reducible refine (HN.out c_ _).mono ?_); rintro e w35 ⟨A35, rfl, o35, a35⟩; have qw35 : After w2 w35 := after_after inferInstance a35; have O35_ := Lib.hid o35; have Ow34_35 := Lib.hid (Ow34.out.here w35 (k := after_after inferInstance a35)); have Pw35 := Lib.hid (Pw34.out.after (k := after_after inferInstance a35)); have Iw35 := Lib.hid (Iw34.out.after (k := after_after inferInstance a35)); clear _t tk3 o35)
              | (have _t := tk4; refine step_ol rfl (.tmp 98) (.tmp 101) rfl B A34 n34 c34 (b1 ++ enc op ++ enc a ++ enc b_) rfl Ow34_35.out A35 4 4 (enc c_) rfl (enc_length _) O35_.out.bytes (sz36 op a b_ c_ d HB1.out) (Nat.le_trans (Nat.le_of_eq hB.symm) qw35.below.size) ?_; intro A36 n36 c36 w36 o36 k36; have qw36 : After w2 w36 := k36.aft w2 qw35 (Nat.le_of_eq hB); have Ow36 : Hid (OL w36 B A36 n36 c36 (b1 ++ enc op ++ enc a ++ enc b_ ++ enc c_)) := o36; have Pw36 := Lib.hid (k36.blk _ _ _ Pw35.out (by decide)); have Iw36 := Lib.hid (k36.blk _ _ _ Iw35.out (by decide)); clear _t tk4 o36 k36)
              | (have _t := tk5; go_at_call 8; (with_reducible refine (HN.out d _).mono ?_); rintro e w37 ⟨A37, rfl, o37, a37⟩; have qw37 : After w2 w37 := after_after inferInstance a37; have O37_ := Lib.hid o37; have Ow36_37 := Lib.hid (Ow36.out.here w37 (k := after_after inferInstance a37)); have Pw37 := Lib.hid (Pw36.out.after (k := after_after inferInstance a37)); have Iw37 := Lib.hid (Iw36.out.after (k := after_after inferInstance a37)); clear _t tk5 o37)
              | (have _t := tk6; refine step_ol rfl (.tmp 102) (.tmp 105) rfl B A36 n36 c36 (b1 ++ enc op ++ enc a ++ enc b_ ++ enc c_) rfl Ow36_37.out A37 4 4 (enc d) rfl (enc_length _) O37_.out.bytes (sz38 op a b_ c_ d HB1.out) (Nat.le_trans (Nat.le_of_eq hB.symm) qw37.below.size) ?_; intro A38 n38 c38 w38 o38 k38; have qw38 : After w2 w38 := k38.aft w2 qw37 (Nat.le_of_eq hB); have Ow38 : Hid (OL w38 B A38 n38 c38 (b1 ++ enc op ++ enc a ++ enc b_ ++ enc c_ ++ enc d)) := o38; have Pw38 := Lib.hid (k38.blk _ _ _ Pw37.out (by decide)); have Iw38 := Lib.hid (k38.blk _ _ _ Iw37.out (by decide)); clear _t tk6 o38 k38))
            have HF : Hid (OL w38 B A38 n38 c38 (K ++ (r.code.take (j + 1)).flatMap encI)) := by
              show OL _ _ _ _ _ _
              rw [HT2.out, ← List.append_assoc, HE1.out]
              have h := Ow38.out
              simp only [List.append_assoc] at h
              exact h
            go_wp2_with fail
            go_roundw
            case rel => exact ⟨j + 1, _, _, _, _, rfl, by omega, by go_num, rfl, HF, qw38, Pw38⟩
            case measure => simp only [intOf]; omega
          · have hj2 : r.code.take j = r.code := List.take_of_length_le (by omega)
            have PE : Hid (OL wi B Aj nj cj (H ++ (m.rts.take (k + 1)).flatMap encR)) := by
              show OL _ _ _ _ _ _
              have h1 := HQ.out
              rw [hj2] at h1
              have e9 : K ++ r.code.flatMap encI = H ++ (m.rts.take (k + 1)).flatMap encR := by
                rw [HTk.out, ← List.append_assoc, HEb.out, ← HKe.out]
                unfold encR
                simp only [List.append_assoc]
              rw [e9] at h1
              exact h1
            go_wp2_with fail
            go_roundw
            case rel => exact ⟨k + 1, Aj, nj, cj, by omega, by go_num, rfl, PE, qwi⟩
            case measure => simp only [intOf]; omega
    · have hk2 : m.rts.take k = m.rts := List.take_of_length_le (by omega)
      obtain ⟨Bb, hBb⟩ : ∃ Bb, bodyB m = Bb := ⟨_, rfl⟩
      have HBb := Lib.hid hBb
      have O50 : Hid (OL wr B A8 n8 c8 Bb) := by
        show OL _ _ _ _ _ _
        have h1 := HO.out
        rw [hk2] at h1
        have eB : H ++ m.rts.flatMap encR = Bb := by rw [← HHe.out, ← hBb]; unfold bodyB; rfl
        rw [eB] at h1
        exact h1
      have HBl : Hid (Bb.length + (enc (sumB Bb : Nat)).length ≤ 200000000) := by
        show _ ≤ _
        rw [enc_length, ← hBb]
        have h1 := rts_len m.rts L3'.out
        unfold bodyB
        simp only [List.length_append, encL_length, enc_length, List.length_cons, List.length_nil]
        omega
      have HS := Lib.hid (rsum_any O50.out.bytes wr inferInstance)
      rw [O50.out.len] at HS
      obtain ⟨sm, hsm, hsl⟩ : ∃ sm, sumB Bb = sm ∧ sm < 4294967296 := ⟨_, rfl, sumB_lt _⟩
      have HSm := Lib.hid hsm
      rw [hsm] at HS HBl
      clear hBb hsm HO hk2
      go_wp2_with fail
      refine HS.out.mono ?_
      rintro e w51 ⟨rfl, hw51⟩
      rw [hw51]
      clear hw51 w51
      go_wp2_with fail
      refine (HN.out (sm : Nat) wr).mono ?_
      rintro e w52 ⟨A52, rfl, o52, a52⟩
      have q52 : After w2 w52 := after_after ar a52
      have Oz52 := Lib.hid o52
      have O52 := Lib.hid (O50.out.here w52)
      clear o52
      go_wp2_with (at_builtin; refine wpList_ol rfl (.tmp 107) (.tmp 111) rfl B A8 n8 c8 Bb rfl O52.out A52 4 4 (enc (sm : Nat)) rfl (enc_length _) Oz52.out.bytes HBl.out (Nat.le_trans (Nat.le_of_eq hB.symm) q52.below.size) ?_)
      intro A53 n53 c53 w53 o53 k53
      have q53 : After w2 w53 := k53.aft w2 q52 (Nat.le_of_eq hB)
      have d53 : After w w53 := after_after aw2 q53
      have O53 : Hid (OL w53 g1 A53 n53 c53 (putB m)) := by
        show OL _ _ _ _ _ _
        have e : putB m = Bb ++ enc (sm : Nat) := by unfold putB; rw [HBb.out, HSm.out]
        rw [e]
        exact OL.base o53 (by omega)
      clear o53 k53
      go_wp2_with fail
      go_ret2
      exact ⟨A53, n53, c53, rfl, O53.out, d53⟩

set_option maxRecDepth 100000 in
set_option maxHeartbeats 1600000 in
theorem rput_bad {w0 : World} {A c A' c' m} (x : RIm w0 A c A' c' m) (w : World) (hw : After w0 w) (hm : chk m ≠ 0) :
    Calls Tryd.prog 17 #[.agg #[.slice A m.enums.length c, .slice A' m.rts.length c']] w fun e w' => e = .returned (.tuple #[.slice none 0 0, .int .i64 (chk m)]) ∧ After w w' := by
  have HC := Lib.hid (fun (U : World) (hU : After w0 U) => rcheck_any x U hU)
  obtain ⟨q, hq⟩ : ∃ q, chk m = q := ⟨_, rfl⟩
  rw [hq] at HC hm ⊢
  have z1 : (q == 0) = false := by rw [beq_eq_false_iff_ne]; exact hm
  have z2 : (q != 0) = true := by rw [bne, z1]; rfl
  clear x hq
  go_enter Tryd.func17, Tryd.ntmps17
  go_wp2_with fail
  refine (HC.out _ (after_after hw inferInstance)).mono ?_
  rintro e w2 ⟨rfl, a2⟩
  have aw2 : After w w2 := after_after inferInstance a2
  go_wp2_with fail
  go_ret2
  exact ⟨rfl, aw2⟩
end Go.Proofs.YtgmojjdojcmnaaaDoor
