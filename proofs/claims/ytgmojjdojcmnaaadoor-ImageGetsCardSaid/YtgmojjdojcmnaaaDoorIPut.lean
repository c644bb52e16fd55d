/-
  Contract: image.Put (given a contract of asm.Check; printed by gen_iput.py).
-/
import Derived.Test.YtgmojjdojcmnaaaDoorIPutA
set_option linter.unusedVariables false
set_option linter.unusedSimpArgs false
namespace Go.Proofs.YtgmojjdojcmnaaaDoor
open Go.RowKit Go.BigFrame

theorem step_append_str {P : Program} (w : World) {ops : Array Oper} {o : Oper} {a : Act} {K : Act → World → Prop} {Q : Exit → Act → World → Prop} {E : Prop} (hgd : o.guard = none) (s x : Operand) (t u : TypeId)
    (ho : o.op = .call { callee := .builtin .append, args := #[s, x], argTypes := #[t, u] })
    (base : Nat) (e : TypeId) (i : TypeInfo) (ht : P.underlying t = some (.slice e)) (hu : P.underlying u = some .string) (hi : P.info? e = some i) (hz : i.zero = some (.int .u8 0))
    (hsize : i.size = 1) (hby : i.bytes = 1)
    (v : Value) (n : Nat) (xs : List Value) (hs : a.eval s = v) (hown : w.ownsRow base e 1 v n xs) (str : ByteArray) (hx : a.eval x = .string str)
    (h63 : n + str.size ≤ maxLen) (hbytes : n + str.size ≤ 140737488355328) (hbase : base ≤ w.heap.size)
    (h : ∀ v' w', w'.ownsRow base e 1 v' (n + str.size) (xs ++ Lib.strCells str) → w.grownBy w' v.ownBlock → K (a.put o.dst v') w') :
    if Region.wanted o (yielded ops a.tmps) = true then Oper.wp P o a w K Q else E := by
  have hw : Region.wanted o (yielded ops a.tmps) = true := by simp [Region.wanted, hgd]
  rw [if_pos hw]
  obtain ⟨v', w', hrun, h2, h3, _⟩ := Lib.run_append_own_string (P := P) (w := w) base t u o.type e i ht hu hi hz hsize hby v n xs hown str h63 hbytes hbase
  unfold Oper.wp execOp
  simp only [ho, resolve, invoke, builtin, Sem.run_bind, Sem.run_pure, Result.andThen_ok, List.map_toArray, List.map_cons, List.map_nil, hs, hx, hrun]
  exact h v' w' h2 h3
theorem strCells_yv (s : ByteArray) : Lib.strCells s = yv s.data.toList := rfl

/-! ### sizes -/
theorem encL_len (l : List Int) : (encL l).length = 4 + 4 * l.length := by unfold encL; rw [List.length_append, encs_length, enc_length]
theorem code_len (l : List Ins) : (l.flatMap encI).length = 20 * l.length := by
  induction l with
  | nil => rfl
  | cons a l ih => rw [List.flatMap_cons, List.length_append, ih, List.length_cons]; unfold encI; rw [encs_length]; simp only [List.length_cons, List.length_nil]; omega
theorem encR_len (r : Rtn) : (encR r).length = r.name.length + 4 * r.ins.length + 4 * r.outs.length + 4 * r.init.length + 20 * r.code.length + 24 := by
  unfold encR
  simp only [List.length_append, encL_len, code_len, enc_length]; omega
def rtLim (r : Rtn) : Prop := r.name.length ≤ 40 ∧ r.ins.length ≤ 64 ∧ r.outs.length ≤ 64 ∧ r.init.length ≤ 16384 ∧ r.code.length ≤ 32768
theorem rtnE_lim {m : Img} {k : Nat} {r : Rtn} (h : rtnE m k r = 0) : rtLim r := by
  unfold rtnE at h
  split at h
  · cases h
  · rename_i hn
    split at h
    · cases h
    · rename_i hl
      simp [nameB] at hn
      simp [limB] at hl
      unfold rtLim
      omega
theorem rtsE_lim {m : Img} : ∀ {l : List Rtn} {k : Nat}, rtsE m k l = 0 → ∀ r ∈ l, rtLim r
  | [], _, _, r, hr => by simp at hr
  | a :: l, k, h, r, hr => by
    rw [rtsE] at h
    split at h
    · rename_i h0
      rcases List.mem_cons.1 hr with rfl | hr
      · exact rtnE_lim h0
      · exact rtsE_lim h r hr
    · rename_i h0; exact absurd h h0
theorem chk_lim {m : Img} (h : chk m = 0) : m.enums.length ≤ 24 ∧ m.rts.length ≤ 96 ∧ ∀ r ∈ m.rts, rtLim r := by
  unfold chk at h
  split at h
  · cases h
  · rename_i h1
    split at h
    · cases h
    · split at h
      · cases h
      · exact ⟨by omega, by omega, rtsE_lim h⟩
theorem rts_len : ∀ (l : List Rtn), (∀ r ∈ l, rtLim r) → (l.flatMap encR).length ≤ 1000000 * l.length
  | [], _ => by simp
  | a :: l, h => by
    rw [List.flatMap_cons, List.length_append, List.length_cons, encR_len]
    have h1 := rts_len l (fun r hr => h r (by simp [hr]))
    have h2 := h a (by simp)
    unfold rtLim at h2
    omega
theorem takeR_succ {l : List Rtn} {k : Nat} {r : Rtn} (h : l[k]? = some r) : (l.take (k + 1)).flatMap encR = (l.take k).flatMap encR ++ encR r := by
  obtain ⟨hk, e⟩ := List.getElem?_eq_some_iff.1 h
  rw [List.take_succ_eq_append_getElem hk, e, List.flatMap_append]; simp
theorem takeI_succ {l : List Ins} {k : Nat} {r : Ins} (h : l[k]? = some r) : (l.take (k + 1)).flatMap encI = (l.take k).flatMap encI ++ encI r := by
  obtain ⟨hk, e⟩ := List.getElem?_eq_some_iff.1 h
  rw [List.take_succ_eq_append_getElem hk, e, List.flatMap_append]; simp

set_option maxRecDepth 100000 in
set_option maxHeartbeats 1600000 in
theorem put_bad {w0 : World} {A c A' c' m} (x : RIm w0 A c A' c' m) (hb : ImB m) (w : World) (hO : Ops w0) (hw : After w0 w) (hC : CheckC) (h : chk m ≠ 0) :
    Calls Tryd.prog 14 #[.agg #[.slice A m.enums.length c, .slice A' m.rts.length c']] w fun e w' => e = .returned (.tuple #[.slice none 0 0, .int .i64 (chk m)]) ∧ After w w' := by
  have HC := Lib.hid (fun (U : World) (hU : After w0 U) => hC w0 U A c A' c' m hO x hb hU)
  obtain ⟨q, hq⟩ : ∃ q, chk m = q := ⟨_, rfl⟩
  rw [hq] at HC h ⊢
  clear x hq
  go_enter Tryd.func14, Tryd.ntmps14
  go_wp2_with fail
  refine (HC.out _ (after_after hw inferInstance)).mono ?_
  rintro e w2 ⟨rfl, a2⟩
  have aw2 : After w w2 := after_after inferInstance a2
  go_wp2_with fail
  go_ret2
  exact ⟨rfl, aw2⟩

set_option maxRecDepth 100000 in
set_option maxHeartbeats 16000000 in
theorem put_ok {w0 : World} {A c A' c' m} (x : RIm w0 A c A' c' m) (hb : ImB m) (w : World) (hO : Ops w0) (hw : After w0 w) (hC : CheckC) (h : chk m = 0) :
    Calls Tryd.prog 14 #[.agg #[.slice A m.enums.length c, .slice A' m.rts.length c']] w fun e w' => ∃ Ab cb, e = .returned (.tuple #[.slice Ab (putB m).length cb, .int .i64 0]) ∧ RY w' Ab cb (putB m) ∧ (∀ ad, Ab = some ad → w.heap.size ≤ ad.block) ∧ After w w' := by
  have HC := Lib.hid (fun (U : World) (hU : After w0 U) => hC w0 U A c A' c' m hO x hb hU)
  rw [h] at HC
  have hput : putB m = bodyB m ++ enc (sumB (bodyB m)) := rfl
  obtain ⟨Bb, hBb_⟩ : ∃ Bb, bodyB m = Bb := ⟨_, rfl⟩
  obtain ⟨sm, hsm_⟩ : ∃ sm, sumB Bb = sm := ⟨_, rfl⟩
  rw [hBb_, hsm_] at hput
  obtain ⟨PB, hPB⟩ : ∃ PB, Bb ++ enc sm = PB := ⟨_, rfl⟩
  rw [hPB] at hput
  rw [hput]
  have HPB := Lib.hid hPB
  have HBb := Lib.hid hBb_
  have HSm := Lib.hid hsm_
  clear hput hBb_ hsm_ hPB
  obtain ⟨l1_, l2_, l3_⟩ := chk_lim h
  have L3 := Lib.hid l3_
  have hlen1 := x.enums.len
  have hlen2 := x.rts.len
  have X := Lib.hid x
  obtain ⟨i0, hi, hz0, hz1, hz2⟩ := info_parts byteInfo
  have kc := fun (W : World) (C : Array Value) (n c : Nat) => Lib.run_convert_bytes_const (P := Tryd.prog) W 22 5 C n c Tryd.underlying22 Tryd.underlying5
  clear x l3_
  go_enter Tryd.func14, Tryd.ntmps14
  go_wp2_with fail
  refine (HC.out _ (after_after hw inferInstance)).mono ?_
  rintro e w2 ⟨rfl, a2⟩
  have aw2 : After w w2 := after_after inferInstance a2
  have zi := Lib.hid ((Blk.new w 29 #[.slice A m.enums.length c, .slice A' m.rts.length c']).after (w' := w2))
  have l1i := zi.out.is_le
  have HKi : Hid (∀ U : World, After w2 U → U.cell? ⟨w.heap.size, 0, none⟩ = some (.slice A m.enums.length c) ∧ U.cell? ⟨w.heap.size, 1, none⟩ = some (.slice A' m.rts.length c') ∧ Le (w.heap.size + 1) U) := fun U hU => by
    have y := zi.out.after (w' := U)
    exact ⟨by rw [y.cell]; rfl, by rw [y.cell]; rfl, y.is_le⟩
  obtain ⟨u0_, u1_, u2_⟩ := HKi.out w2 inferInstance
  obtain ⟨W3, hW3, P3, aW3⟩ : ∃ W3, ((w2.alloc (.cells #[.int .u8 83, .int .u8 89, .int .u8 78, .int .u8 49] 5 (4, 5))).alloc (.cells #[.slice (some ⟨w2.heap.size, 0, none⟩) 4 4, .int .i64 0] 45)) = W3 ∧ Hid (PS0 w2 W3 (w2.heap.size + 1) w2.heap.size w.heap.size 29 #[.slice A m.enums.length c, .slice A' m.rts.length c']) ∧ After w2 W3 := by
    refine ⟨_, rfl, ⟨Nat.le_refl _, Nat.lt_succ_self _, inferInstance, Blk.new1 _ _ _ _, fun j u hu => ?_, (zi.out.alloc _).alloc _, by decide, ?_⟩, inferInstance⟩
    · refine (World.cell?_alloc_lt _ _ _ (by rw [size_alloc_]; exact Nat.lt_succ_self _)).trans ?_
      rw [World.cell?_alloc_mark, ← hu]; simp [yv]
    · have := l1i.le; omega
  obtain ⟨gp, hgp⟩ : ∃ gp, w2.heap.size + 1 = gp := ⟨_, rfl⟩
  rw [hgp] at P3
  have x2 := Lib.hid (X.out.here w2 (k := after_after hw aw2))
  have HE1 := Lib.hid (list_first P3.out x2.out.enums (by omega))
  have hwg : w.heap.size < gp := by have := l1i.le; omega
  obtain ⟨v0_, v1_, v2_⟩ := HKi.out W3 aW3
  go_wp2_with fail
  try rw [hW3]
  clear hW3
  refine HE1.out.mono ?_
  rintro e w4 ⟨rfl, p4⟩
  have HP4 := Lib.hid (nums_lit p4 [(m.rts.length : Int)] (by simp only [List.length_append, encL_len, List.length_cons, List.length_nil]; omega))
  obtain ⟨c40, c41, c42⟩ := HKi.out w4 p4.aft
  have aw4 : After w w4 := after_after aw2 p4.aft
  clear p4 HE1
  go_wp2_with fail
  refine HP4.out.mono ?_
  rintro e w5 ⟨rfl, p5⟩
  have e5_ : [83, 89, 78, 49] ++ encL m.enums ++ [(m.rts.length : Int)].flatMap enc = [83, 89, 78, 49] ++ encL m.enums ++ enc m.rts.length := by simp
  rw [e5_] at p5
  obtain ⟨c50, c51, c52⟩ := HKi.out w5 p5.aft
  have P5 := Lib.hid p5
  clear p5 HP4 e5_
  obtain ⟨H, hH⟩ : ∃ H, [83, 89, 78, 49] ++ encL m.enums ++ enc m.rts.length = H := ⟨_, rfl⟩
  rw [hH] at P5
  have hHl : H.length ≤ 200 := by rw [← hH]; simp only [List.length_append, encL_len, enc_length, List.length_cons, List.length_nil]; omega
  have HHe := Lib.hid hH
  clear hH
  go_wp2_with fail
  go_loopw [32] (fun i wr => ∃ k : Nat, k ≤ m.rts.length ∧ i = .int .i64 (k : Nat) ∧ Hid (PSt w2 wr gp (H ++ (m.rts.take k).flatMap encR) w.heap.size 29 #[.slice A m.enums.length c, .slice A' m.rts.length c'])) (fun i _ => m.rts.length - (intOf i).toNat)
  case atStart => exact ⟨0, by omega, rfl, by simpa using P5⟩
  case round =>
    obtain ⟨wo, rfl⟩ : ∃ wo, wo = wr := ⟨wr, rfl⟩
    obtain ⟨k, hk, rfl, hP⟩ := hrel
    have aft : After w2 wo := hP.out.aft
    by_cases hlt : k < m.rts.length
    · have hltI : (k : Int) < (m.rts.length : Int) := by omega
      obtain ⟨b, p, s, A1, c1, A2, c2, A3, c3, A4, c4, r, rfl, hle, HX, HR, e0, e1, e2, e3, e4, e5⟩ := x2.out.rts.part hlt
      have hr_ : m.rts[k]? = some r := HX.out
      have hlim := L3.out r (List.mem_of_getElem? hr_)
      unfold rtLim at hlim
      obtain ⟨m1_, m2_, m3_, m4_, m5_⟩ := hlim
      have hss : s.size = r.name.length := HR.out.slen
      have hlb : Le (b + 1) wo := ⟨Nat.le_trans hle.le aft.below.size⟩
      have kk : ∀ j v, w2.cell? ⟨b, j, none⟩ = some v → wo.cell? ⟨b, j, none⟩ = some v := fun j v hv => (aft.below.cell (p := ⟨b, j, none⟩) hle.le).trans hv
      replace e0 := kk _ _ e0
      replace e1 := kk _ _ e1
      replace e2 := kk _ _ e2
      replace e3 := kk _ _ e3
      replace e4 := kk _ _ e4
      replace e5 := kk _ _ e5
      have HTk := Lib.hid (takeR_succ hr_)
      have hbl : (H ++ (m.rts.take k).flatMap encR).length ≤ 97000000 := by
        have h1 := rts_len (m.rts.take k) (fun r' hr' => L3.out r' (List.mem_of_mem_take hr'))
        rw [List.length_append]
        rw [List.length_take] at h1
        omega
      obtain ⟨b0, hb0⟩ : ∃ b0, H ++ (m.rts.take k).flatMap encR = b0 := ⟨_, rfl⟩
      have HB0 := Lib.hid hb0
      have hP' := hP.out
      rw [hb0] at hP' hbl
      clear hb0 kk HX
      obtain ⟨gr, hgr⟩ : ∃ gr, wo.heap.size = gr := ⟨_, rfl⟩
      obtain ⟨W6, hW6, P6⟩ : ∃ W6, wo.alloc (.cells #[.string s, .slice A1 r.ins.length c1, .slice A2 r.outs.length c2, .int .i64 r.regs, .slice A3 r.init.length c3, .slice A4 r.code.length c4] 52) = W6 ∧ Hid (PSt w2 W6 gp b0 gr 52 #[.string s, .slice A1 r.ins.length c1, .slice A2 r.outs.length c2, .int .i64 r.regs, .slice A3 r.init.length c3, .slice A4 r.code.length c4]) := by
        refine ⟨_, rfl, ?_⟩
        have h1 := hP'.alloc (.cells #[.string s, .slice A1 r.ins.length c1, .slice A2 r.outs.length c2, .int .i64 r.regs, .slice A3 r.init.length c3, .slice A4 r.code.length c4] 52)
        refine ⟨h1.pl, h1.aft, by rw [← hgr]; exact Blk.new _ _ _, by decide, ?_⟩
        obtain ⟨B, rr, hp, _⟩ := hP'.pl
        have := hp.lt.1
        omega
      have hne_gr : gr ≠ gp := P6.out.ne
      have R1 := Lib.hid HR.out.ins
      have R2 := Lib.hid HR.out.outs
      have R3 := Lib.hid HR.out.init
      have R4 := Lib.hid HR.out.code
      have HNm : Hid (s.data.toList = r.name) := HR.out.name
      have hP6 := P6.out
      have f60 : W6.cell? ⟨gr, 0, none⟩ = some (.string s) := by rw [hP6.blk.cell]; rfl
      have f61 : W6.cell? ⟨gr, 1, none⟩ = some (.slice A1 r.ins.length c1) := by rw [hP6.blk.cell]; rfl
      have f62 : W6.cell? ⟨gr, 2, none⟩ = some (.slice A2 r.outs.length c2) := by rw [hP6.blk.cell]; rfl
      have f63 : W6.cell? ⟨gr, 3, none⟩ = some (.int .i64 r.regs) := by rw [hP6.blk.cell]; rfl
      have f64 : W6.cell? ⟨gr, 4, none⟩ = some (.slice A3 r.init.length c3) := by rw [hP6.blk.cell]; rfl
      have f65 : W6.cell? ⟨gr, 5, none⟩ = some (.slice A4 r.code.length c4) := by rw [hP6.blk.cell]; rfl
      have fl6 := hP6.blk.is_le
      have H1 := Lib.hid (nums_lit hP6 [(r.name.length : Int)] (by simp only [List.length_cons, List.length_nil]; omega))
      clear hP6 hP' hP
      go_wp2_with fail
      try rw [hW6]
      try rw [hgr]
      clear hW6 hgr
      try rw [hss]
      refine H1.out.mono ?_
      rintro e w7 ⟨rfl, p7⟩
      have q7_ : b0 ++ [(r.name.length : Int)].flatMap enc = b0 ++ enc r.name.length := by simp
      rw [q7_] at p7
      have f70 : w7.cell? ⟨gr, 0, none⟩ = some (.string s) := by rw [p7.blk.cell]; rfl
      have f71 : w7.cell? ⟨gr, 1, none⟩ = some (.slice A1 r.ins.length c1) := by rw [p7.blk.cell]; rfl
      have f72 : w7.cell? ⟨gr, 2, none⟩ = some (.slice A2 r.outs.length c2) := by rw [p7.blk.cell]; rfl
      have f73 : w7.cell? ⟨gr, 3, none⟩ = some (.int .i64 r.regs) := by rw [p7.blk.cell]; rfl
      have f74 : w7.cell? ⟨gr, 4, none⟩ = some (.slice A3 r.init.length c3) := by rw [p7.blk.cell]; rfl
      have f75 : w7.cell? ⟨gr, 5, none⟩ = some (.slice A4 r.code.length c4) := by rw [p7.blk.cell]; rfl
      have fl7 := p7.blk.is_le
      obtain ⟨B7, r7, hp7, hB7⟩ := p7.pl
      obtain ⟨v7, hb7, ho7, hv7⟩ := hp7.row
      obtain ⟨A7, k7, rfl, _, _⟩ := own_slice ho7
      have g7_ : w7.cell? ⟨gp, 0, none⟩ = some (.slice A7 (b0 ++ enc r.name.length).length k7) := by rw [hb7.cell]; rfl
      have gl7 := hb7.is_le
      obtain ⟨n7, hn7⟩ : ∃ n7, (b0 ++ enc r.name.length).length = n7 := ⟨_, rfl⟩
      have hn7b : n7 ≤ 97000004 := by rw [← hn7, List.length_append, enc_length]; omega
      rw [hn7] at g7_ ho7 hb7 hv7
      have HO7 := Lib.hid ho7
      have HBk7 := Lib.hid hb7
      have P7 := Lib.hid p7
      have hBw : B7 ≤ w7.heap.size := by have := hp7.base; have := hp7.lt.1; omega
      have HR7 : Hid (B7 ≤ gp ∧ w2.heap.size ≤ B7) := ⟨hp7.base, hB7⟩
      clear p7 H1 q7_ hp7 ho7 hb7 hv7 hB7
      go_wp2_with fail
      go_cut [42] (fun _ wx => Hid (PSt w2 wx gp (b0 ++ enc r.name.length ++ r.name) gr 52 #[.string s, .slice A1 r.ins.length c1, .slice A2 r.outs.length c2, .int .i64 r.regs, .slice A3 r.init.length c3, .slice A4 r.code.length c4]))
      case first =>
        go_region_law (refine step_append_str _ (by rfl) (.tmp 46) (.tmp 48) 22 9 (by rfl) B7 5 i0 Tryd.underlying22 Tryd.underlying9 hi hz0 hz1 hz2 (.slice A7 n7 k7) n7 (yv (b0 ++ enc r.name.length)) (by rfl) HO7.out.drew s (by rfl) (by unfold maxLen; omega) (by omega) hBw ?_; intro v8 w8 ho8 hg8; rw [hss] at ho8; have pb8 := Lib.hid (HBk7.out.drew.grown hg8 (own_type_ne HO7.out HBk7.out (by decide)).symm); have pr8 := Lib.hid (P7.out.blk.drew.grown hg8 (own_type_ne HO7.out P7.out.blk P7.out.ty).symm); have a8 : After w2 w8 := after_grown_ (w0 := w2) (wr := w7.drew) (h := (have := P7.out.aft; inferInstance)) HO7.out.drew HR7.out.2 hg8; have t8 : w8.cell? ⟨gp, 0, none⟩ = some (.slice A7 n7 k7) := (by rw [pb8.out.cell]; rfl); have tf8 := pb8.out.frozen 0; have tl8 := pb8.out.is_le; obtain ⟨A8, k8, rfl, _, _⟩ := own_slice ho8; have HO8 := Lib.hid ho8; clear ho8 hg8)
        all_goals
          go_wp2_with fail
          go_meet
          have hne8 : (Value.slice A8 (n7 + r.name.length) k8).ownBlock ≠ some gp := own_type_ne HO8.out pb8.out (by decide)
          have hrr := HR7.out
          refine ⟨⟨B7, _, ⟨hrr.1, ⟨_, pb8.out.set_ 0 _, ?_, rfl⟩, hne8⟩, hrr.2⟩, ⟨a8.below.setCell (p := ⟨gp, 0, none⟩) (by show w2.heap.size ≤ gp; omega) _⟩, pr8.out.far (p := ⟨gp, 0, none⟩) hne_gr _, by decide, hne_gr⟩
          have ey : yv (b0 ++ enc r.name.length ++ r.name) = yv (b0 ++ enc r.name.length) ++ Lib.strCells s := by rw [yv_append, strCells_yv, HNm.out]
          have el : (b0 ++ enc r.name.length ++ r.name).length = n7 + r.name.length := by rw [List.length_append, hn7]
          rw [ey, el]
          exact own_far HO8.out hne8
      case rest =>
        have p9 := hcut.out
        have f9_0 : _ = some (Value.string s) := (p9.blk.cell 0).trans rfl
        have f9_1 : _ = some (Value.slice A1 r.ins.length c1) := (p9.blk.cell 1).trans rfl
        have f9_2 : _ = some (Value.slice A2 r.outs.length c2) := (p9.blk.cell 2).trans rfl
        have f9_3 : _ = some (Value.int .i64 r.regs) := (p9.blk.cell 3).trans rfl
        have f9_4 : _ = some (Value.slice A3 r.init.length c3) := (p9.blk.cell 4).trans rfl
        have f9_5 : _ = some (Value.slice A4 r.code.length c4) := (p9.blk.cell 5).trans rfl
        have fl9 := p9.blk.is_le
        have H10 := Lib.hid (list_arg p9 R1.out (by simp only [List.length_append, encL_len, enc_length, List.length_cons, List.length_nil]; omega))
        go_wp2_with fail
        refine H10.out.mono ?_
        rintro e w10 ⟨rfl, p10⟩
        clear f9_0 f9_1 f9_2 f9_3 f9_4 f9_5 fl9
        have f10_0 : _ = some (Value.string s) := (p10.blk.cell 0).trans rfl
        have f10_1 : _ = some (Value.slice A1 r.ins.length c1) := (p10.blk.cell 1).trans rfl
        have f10_2 : _ = some (Value.slice A2 r.outs.length c2) := (p10.blk.cell 2).trans rfl
        have f10_3 : _ = some (Value.int .i64 r.regs) := (p10.blk.cell 3).trans rfl
        have f10_4 : _ = some (Value.slice A3 r.init.length c3) := (p10.blk.cell 4).trans rfl
        have f10_5 : _ = some (Value.slice A4 r.code.length c4) := (p10.blk.cell 5).trans rfl
        have fl10 := p10.blk.is_le
        have H11 := Lib.hid (list_arg p10 R2.out (by simp only [List.length_append, encL_len, enc_length, List.length_cons, List.length_nil]; omega))
        go_wp2_with fail
        refine H11.out.mono ?_
        rintro e w11 ⟨rfl, p11⟩
        clear f10_0 f10_1 f10_2 f10_3 f10_4 f10_5 fl10
        have f11_0 : _ = some (Value.string s) := (p11.blk.cell 0).trans rfl
        have f11_1 : _ = some (Value.slice A1 r.ins.length c1) := (p11.blk.cell 1).trans rfl
        have f11_2 : _ = some (Value.slice A2 r.outs.length c2) := (p11.blk.cell 2).trans rfl
        have f11_3 : _ = some (Value.int .i64 r.regs) := (p11.blk.cell 3).trans rfl
        have f11_4 : _ = some (Value.slice A3 r.init.length c3) := (p11.blk.cell 4).trans rfl
        have f11_5 : _ = some (Value.slice A4 r.code.length c4) := (p11.blk.cell 5).trans rfl
        have fl11 := p11.blk.is_le
        have H12 := Lib.hid (nums_lit p11 [r.regs] (by simp only [List.length_append, encL_len, enc_length, List.length_cons, List.length_nil]; omega))
        go_wp2_with fail
        refine H12.out.mono ?_
        rintro e w12 ⟨rfl, p12⟩
        have q12_ : b0 ++ enc r.name.length ++ r.name ++ encL r.ins ++ encL r.outs ++ [r.regs].flatMap enc = b0 ++ enc r.name.length ++ r.name ++ encL r.ins ++ encL r.outs ++ enc r.regs := by simp
        rw [q12_] at p12
        clear f11_0 f11_1 f11_2 f11_3 f11_4 f11_5 fl11
        have f12_0 : _ = some (Value.string s) := (p12.blk.cell 0).trans rfl
        have f12_1 : _ = some (Value.slice A1 r.ins.length c1) := (p12.blk.cell 1).trans rfl
        have f12_2 : _ = some (Value.slice A2 r.outs.length c2) := (p12.blk.cell 2).trans rfl
        have f12_3 : _ = some (Value.int .i64 r.regs) := (p12.blk.cell 3).trans rfl
        have f12_4 : _ = some (Value.slice A3 r.init.length c3) := (p12.blk.cell 4).trans rfl
        have f12_5 : _ = some (Value.slice A4 r.code.length c4) := (p12.blk.cell 5).trans rfl
        have fl12 := p12.blk.is_le
        have H13 := Lib.hid (list_arg p12 R3.out (by simp only [List.length_append, encL_len, enc_length, List.length_cons, List.length_nil]; omega))
        go_wp2_with fail
        refine H13.out.mono ?_
        rintro e w13 ⟨rfl, p13⟩
        clear f12_0 f12_1 f12_2 f12_3 f12_4 f12_5 fl12
        have f13_0 : _ = some (Value.string s) := (p13.blk.cell 0).trans rfl
        have f13_1 : _ = some (Value.slice A1 r.ins.length c1) := (p13.blk.cell 1).trans rfl
        have f13_2 : _ = some (Value.slice A2 r.outs.length c2) := (p13.blk.cell 2).trans rfl
        have f13_3 : _ = some (Value.int .i64 r.regs) := (p13.blk.cell 3).trans rfl
        have f13_4 : _ = some (Value.slice A3 r.init.length c3) := (p13.blk.cell 4).trans rfl
        have f13_5 : _ = some (Value.slice A4 r.code.length c4) := (p13.blk.cell 5).trans rfl
        have fl13 := p13.blk.is_le
        have H14 := Lib.hid (nums_lit p13 [(r.code.length : Int)] (by simp only [List.length_append, encL_len, enc_length, List.length_cons, List.length_nil]; omega))
        go_wp2_with fail
        refine H14.out.mono ?_
        rintro e w14 ⟨rfl, p14⟩
        have q14_ : b0 ++ enc r.name.length ++ r.name ++ encL r.ins ++ encL r.outs ++ enc r.regs ++ encL r.init ++ [(r.code.length : Int)].flatMap enc = b0 ++ enc r.name.length ++ r.name ++ encL r.ins ++ encL r.outs ++ enc r.regs ++ encL r.init ++ enc r.code.length := by simp
        rw [q14_] at p14
        clear f13_0 f13_1 f13_2 f13_3 f13_4 f13_5 fl13
        have f14_0 : _ = some (Value.string s) := (p14.blk.cell 0).trans rfl
        have f14_1 : _ = some (Value.slice A1 r.ins.length c1) := (p14.blk.cell 1).trans rfl
        have f14_2 : _ = some (Value.slice A2 r.outs.length c2) := (p14.blk.cell 2).trans rfl
        have f14_3 : _ = some (Value.int .i64 r.regs) := (p14.blk.cell 3).trans rfl
        have f14_4 : _ = some (Value.slice A3 r.init.length c3) := (p14.blk.cell 4).trans rfl
        have f14_5 : _ = some (Value.slice A4 r.code.length c4) := (p14.blk.cell 5).trans rfl
        have fl14 := p14.blk.is_le
        obtain ⟨K, hK⟩ : ∃ K, b0 ++ enc r.name.length ++ r.name ++ encL r.ins ++ encL r.outs ++ enc r.regs ++ encL r.init ++ enc r.code.length = K := ⟨_, rfl⟩
        have hKl : K.length ≤ 98000000 := by rw [← hK]; simp only [List.length_append, encL_len, enc_length]; omega
        rw [hK] at p14
        have P14 := Lib.hid p14
        have HK' := Lib.hid hK
        clear p14 p13 p12 p11 p10 p9 hK H10 H11 H12 H13 H14 q12_ q14_ hcut
        go_wp2_with fail
        go_loopw [78] (fun i wv => ∃ j : Nat, j ≤ r.code.length ∧ i = .int .i64 (j : Nat) ∧ Hid (PSt w2 wv gp (K ++ (r.code.take j).flatMap encI) gr 52 #[.string s, .slice A1 r.ins.length c1, .slice A2 r.outs.length c2, .int .i64 r.regs, .slice A3 r.init.length c3, .slice A4 r.code.length c4])) (fun i _ => r.code.length - (intOf i).toNat)
        case atStart => exact ⟨0, by omega, rfl, by simpa using P14⟩
        case round =>
          obtain ⟨wi, rfl⟩ : ∃ wi, wi = wr := ⟨wr, rfl⟩
          obtain ⟨j, hj, rfl, hQ⟩ := hrel
          have aft2 : After w2 wi := hQ.out.aft
          by_cases hlt2 : j < r.code.length
          · have hltI2 : (j : Int) < (r.code.length : Int) := by omega
            obtain ⟨bc, pc, op, a, b_, c_, d, rfl, hlc, HC2, i0_, i1_, i2_, i3_, i4_⟩ := R4.out.part (i := j) hlt2
            have hlbc : Le (bc + 1) wi := ⟨Nat.le_trans hlc.le aft2.below.size⟩
            have kk : ∀ j v, w2.cell? ⟨bc, j, none⟩ = some v → wi.cell? ⟨bc, j, none⟩ = some v := fun j v hv => (aft2.below.cell (p := ⟨bc, j, none⟩) hlc.le).trans hv
            replace i0_ := kk _ _ i0_
            replace i1_ := kk _ _ i1_
            replace i2_ := kk _ _ i2_
            replace i3_ := kk _ _ i3_
            replace i4_ := kk _ _ i4_
            have HT2 := Lib.hid (takeI_succ HC2.out)
            have hcl : ((r.code.take j).flatMap encI).length ≤ 20 * 32768 := by rw [code_len, List.length_take]; omega
            obtain ⟨gi, hgi⟩ : ∃ gi, wi.heap.size = gi := ⟨_, rfl⟩
            obtain ⟨Wi, hWi, PWi, ZWi⟩ : ∃ Wi, wi.alloc (.cells #[.int .i64 op, .int .i64 a, .int .i64 b_, .int .i64 c_, .int .i64 d] 61) = Wi ∧ Hid (PSt w2 Wi gp (K ++ (r.code.take j).flatMap encI) gr 52 #[.string s, .slice A1 r.ins.length c1, .slice A2 r.outs.length c2, .int .i64 r.regs, .slice A3 r.init.length c3, .slice (some ⟨bc, pc, none⟩) r.code.length c4]) ∧ Blk Wi gi 61 #[.int .i64 op, .int .i64 a, .int .i64 b_, .int .i64 c_, .int .i64 d] := ⟨_, rfl, hQ.out.alloc _, by rw [← hgi]; exact Blk.new _ _ _⟩
            have n0_ : Wi.cell? ⟨gi, 0, none⟩ = some (Value.int .i64 op) := by rw [ZWi.cell]; rfl
            have n1_ : Wi.cell? ⟨gi, 1, none⟩ = some (Value.int .i64 a) := by rw [ZWi.cell]; rfl
            have n2_ : Wi.cell? ⟨gi, 2, none⟩ = some (Value.int .i64 b_) := by rw [ZWi.cell]; rfl
            have n3_ : Wi.cell? ⟨gi, 3, none⟩ = some (Value.int .i64 c_) := by rw [ZWi.cell]; rfl
            have n4_ : Wi.cell? ⟨gi, 4, none⟩ = some (Value.int .i64 d) := by rw [ZWi.cell]; rfl
            have n5_ := ZWi.is_le
            have HL2 := Lib.hid (nums_lit PWi.out [op, a, b_, c_, d] (by simp only [List.length_append, List.length_cons, List.length_nil]; omega))
            clear kk HC2 ZWi
            go_wp2_with fail
            try rw [hWi]
            try rw [hgi]
            clear hWi
            refine HL2.out.mono ?_
            rintro e wj ⟨rfl, pj⟩
            have PJ : Hid (PSt w2 wj gp (K ++ (r.code.take (j + 1)).flatMap encI) gr 52 #[.string s, .slice A1 r.ins.length c1, .slice A2 r.outs.length c2, .int .i64 r.regs, .slice A3 r.init.length c3, .slice (some ⟨bc, pc, none⟩) r.code.length c4]) := by
              have h1 := pj
              rw [List.append_assoc] at h1
              rw [HT2.out]
              exact h1
            clear pj HL2
            go_wp2_with fail
            go_roundw
            case rel => exact ⟨j + 1, by omega, by go_num, PJ⟩
            case measure => simp only [intOf]; omega
          · have hj2 : r.code.take j = r.code := List.take_of_length_le (by omega)
            have PE : Hid (PSt w2 wi gp (H ++ (m.rts.take (k + 1)).flatMap encR) w.heap.size 29 #[.slice A m.enums.length c, .slice (some ⟨b, p, none⟩) m.rts.length c']) := by
              have h1 := hQ.out
              rw [hj2] at h1
              have e9 : K ++ r.code.flatMap encI = H ++ (m.rts.take (k + 1)).flatMap encR := by
                rw [HTk.out, ← List.append_assoc, HB0.out, ← HK'.out]
                unfold encR
                simp only [List.append_assoc]
              rw [e9] at h1
              exact ⟨h1.pl, h1.aft, zi.out.after (k := h1.aft), by decide, by omega⟩
            go_wp2_with fail
            go_roundw
            case rel => exact ⟨k + 1, by omega, by go_num, PE⟩
            case measure => simp only [intOf]; omega
    · have hk2 : m.rts.take k = m.rts := List.take_of_length_le (by omega)
      have hP' := hP.out
      rw [hk2] at hP'
      have eB : H ++ m.rts.flatMap encR = bodyB m := by rw [← HHe.out]; unfold bodyB; rfl
      rw [eB] at hP'
      have hBl : (bodyB m).length ≤ 97000000 := by
        have h1 := rts_len m.rts L3.out
        rw [← eB, List.length_append]
        omega
      rw [HBb.out] at hP' hBl
      obtain ⟨B7, r7, hp7, hB7⟩ := hP'.pl
      obtain ⟨v7, hb7, ho7, hv7⟩ := hp7.row
      obtain ⟨A7, k7, rfl, z1_, z2_⟩ := own_slice ho7
      have g7_ : wo.cell? ⟨gp, 0, none⟩ = some (.slice A7 Bb.length k7) := by rw [hb7.cell]; rfl
      have gl7 := hb7.is_le
      have HS := Lib.hid (sum_any (w0 := wo) (A := A7) (c := k7) (l := Bb) ⟨Reads.of_own ho7, z1_, z2_, by omega⟩ wo inferInstance)
      have HL := Lib.hid (nums_lit hP' [(sumB Bb : Int)] (by simp only [List.length_cons, List.length_nil]; omega))
      have hsl := sumB_lt Bb
      have HM := Lib.hid hP'
      clear hp7 ho7 hb7 hP' hP
      rw [HSm.out] at HS HL hsl
      go_wp2_with fail
      refine HS.out.mono ?_
      rintro e ws ⟨rfl, hws⟩
      rw [hws]
      clear hws
      go_wp2_with fail
      refine HL.out.mono ?_
      rintro e wt ⟨rfl, pt⟩
      have qt : Bb ++ [(sm : Int)].flatMap enc = PB := by rw [← HPB.out]; simp
      rw [qt] at pt
      obtain ⟨B8, r8, hp8, hB8⟩ := pt.pl
      obtain ⟨v8, hb8, ho8, hv8⟩ := hp8.row
      obtain ⟨A8, k8, rfl, y1_, y2_⟩ := own_slice ho8
      have g8_ : wt.cell? ⟨gp, 0, none⟩ = some (.slice A8 PB.length k8) := by rw [hb8.cell]; rfl
      have gl8 := hb8.is_le
      have awt : After w wt := after_after aw2 pt.aft
      have HO := Lib.hid ho8
      have hBw8 : w.heap.size ≤ B8 := by have := aw2.below.size; omega
      have hlen8 : Hid (PB.length ≤ 140737488355328) := by show _ ≤ _; rw [← HPB.out, List.length_append, enc_length]; omega
      clear pt hp8 ho8 hb8 qt
      go_wp2_with fail
      go_ret2
      exact ⟨A8, k8, rfl, ⟨Reads.of_own HO.out, y1_, y2_, hlen8.out⟩, fun ad e => Nat.le_trans hBw8 (own_from HO.out ad e), awt⟩
end Go.Proofs.YtgmojjdojcmnaaaDoor
