/-
  Contract: routine of a reader.
-/
import Derived.Test.YtgmojjdojcmnaaaDoorIRow
import Derived.Shelf.Abstract
import Derived.Deep.DrawnRows
set_option linter.unusedVariables false
set_option linter.unusedSimpArgs false
namespace Go.Proofs.YtgmojjdojcmnaaaDoor
open Go.RowKit Go.BigFrame

/-- what routine gives -/
structure RtnP (w w' : World) (t : ByteArray) (A1 : Option Addr) (c1 : Nat) (A2 : Option Addr) (c2 : Nat) (A3 : Option Addr) (c3 : Nat) (A4 : Option Addr) (c4 : Nat) (r : Rtn) : Prop where
  rt : RRt w' t A1 c1 A2 c2 A3 c3 A4 c4 r
  b1 : ∀ ad, A1 = some ad → w.heap.size ≤ ad.block ∧ ad.block < w'.heap.size
  b2 : ∀ ad, A2 = some ad → w.heap.size ≤ ad.block ∧ ad.block < w'.heap.size
  b3 : ∀ ad, A3 = some ad → w.heap.size ≤ ad.block ∧ ad.block < w'.heap.size
  b4 : ∀ ad, A4 = some ad → w.heap.size ≤ ad.block ∧ ad.block < w'.heap.size
theorem rtnS_eq (s : St) : ∀ t s0 l1 s1 l2 s2 n s3 l3 s4 m s5 T, textS s = (t, s0) → allS s0 = (l1, s1) → allS s1 = (l2, s2) → numS s2 = (n, s3) → allS s3 = (l3, s4) → manyS s4 = (m, s5) → codeF m.toNat [] s5 = T → rtnS s = (⟨t, l1, l2, n, l3, T.1⟩, T.2) := by
  intro t s0 l1 s1 l2 s2 n s3 l3 s4 m s5 T h0 h1 h2 h3 h4 h5 h6
  unfold rtnS codeS
  simp only [h0, h1, h2, h3, h4, h5, h6]

set_option maxRecDepth 100000 in
set_option maxHeartbeats 3200000 in
theorem routine_any {w0 : World} (w : World) {g : Nat} {A c bs s} (x : RY w0 A c bs) (hw : After w0 w) (hg : w0.heap.size ≤ g) (h : RdIs w g A c bs s) :
    Calls Tryd.prog 22 #[.pointer (some ⟨g, 0, none⟩)] w fun e w' => ∃ t A1 c1 A2 c2 A3 c3 A4 c4, e = .returned (.agg #[.string t, .slice A1 (rtnS s).1.ins.length c1, .slice A2 (rtnS s).1.outs.length c2, .int .i64 (rtnS s).1.regs, .slice A3 (rtnS s).1.init.length c3, .slice A4 (rtnS s).1.code.length c4]) ∧ RtnP w w' t A1 c1 A2 c2 A3 c3 A4 c4 (rtnS s).1 ∧ RdIs w' g A c bs (rtnS s).2 ∧ Fr w w' g none := by
  obtain ⟨i0, hi, hz0, hz1, hz2⟩ := info_parts instrInfo
  have hgl := h.le.le
  obtain ⟨q0, e0⟩ : ∃ q, textS s = q := ⟨_, rfl⟩
  obtain ⟨t_, s0⟩ := q0
  obtain ⟨q1, e1⟩ : ∃ q, allS s0 = q := ⟨_, rfl⟩
  obtain ⟨l1, s1⟩ := q1
  obtain ⟨q2, e2⟩ : ∃ q, allS s1 = q := ⟨_, rfl⟩
  obtain ⟨l2, s2⟩ := q2
  obtain ⟨q3, e3⟩ : ∃ q, numS s2 = q := ⟨_, rfl⟩
  obtain ⟨n3, s3⟩ := q3
  obtain ⟨q4, e4⟩ : ∃ q, allS s3 = q := ⟨_, rfl⟩
  obtain ⟨l4, s4⟩ := q4
  have hr5 := manyS_range s4
  obtain ⟨q5, e5⟩ : ∃ q, manyS s4 = q := ⟨_, rfl⟩
  rw [e5] at hr5
  obtain ⟨m_, s5⟩ := q5
  obtain ⟨m, rfl⟩ : ∃ m : Nat, m_ = m := ⟨m_.toNat, by have := hr5.1; simp only [] at this; omega⟩
  have hm6 : m ≤ 65536 := by have := hr5.2; simp only [] at this; omega
  obtain ⟨T, e6⟩ : ∃ T, codeF m [] s5 = T := ⟨_, rfl⟩
  rw [rtnS_eq s _ _ _ _ _ _ _ _ _ _ _ _ T e0 e1 e2 e3 e4 e5 (by rw [Int.toNat_natCast]; exact e6)]
  have HT : Hid (codeF m [] s5 = T) := e6
  have E0 := Lib.hid e0; have E1 := Lib.hid e1; have E2 := Lib.hid e2; have E3 := Lib.hid e3; have E4 := Lib.hid e4; have E5 := Lib.hid e5
  clear e0 e1 e2 e3 e4 e5 e6 hr5
  obtain ⟨W1, hW1, z1, F1, h1, hs1⟩ : ∃ W1, (w.alloc (.cells #[.string ⟨#[]⟩, .slice none 0 0, .slice none 0 0, .int .i64 0, .slice none 0 0, .slice none 0 0] 52)) = W1 ∧ Hid (Blk W1 w.heap.size 52 #[.string ⟨#[]⟩, .slice none 0 0, .slice none 0 0, .int .i64 0, .slice none 0 0, .slice none 0 0]) ∧ Hid (Fr w W1 g none) ∧ Hid (RdIs W1 g A c bs s) ∧ W1.heap.size = w.heap.size + 1 :=
    ⟨_, rfl, Blk.new _ _ _, (Fr.refl w g none).alloc _, h.alloc _, size_alloc_ _ _⟩
  have x' := Lib.hid x
  clear x h
  go_enter Tryd.func22, Tryd.ntmps22
  go_wp2_with fail
  try rw [hW1]
  clear hW1
  refine (text_any W1 x'.out (F1.out.aft hw hg) hg h1.out).mono ?_
  rintro e w2 ⟨t, rfl, ht, hts, h2_, f2_⟩
  rw [E0.out] at ht h2_
  have h2 := Lib.hid h2_
  have F2 := Lib.hid (F1.out.tr f2_)
  have z2 := Lib.hid (f2_.blk z1.out (by omega))
  have HT0 := Lib.hid ht
  have f2s : Hid (w.heap.size + 1 ≤ w2.heap.size ∧ W1.heap.size ≤ w2.heap.size) := by show _ ∧ _; have := f2_.size; omega
  clear h2_ f2_ ht
  go_wp2_with fail
  refine (all_any w2 x'.out (F2.out.aft hw hg) hg h2.out).mono ?_
  rintro e w3 ⟨A1, c1, rfl, r1_, b1, h3_, f3_⟩
  rw [E1.out] at r1_ h3_
  rw [E1.out]
  simp only [] at r1_ h3_
  have h3 := Lib.hid h3_
  have F3 := Lib.hid (F2.out.tr f3_)
  have z3 := Lib.hid (f3_.blk z2.out (by omega))
  have R1 := Lib.hid r1_
  have B1 := Lib.hid b1
  have f3s : Hid (w.heap.size + 1 ≤ w3.heap.size ∧ w2.heap.size ≤ w3.heap.size) := by show _ ∧ _; have := f3_.size; have := f2s.out; omega
  clear h3_ f3_ r1_ b1
  go_wp2_with fail
  refine (all_any w3 x'.out (F3.out.aft hw hg) hg h3.out).mono ?_
  rintro e w4 ⟨A2, c2, rfl, r2_, b2, h4_, f4_⟩
  rw [E2.out] at r2_ h4_
  rw [E2.out]
  simp only [] at r2_ h4_
  have h4 := Lib.hid h4_
  have F4 := Lib.hid (F3.out.tr f4_)
  have z4 := Lib.hid (f4_.blk z3.out (by omega))
  have n1 : ∀ ad, A1 = some ad → ad.block ≠ g := fun ad e => by have := B1.out ad e; have := F2.out.size; omega
  have R1b := Lib.hid (R1.out.st f4_ n1)
  have R2 := Lib.hid r2_
  have B2 := Lib.hid b2
  have N1 := Lib.hid n1
  have f4s : Hid (w.heap.size + 1 ≤ w4.heap.size ∧ w3.heap.size ≤ w4.heap.size) := by show _ ∧ _; have := f4_.size; have := f3s.out; omega
  clear h4_ f4_ r2_ b2 n1
  go_wp2_with fail
  refine (num_any w4 x'.out (F4.out.aft hw hg) hg h4.out).mono ?_
  rintro e w5 ⟨rfl, h5_, f5_⟩
  rw [E3.out] at h5_
  rw [E3.out]
  simp only [] at h5_
  have h5 := Lib.hid h5_
  have F5 := Lib.hid (F4.out.tr f5_)
  have z5 := Lib.hid (f5_.blk z4.out (by omega))
  have n2 : ∀ ad, A2 = some ad → ad.block ≠ g := fun ad e => by have := B2.out ad e; have := F3.out.size; omega
  have R1c := Lib.hid (R1b.out.st f5_ N1.out)
  have R2b := Lib.hid (R2.out.st f5_ n2)
  have N2 := Lib.hid n2
  have f5s : Hid (w.heap.size + 1 ≤ w5.heap.size ∧ w4.heap.size ≤ w5.heap.size) := by show _ ∧ _; have := f5_.size; have := f4s.out; omega
  clear h5_ f5_ n2
  go_wp2_with fail
  refine (all_any w5 x'.out (F5.out.aft hw hg) hg h5.out).mono ?_
  rintro e w6 ⟨A3, c3, rfl, r3_, b3, h6_, f6_⟩
  rw [E4.out] at r3_ h6_
  rw [E4.out]
  simp only [] at r3_ h6_
  have h6 := Lib.hid h6_
  have F6 := Lib.hid (F5.out.tr f6_)
  have z6 := Lib.hid (f6_.blk z5.out (by omega))
  have n3_ : ∀ ad, A3 = some ad → ad.block ≠ g := fun ad e => by have := b3 ad e; have := F5.out.size; omega
  have R1d := Lib.hid (R1c.out.st f6_ N1.out)
  have R2c := Lib.hid (R2b.out.st f6_ N2.out)
  have R3 := Lib.hid r3_
  have B3 := Lib.hid b3
  have N3 := Lib.hid n3_
  have f6s : Hid (w.heap.size + 1 ≤ w6.heap.size ∧ w5.heap.size ≤ w6.heap.size) := by show _ ∧ _; have := f6_.size; have := f5s.out; omega
  clear h6_ f6_ r3_ b3 n3_
  obtain ⟨g3, hg3⟩ : ∃ g3, w6.heap.size = g3 := ⟨_, rfl⟩
  go_wp2_with fail
  obtain ⟨W7, hW7, Z7, F7, h7, hs7⟩ : ∃ W7, (w6.alloc (.cells #[.string t, .slice A1 l1.length c1, .slice A2 l2.length c2, .int .i64 n3, .slice A3 l4.length c3, .slice none 0 0] 52)) = W7 ∧ Hid (Blk W7 g3 52 #[.string t, .slice A1 l1.length c1, .slice A2 l2.length c2, .int .i64 n3, .slice A3 l4.length c3, .slice none 0 0]) ∧ Hid (Fr w6 W7 g none) ∧ Hid (RdIs W7 g A c bs s4) ∧ W7.heap.size = g3 + 1 :=
    ⟨_, rfl, by rw [← hg3]; exact Blk.new _ _ _, (Fr.refl w6 g none).alloc _, h6.out.alloc _, by rw [size_alloc_, hg3]⟩
  rw [hW7]
  clear hW7
  refine (many_any W7 x'.out ((F6.out.tr F7.out).aft hw hg) hg h7.out).mono ?_
  rintro e w8 ⟨rfl, h8_, f8_⟩
  rw [E5.out] at h8_
  rw [E5.out]
  simp only [] at h8_
  have hgg : g < g3 := by have := F6.out.size; omega
  have h8 := Lib.hid h8_
  have F8 := Lib.hid (F7.out.tr f8_)
  have Z8 := Lib.hid (f8_.blk Z7.out (by omega))
  have hs8 : g3 + 1 ≤ w8.heap.size := by have := f8_.size; omega
  clear h8_ f8_
  have HG3 : Hid (w6.heap.size = g3) := hg3
  clear hg3
  go_wp2_with fail
  go_loopw [4] (fun i wr => ∃ (j : Nat) (acc : List Ins) (s' : St) (A4 : Option Addr) (c4 : Nat), i = .int .i64 (j : Nat) ∧ acc.length + j ≤ 65536 ∧ Hid (codeF j acc s' = T) ∧ Hid (wr.ownsRow (g3 + 1) 61 5 (.slice A4 acc.length c4) acc.length (acc.flatMap c5)) ∧ Hid (Blk wr g3 52 #[.string t, .slice A1 l1.length c1, .slice A2 l2.length c2, .int .i64 n3, .slice A3 l4.length c3, .slice A4 acc.length c4]) ∧ Hid (RdIs wr g A c bs s') ∧ Hid (Fr w6 wr g none)) (fun i _ => (intOf i).toNat)
  case atStart => exact ⟨m, [], s5, none, 0, rfl, by simpa using hm6, HT, World.ownsRow_nil _ _ _ _, Z8, h8, F8⟩
  case round =>
    obtain ⟨j, acc, s9, A4, c4, rfl, hj, ht, hown, hz, hr, hf⟩ := hrel
    have d2 := hr.out.cell2
    have l2_ := hr.out.le
    have k3 : wr.cell? ⟨g3, 5, none⟩ = some (.slice A4 acc.length c4) := by rw [hz.out.cell]; rfl
    have lz := hz.out.is_le
    have hzz := Lib.hid (hf.out.blk z6.out (by omega))
    rcases Nat.eq_zero_or_pos j with rfl | hpos
    · have HE : Hid ((acc, s9) = T) := ht.out
      have q0 : wr.cell? ⟨g3, 0, none⟩ = some (.string t) := by rw [hz.out.cell]; rfl
      have q1 : wr.cell? ⟨g3, 1, none⟩ = some (.slice A1 l1.length c1) := by rw [hz.out.cell]; rfl
      have q2 : wr.cell? ⟨g3, 2, none⟩ = some (.slice A2 l2.length c2) := by rw [hz.out.cell]; rfl
      have q3 : wr.cell? ⟨g3, 3, none⟩ = some (.int .i64 n3) := by rw [hz.out.cell]; rfl
      have q4 : wr.cell? ⟨g3, 4, none⟩ = some (.slice A3 l4.length c3) := by rw [hz.out.cell]; rfl
      have lz2 := hzz.out.is_le
      have p0 : wr.cell? ⟨w.heap.size, 0, none⟩ = some (.string ⟨#[]⟩) := by rw [hzz.out.cell]; rfl
      have u0 := hzz.out.frozen 0
      have p1 : wr.cell? ⟨w.heap.size, 1, none⟩ = some (.slice none 0 0) := by rw [hzz.out.cell]; rfl
      have u1 := hzz.out.frozen 1
      have p2 : wr.cell? ⟨w.heap.size, 2, none⟩ = some (.slice none 0 0) := by rw [hzz.out.cell]; rfl
      have u2 := hzz.out.frozen 2
      have p3 : wr.cell? ⟨w.heap.size, 3, none⟩ = some (.int .i64 0) := by rw [hzz.out.cell]; rfl
      have u3 := hzz.out.frozen 3
      have p4 : wr.cell? ⟨w.heap.size, 4, none⟩ = some (.slice none 0 0) := by rw [hzz.out.cell]; rfl
      have u4 := hzz.out.frozen 4
      have p5 : wr.cell? ⟨w.heap.size, 5, none⟩ = some (.slice none 0 0) := by rw [hzz.out.cell]; rfl
      have u5 := hzz.out.frozen 5
      have P6 := Lib.hid (put6_blk hzz.out (.string t) (.slice A1 l1.length c1) (.slice A2 l2.length c2) (.int .i64 n3) (.slice A3 l4.length c3) (.slice A4 acc.length c4))
      have kk : ∀ j v, (#[.string t, .slice A1 l1.length c1, .slice A2 l2.length c2, .int .i64 n3, .slice A3 l4.length c3, .slice A4 acc.length c4] : Array Value)[j]? = some v → (put6 wr w.heap.size (.string t) (.slice A1 l1.length c1) (.slice A2 l2.length c2) (.int .i64 n3) (.slice A3 l4.length c3) (.slice A4 acc.length c4)).cell? ⟨w.heap.size, j, none⟩ = some v := fun j v hv => by rw [P6.out.cell]; exact hv
      have m0 := kk 0 _ rfl
      have m1 := kk 1 _ rfl
      have m2 := kk 2 _ rfl
      have m3 := kk 3 _ rfl
      have m4 := kk 4 _ rfl
      have m5 := kk 5 _ rfl
      have KM := Lib.hid kk
      clear kk
      simp only [put6] at m0 m1 m2 m3 m4 m5
      go_wp2_with fail
      have hE := HE.out
      subst hE
      have HX : RtnP w (put6 wr w.heap.size (.string t) (.slice A1 l1.length c1) (.slice A2 l2.length c2) (.int .i64 n3) (.slice A3 l4.length c3) (.slice A4 acc.length c4)) t A1 c1 A2 c2 A3 c3 A4 c4 ⟨t_, l1, l2, n3, l4, acc⟩ ∧ RdIs (put6 wr w.heap.size (.string t) (.slice A1 l1.length c1) (.slice A2 l2.length c2) (.int .i64 n3) (.slice A3 l4.length c3) (.slice A4 acc.length c4)) g A c bs s9 ∧ Fr w (put6 wr w.heap.size (.string t) (.slice A1 l1.length c1) (.slice A2 l2.length c2) (.int .i64 n3) (.slice A3 l4.length c3) (.slice A4 acc.length c4)) g none := by
        have sz : Hid (w.heap.size + 1 ≤ w2.heap.size ∧ w2.heap.size ≤ w3.heap.size ∧ w3.heap.size ≤ w4.heap.size ∧ w4.heap.size ≤ w5.heap.size ∧ w5.heap.size ≤ w6.heap.size ∧ w6.heap.size ≤ wr.heap.size) := by show _ ∧ _; have := f2s.out; have := f3s.out; have := f4s.out; have := f5s.out; have := f6s.out; have := hf.out.size; omega
        have hs1 : w.heap.size < w2.heap.size := by have := f2s.out; omega
        have fp := fr_put6 wr w.heap.size (.string t) (.slice A1 l1.length c1) (.slice A2 l2.length c2) (.int .i64 n3) (.slice A3 l4.length c3) (.slice A4 acc.length c4)
        have j2 := F2.out.size
        have m1 : ∀ ad, A1 = some ad → w.heap.size < ad.block ∧ ad.block < wr.heap.size := fun ad e => by have := B1.out ad e; have := sz.out; omega
        have m2 : ∀ ad, A2 = some ad → w.heap.size < ad.block ∧ ad.block < wr.heap.size := fun ad e => by have := B2.out ad e; have := sz.out; have := f3s.out; omega
        have m3 : ∀ ad, A3 = some ad → w.heap.size < ad.block ∧ ad.block < wr.heap.size := fun ad e => by have := B3.out ad e; have := sz.out; have := f5s.out; omega
        have m4 : ∀ ad, A4 = some ad → w.heap.size < ad.block ∧ ad.block < wr.heap.size := fun ad e => by have := own_from hown.out ad e; have := own_lt hown.out ad e; have := f6s.out; have := HG3.out; omega
        have n4 : ∀ ad, A4 = some ad → ad.block ≠ w.heap.size := fun ad e => by have := m4 ad e; omega
        refine ⟨⟨⟨HT0.out, Nat.le_trans hts (by decide), ?_, ?_, ?_, ?_⟩, fun ad e => by rw [put6_size]; have := m1 ad e; omega, fun ad e => by rw [put6_size]; have := m2 ad e; omega, fun ad e => by rw [put6_size]; have := m3 ad e; omega, fun ad e => by rw [put6_size]; have := m4 ad e; omega⟩, hr.out.put6 (by omega) _ _ _ _ _ _, (F6.out.tr hf.out).put6 (Nat.le_refl _) _ _ _ _ _ _⟩
        · exact (R1d.out.st hf.out N1.out).st fp fun ad e => by have := m1 ad e; omega
        · exact (R2c.out.st hf.out N2.out).st fp fun ad e => by have := m2 ad e; omega
        · exact (R3.out.st hf.out N3.out).st fp fun ad e => by have := m3 ad e; omega
        · exact (RC.of_own hown.out (by omega)).st fp n4
      refine bodyPost_ret (v := .agg #[.string t, .slice A1 l1.length c1, .slice A2 l2.length c2, .int .i64 n3, .slice A3 l4.length c3, .slice A4 acc.length c4]) (by simp [results, Tryd.results22, go_sem, m0, m1, m2, m3, m4, m5]) rfl ⟨t, A1, c1, A2, c2, A3, c3, A4, c4, rfl, HX.1, HX.2.1, HX.2.2⟩
    · have hjI : (0 : Int) < (j : Int) := by omega
      by_cases he : s9.e = 0
      · obtain ⟨j, rfl⟩ : ∃ i, j = i + 1 := ⟨j - 1, by omega⟩
        have hcast : ((j + 1 : Nat) : Int) - 1 = (j : Int) := by omega
        go_wp2_with fail
        obtain ⟨y1, d1⟩ : ∃ q, numS s9 = q := ⟨_, rfl⟩
        obtain ⟨x1, t1⟩ := y1
        obtain ⟨y2, d2'⟩ : ∃ q, numS t1 = q := ⟨_, rfl⟩
        obtain ⟨x2, t2⟩ := y2
        obtain ⟨y3, d3⟩ : ∃ q, numS t2 = q := ⟨_, rfl⟩
        obtain ⟨x3, t3⟩ := y3
        obtain ⟨y4, d4⟩ : ∃ q, numS t3 = q := ⟨_, rfl⟩
        obtain ⟨x4, t4⟩ := y4
        obtain ⟨y5, d5⟩ : ∃ q, numS t4 = q := ⟨_, rfl⟩
        obtain ⟨x5, t5⟩ := y5
        have HI : Hid (insS s9 = (⟨x1, x2, x3, x4, x5⟩, t5)) := by
          show _ = _
          unfold insS
          simp only [d1, d2', d3, d4, d5]
        have D1 := Lib.hid d1; have D2 := Lib.hid d2'; have D3 := Lib.hid d3; have D4 := Lib.hid d4; have D5 := Lib.hid d5
        clear d1 d2' d3 d4 d5
        have tk1 : True := trivial
        have tk2 : True := trivial
        have tk3 : True := trivial
        have tk4 : True := trivial
        have tk5 : True := trivial
        go_region_law (first
            | (have _t := tk1; go_simp; go_at_call 19; refine (num_any _ x'.out ((F6.out.tr hf.out.drew).aft hw hg) hg hr.out.drew).mono ?_; rintro e v1 ⟨rfl, hq1, fq1⟩; rw [D1.out] at hq1; rw [D1.out]; have hp1 := Lib.hid hq1; have fp1 := Lib.hid (hf.out.drew.tr fq1); have zp1 := Lib.hid (fq1.blk hz.out.drew (by omega)); have op1 := Lib.hid (own_fr hown.out.drew fq1 (own_old hown.out.drew (by omega))); have kq1 : v1.cell? ⟨g3, 5, none⟩ = some (.slice A4 acc.length c4) := (by rw [zp1.out.cell]; rfl); have lq1 := zp1.out.is_le; clear hq1 fq1; clear _t tk1)
            | (have _t := tk2; go_simp; go_at_call 19; refine (num_any _ x'.out ((F6.out.tr fp1.out).aft hw hg) hg hp1.out).mono ?_; rintro e v2 ⟨rfl, hq2, fq2⟩; rw [D2.out] at hq2; rw [D2.out]; have hp2 := Lib.hid hq2; have fp2 := Lib.hid (fp1.out.tr fq2); have zp2 := Lib.hid (fq2.blk zp1.out (by omega)); have op2 := Lib.hid (own_fr op1.out fq2 (own_old op1.out (by omega))); have kq2 : v2.cell? ⟨g3, 5, none⟩ = some (.slice A4 acc.length c4) := (by rw [zp2.out.cell]; rfl); have lq2 := zp2.out.is_le; clear hq2 fq2; clear _t tk2)
            | (have _t := tk3; go_simp; go_at_call 19; refine (num_any _ x'.out ((F6.out.tr fp2.out).aft hw hg) hg hp2.out).mono ?_; rintro e v3 ⟨rfl, hq3, fq3⟩; rw [D3.out] at hq3; rw [D3.out]; have hp3 := Lib.hid hq3; have fp3 := Lib.hid (fp2.out.tr fq3); have zp3 := Lib.hid (fq3.blk zp2.out (by omega)); have op3 := Lib.hid (own_fr op2.out fq3 (own_old op2.out (by omega))); have kq3 : v3.cell? ⟨g3, 5, none⟩ = some (.slice A4 acc.length c4) := (by rw [zp3.out.cell]; rfl); have lq3 := zp3.out.is_le; clear hq3 fq3; clear _t tk3)
            | (have _t := tk4; go_simp; go_at_call 19; refine (num_any _ x'.out ((F6.out.tr fp3.out).aft hw hg) hg hp3.out).mono ?_; rintro e v4 ⟨rfl, hq4, fq4⟩; rw [D4.out] at hq4; rw [D4.out]; have hp4 := Lib.hid hq4; have fp4 := Lib.hid (fp3.out.tr fq4); have zp4 := Lib.hid (fq4.blk zp3.out (by omega)); have op4 := Lib.hid (own_fr op3.out fq4 (own_old op3.out (by omega))); have kq4 : v4.cell? ⟨g3, 5, none⟩ = some (.slice A4 acc.length c4) := (by rw [zp4.out.cell]; rfl); have lq4 := zp4.out.is_le; clear hq4 fq4; clear _t tk4)
            | (have _t := tk5; go_simp; go_at_call 19; refine (num_any _ x'.out ((F6.out.tr fp4.out).aft hw hg) hg hp4.out).mono ?_; rintro e v5 ⟨rfl, hq5, fq5⟩; rw [D5.out] at hq5; rw [D5.out]; have hp5 := Lib.hid hq5; have fp5 := Lib.hid (fp4.out.tr fq5); have zp5 := Lib.hid (fq5.blk zp4.out (by omega)); have op5 := Lib.hid (own_fr op4.out fq5 (own_old op4.out (by omega))); have kq5 : v5.cell? ⟨g3, 5, none⟩ = some (.slice A4 acc.length c4) := (by rw [zp5.out.cell]; rfl); have lq5 := zp5.out.is_le; clear hq5 fq5; clear _t tk5)
            | (refine step_append_any _ (by rfl) (.tmp 30) (.tmp 42) 50 (by rfl) (g3 + 1) 61 i0 _ 5 40 Tryd.underlying50 hi hz0 hz1 hz2 (by rfl) (by omega) (.slice A4 acc.length c4) acc.length (acc.flatMap c5) (by rfl) (op5.out.alloc _) (v5.heap.size + 1) (some ⟨v5.heap.size, 0, none⟩) 1 1 (c5 ⟨x1, x2, x3, x4, x5⟩) (by rfl) (Reads.lit v5 61 5 (c5 ⟨x1, x2, x3, x4, x5⟩) rfl) c5_one (by unfold maxLen; omega) (by omega) (by rw [size_alloc_]; have := fp5.out.size; have := HG3.out; omega) ?_; intro v6 w10 hown6 hgr6 hnb6; obtain ⟨A6, c6, rfl, _, _⟩ := own_slice hown6; have zz6 := Lib.hid ((zp5.out.alloc (.cells (c5 ⟨x1, x2, x3, x4, x5⟩).toArray 61)).grown hgr6 (own_old op5.out (by omega)).symm); have kq6 : w10.cell? ⟨g3, 5, none⟩ = some (.slice A4 acc.length c4) := (by rw [zz6.out.cell]; rfl); have fz6 := zz6.out.frozen 5; have lq6 := zz6.out.is_le; have hp6 := Lib.hid ((hp5.out.alloc (.cells (c5 ⟨x1, x2, x3, x4, x5⟩).toArray 61)).grown hgr6 (own_old op5.out (by omega)).symm); have fp6 : Hid (Fr w6 w10 g none) := fr_grown (B := 0) hgr6 fp5.out (fun k hk => by have := (op5.out.lt k hk).1; have := HG3.out; omega); have on6 := Lib.hid hown6; clear hown6 hgr6 hnb6))
        all_goals
          have HTn : Hid (codeF j (acc ++ [⟨x1, x2, x3, x4, x5⟩]) t5 = T) := by
            have h_ := ht.out
            rw [codeF, if_pos he, HI.out] at h_
            exact h_
          have HL : Hid (acc.length + j + 1 ≤ 65536) := by show _ ≤ _; omega
          go_wp2_with fail
          go_round
          case rel =>
            have hL := HL.out
            have e1 : (acc ++ [(⟨x1, x2, x3, x4, x5⟩ : Ins)]).length = acc.length + 1 := List.length_append
            have e2 : (acc ++ [(⟨x1, x2, x3, x4, x5⟩ : Ins)]).flatMap c5 = acc.flatMap c5 ++ c5 ⟨x1, x2, x3, x4, x5⟩ := by rw [List.flatMap_append]; simp
            have hne : (Value.slice A6 (acc.length + 1) c6).ownBlock ≠ some g3 := own_old on6.out (by omega)
            refine ⟨j, acc ++ [⟨x1, x2, x3, x4, x5⟩], t5, A6, c6, by go_num, by rw [e1]; omega, HTn, ?_, ?_, hp6.out.far (by omega) _ _, fp6.out.set (by have := HG3.out; omega) _ _⟩
            · rw [e1, e2]; exact own_far on6.out hne
            · rw [e1]; exact zz6.out.set_ 5 _
          case measure =>
            show ((j : Nat) : Int).toNat < ((j + 1 : Nat) : Int).toNat
            rw [Int.toNat_natCast, Int.toNat_natCast]; exact Nat.lt_succ_self j
      · have HE : Hid ((acc, s9) = T) := (codeF_stop he).symm.trans ht.out
        obtain ⟨ev, hev⟩ : ∃ ev, s9.e = ev := ⟨_, rfl⟩
        rw [hev] at he d2
        clear hev
        go_upto_region 6 with fail
        have q0 : wr.cell? ⟨g3, 0, none⟩ = some (.string t) := by rw [hz.out.cell]; rfl
        have q1 : wr.cell? ⟨g3, 1, none⟩ = some (.slice A1 l1.length c1) := by rw [hz.out.cell]; rfl
        have q2 : wr.cell? ⟨g3, 2, none⟩ = some (.slice A2 l2.length c2) := by rw [hz.out.cell]; rfl
        have q3 : wr.cell? ⟨g3, 3, none⟩ = some (.int .i64 n3) := by rw [hz.out.cell]; rfl
        have q4 : wr.cell? ⟨g3, 4, none⟩ = some (.slice A3 l4.length c3) := by rw [hz.out.cell]; rfl
        have lz2 := hzz.out.is_le
        have p0 : wr.cell? ⟨w.heap.size, 0, none⟩ = some (.string ⟨#[]⟩) := by rw [hzz.out.cell]; rfl
        have u0 := hzz.out.frozen 0
        have p1 : wr.cell? ⟨w.heap.size, 1, none⟩ = some (.slice none 0 0) := by rw [hzz.out.cell]; rfl
        have u1 := hzz.out.frozen 1
        have p2 : wr.cell? ⟨w.heap.size, 2, none⟩ = some (.slice none 0 0) := by rw [hzz.out.cell]; rfl
        have u2 := hzz.out.frozen 2
        have p3 : wr.cell? ⟨w.heap.size, 3, none⟩ = some (.int .i64 0) := by rw [hzz.out.cell]; rfl
        have u3 := hzz.out.frozen 3
        have p4 : wr.cell? ⟨w.heap.size, 4, none⟩ = some (.slice none 0 0) := by rw [hzz.out.cell]; rfl
        have u4 := hzz.out.frozen 4
        have p5 : wr.cell? ⟨w.heap.size, 5, none⟩ = some (.slice none 0 0) := by rw [hzz.out.cell]; rfl
        have u5 := hzz.out.frozen 5
        have P6 := Lib.hid (put6_blk hzz.out (.string t) (.slice A1 l1.length c1) (.slice A2 l2.length c2) (.int .i64 n3) (.slice A3 l4.length c3) (.slice A4 acc.length c4))
        have kk : ∀ j v, (#[.string t, .slice A1 l1.length c1, .slice A2 l2.length c2, .int .i64 n3, .slice A3 l4.length c3, .slice A4 acc.length c4] : Array Value)[j]? = some v → (put6 wr w.heap.size (.string t) (.slice A1 l1.length c1) (.slice A2 l2.length c2) (.int .i64 n3) (.slice A3 l4.length c3) (.slice A4 acc.length c4)).cell? ⟨w.heap.size, j, none⟩ = some v := fun j v hv => by rw [P6.out.cell]; exact hv
        have m0 := kk 0 _ rfl
        have m1 := kk 1 _ rfl
        have m2 := kk 2 _ rfl
        have m3 := kk 3 _ rfl
        have m4 := kk 4 _ rfl
        have m5 := kk 5 _ rfl
        have KM := Lib.hid kk
        clear kk
        simp only [put6] at m0 m1 m2 m3 m4 m5
        go_wp2_with fail
        have hE := HE.out
        subst hE
        have HX : RtnP w (put6 wr w.heap.size (.string t) (.slice A1 l1.length c1) (.slice A2 l2.length c2) (.int .i64 n3) (.slice A3 l4.length c3) (.slice A4 acc.length c4)) t A1 c1 A2 c2 A3 c3 A4 c4 ⟨t_, l1, l2, n3, l4, acc⟩ ∧ RdIs (put6 wr w.heap.size (.string t) (.slice A1 l1.length c1) (.slice A2 l2.length c2) (.int .i64 n3) (.slice A3 l4.length c3) (.slice A4 acc.length c4)) g A c bs s9 ∧ Fr w (put6 wr w.heap.size (.string t) (.slice A1 l1.length c1) (.slice A2 l2.length c2) (.int .i64 n3) (.slice A3 l4.length c3) (.slice A4 acc.length c4)) g none := by
          have sz : Hid (w.heap.size + 1 ≤ w2.heap.size ∧ w2.heap.size ≤ w3.heap.size ∧ w3.heap.size ≤ w4.heap.size ∧ w4.heap.size ≤ w5.heap.size ∧ w5.heap.size ≤ w6.heap.size ∧ w6.heap.size ≤ wr.heap.size) := by show _ ∧ _; have := f2s.out; have := f3s.out; have := f4s.out; have := f5s.out; have := f6s.out; have := hf.out.size; omega
          have hs1 : w.heap.size < w2.heap.size := by have := f2s.out; omega
          have fp := fr_put6 wr w.heap.size (.string t) (.slice A1 l1.length c1) (.slice A2 l2.length c2) (.int .i64 n3) (.slice A3 l4.length c3) (.slice A4 acc.length c4)
          have j2 := F2.out.size
          have m1 : ∀ ad, A1 = some ad → w.heap.size < ad.block ∧ ad.block < wr.heap.size := fun ad e => by have := B1.out ad e; have := sz.out; omega
          have m2 : ∀ ad, A2 = some ad → w.heap.size < ad.block ∧ ad.block < wr.heap.size := fun ad e => by have := B2.out ad e; have := sz.out; have := f3s.out; omega
          have m3 : ∀ ad, A3 = some ad → w.heap.size < ad.block ∧ ad.block < wr.heap.size := fun ad e => by have := B3.out ad e; have := sz.out; have := f5s.out; omega
          have m4 : ∀ ad, A4 = some ad → w.heap.size < ad.block ∧ ad.block < wr.heap.size := fun ad e => by have := own_from hown.out ad e; have := own_lt hown.out ad e; have := f6s.out; have := HG3.out; omega
          have n4 : ∀ ad, A4 = some ad → ad.block ≠ w.heap.size := fun ad e => by have := m4 ad e; omega
          refine ⟨⟨⟨HT0.out, Nat.le_trans hts (by decide), ?_, ?_, ?_, ?_⟩, fun ad e => by rw [put6_size]; have := m1 ad e; omega, fun ad e => by rw [put6_size]; have := m2 ad e; omega, fun ad e => by rw [put6_size]; have := m3 ad e; omega, fun ad e => by rw [put6_size]; have := m4 ad e; omega⟩, hr.out.put6 (by omega) _ _ _ _ _ _, (F6.out.tr hf.out).put6 (Nat.le_refl _) _ _ _ _ _ _⟩
          · exact (R1d.out.st hf.out N1.out).st fp fun ad e => by have := m1 ad e; omega
          · exact (R2c.out.st hf.out N2.out).st fp fun ad e => by have := m2 ad e; omega
          · exact (R3.out.st hf.out N3.out).st fp fun ad e => by have := m3 ad e; omega
          · exact (RC.of_own hown.out (by omega)).st fp n4
        refine bodyPost_ret (v := .agg #[.string t, .slice A1 l1.length c1, .slice A2 l2.length c2, .int .i64 n3, .slice A3 l4.length c3, .slice A4 acc.length c4]) (by simp [results, Tryd.results22, go_sem, m0, m1, m2, m3, m4, m5]) rfl ⟨t, A1, c1, A2, c2, A3, c3, A4, c4, rfl, HX.1, HX.2.1, HX.2.2⟩
end Go.Proofs.YtgmojjdojcmnaaaDoor
