/-
  Contract: image.Get of bytes with the right checksum (given a contract of asm.Check).
-/
import Derived.Test.YtgmojjdojcmnaaaDoorIGet
import Derived.Lib.RabinKarpLaws
set_option linter.unusedVariables false
set_option linter.unusedSimpArgs false
namespace Go.Proofs.YtgmojjdojcmnaaaDoor
open Go.RowKit Go.BigFrame

theorem magic_of (l : List UInt8) (ms : ByteArray) (h : (⟨l.toArray⟩ : ByteArray) = ms) : (ms.toList == [83, 89, 78, 49]) = decide (l = [83, 89, 78, 49]) := by
  subst h
  rw [ByteArray.toList_eq]
  show (l == [83, 89, 78, 49]) = _
  rw [Bool.eq_iff_iff, beq_iff_eq, decide_eq_true_iff]
set_option maxRecDepth 100000 in
set_option maxHeartbeats 8000000 in
theorem get_main {w0 : World} (w : World) {A c bs} (x : RY w0 A c bs) (hw : After w0 w) (h : ¬ bs.length < 8) (heq : enc (sumB (bs.take (bs.length - 4))) = bs.drop (bs.length - 4)) (hC : CheckC) (hO : Ops w0) :
    Calls Tryd.prog 10 #[.slice A bs.length c] w fun e w' => ∃ A1 c1 A2 c2, e = .returned (.tuple #[.agg #[.slice A1 (getV bs).1.enums.length c1, .slice A2 (getV bs).1.rts.length c2], .int .i64 (getV bs).2]) ∧ RIm w' A1 c1 A2 c2 (getV bs).1 ∧ After w w' := by
  have hn8 : 8 ≤ bs.length := by omega
  obtain ⟨n, hn⟩ : ∃ n, bs.length = n + 4 := ⟨bs.length - 4, by omega⟩
  have hI : ¬ ((bs.length : Int) < 8) := by omega
  have hcast : (bs.length : Int) - 4 = ((n : Nat) : Int) := by omega
  have hlen := x.len
  have hle_ := x.le
  have hcap_ := x.cap
  have hn4 : n + 4 ≤ c := by omega
  have hnc : n ≤ c := by omega
  have hncI : (n : Int) ≤ (c : Int) := by omega
  have hn0 : New w w.heap.size := inferInstance
  obtain ⟨b, p, x0, x1, x2, x3, rfl, hle, e0, e1, e2, e3, HD⟩ := (x.here w).four (k := n) (by omega)
  have hbw0 : b < w0.heap.size := by
    obtain ⟨b', p', e', hb', _⟩ := x.plain (by omega)
    cases e'; exact hb'
  have hdrop : bs.drop n = [x0, x1, x2, x3] := by
    have h_ := HD.out
    rw [h_, List.drop_eq_nil_of_le (by omega)]
  have hN : numS ⟨bs.drop n, 0⟩ = (dec x0 x1 x2 x3, ⟨[], 0⟩) := numS_ok rfl hdrop
  have x' := Lib.hid x
  have hsum := Lib.hid (sum_iff (sumB (bs.take n)) (sumB_lt _) x0 x1 x2 x3)
  have HS := Lib.hid (fun (V : World) (hV : After w0 V) => by
    have h_ := sum_any (x.cut n (by omega)) V hV
    rw [show (bs.take n).length = n by rw [List.length_take]; omega] at h_
    exact h_)
  obtain ⟨sm, hsm⟩ : ∃ sm, sumB (bs.take n) = sm := ⟨_, rfl⟩
  obtain ⟨dd, hdd⟩ : ∃ dd, dec x0 x1 x2 x3 = dd := ⟨_, rfl⟩
  rw [hsm] at hsum HS
  rw [hdd] at hN hsum
  have HN := Lib.hid hN
  have HDr := Lib.hid hdrop
  have HSm := Lib.hid hsm
  have hq : (IntKind.u32.wrap dd != (sm : Int)) = false := by
    rw [bne_eq_false_iff_eq, IntKind.wrap_u32]
    rw [show bs.length - 4 = n by omega, hdrop, hsm] at heq
    exact hsum.out.2 heq
  have KC0 : ∀ W : World, After w0 W → (convert 22 9 (.slice (some ⟨b, p, none⟩) 4 c)).run Tryd.prog W = .ok (.string ⟨(bs.take 4).toArray⟩) W := by
    intro W hW
    have e := run_convert_bytes_back (P := Tryd.prog) W 22 9 5 ⟨b, p, none⟩ c (bs.take 4) Tryd.underlying22 Tryd.underlying5 Tryd.underlying9 (fun j hj => by
      have hj' : j < 4 := by have := hj; rw [List.length_take] at this; omega
      rw [Addr.add_lit]
      obtain ⟨b', p', e', hb', hcb⟩ := x.plain (by omega)
      cases e'
      refine (hW.below.cell (p := ⟨b, p + j, none⟩) hbw0).trans ?_
      refine hcb j _ ?_
      rw [List.getElem_take]
      exact List.getElem?_eq_getElem (by omega))
    have el : (bs.take 4).length = 4 := by rw [List.length_take]; omega
    rw [el] at e
    exact e
  obtain ⟨ms, hms⟩ : ∃ ms : ByteArray, (⟨(bs.take 4).toArray⟩ : ByteArray) = ms := ⟨_, rfl⟩
  rw [hms] at KC0
  replace KC0 := Lib.hid KC0
  have HMs := Lib.hid hms
  have HEq := Lib.hid heq
  have HG : Hid (getV bs = if bs.take 4 ≠ [83, 89, 78, 49] then (⟨[], []⟩, 5) else (if (if (imgS ⟨(bs.take n).drop 4, 0⟩).2.e = 0 then (if (imgS ⟨(bs.take n).drop 4, 0⟩).2.rest = [] then chk (imgS ⟨(bs.take n).drop 4, 0⟩).1 else 5) else (imgS ⟨(bs.take n).drop 4, 0⟩).2.e) = 0 then ((imgS ⟨(bs.take n).drop 4, 0⟩).1, 0) else (⟨[], []⟩, (if (imgS ⟨(bs.take n).drop 4, 0⟩).2.e = 0 then (if (imgS ⟨(bs.take n).drop 4, 0⟩).2.rest = [] then chk (imgS ⟨(bs.take n).drop 4, 0⟩).1 else 5) else (imgS ⟨(bs.take n).drop 4, 0⟩).2.e)))) := by
    show _ = _
    unfold getV
    rw [if_neg h]
    simp only []
    rw [if_neg (by rw [← heq]; simp), show bs.length - 4 = n by omega]
  have hmt := magic_of _ _ hms
  by_cases hmg : bs.take 4 = [83, 89, 78, 49]
  rotate_left
  · rw [decide_eq_false hmg] at hmt
    have hG : getV bs = (⟨[], []⟩, 5) := HG.out.trans (if_pos hmg)
    rw [hG]
    clear hms hG HG hmg
    clear x hN hdrop hdd hsm h heq
    obtain ⟨W1, hW1, z1, a1, hs1⟩ : ∃ W1, (w.alloc (.cells #[.slice none 0 0, .slice none 0 0] 29)) = W1 ∧ Hid (Blk W1 w.heap.size 29 #[.slice none 0 0, .slice none 0 0]) ∧ After w W1 ∧ W1.heap.size = w.heap.size + 1 := ⟨_, rfl, Blk.new _ _ _, inferInstance, size_alloc_ _ _⟩
    go_enter Tryd.func10, Tryd.ntmps10
    go_wp2_with fail
    have ag : w0.heap.size ≤ w.heap.size + 1 := by have := hw.below.size; omega
    obtain ⟨W2, hW2, HR2, a2, z2⟩ : ∃ W2, W1.alloc (.cells #[.slice (some ⟨b, p, none⟩) (n + 4) c, .int .i64 (n : Nat), .int .i64 0] 47) = W2 ∧ Hid (RdIs W2 (w.heap.size + 1) (some ⟨b, p, none⟩) c bs ⟨bs.drop n, 0⟩) ∧ After W1 W2 ∧ Hid (Blk W2 w.heap.size 29 #[.slice none 0 0, .slice none 0 0]) := by
      refine ⟨_, rfl, ?_, inferInstance, z1.out.alloc _⟩
      refine ⟨n, ?_, by omega, rfl⟩
      rw [hn, ← hs1]
      exact Blk.new _ _ _
    rw [hW2]
    clear hW2
    have q2 : After w0 W2 := after_after hw (after_after a1 a2)
    have tk1 : True := trivial
    have tk2 : True := trivial
    go_region_law (first
      | (have _t := tk1; go_simp; go_at_call 19; refine (num_any _ x'.out (after_after q2 inferInstance) ag HR2.out.drew).mono ?_; rintro e v1 ⟨rfl, hq1, fq1⟩; rw [HN.out]; have aq1 : After w0 v1 := Fr.aft fq1 (after_after q2 inferInstance) ag; have zq1 := Lib.hid (fq1.blk z2.out.drew (by omega)); have mq1 : After w v1 := Fr.aft fq1 (after_after a1 (after_after a2 inferInstance)) (by omega); have mqs : Hid (W2.heap.size ≤ v1.heap.size) := fq1.size; clear hq1 fq1; clear _t tk1)
      | (have _t := tk2; go_simp; go_at_call 15; refine (HS.out _ inferInstance).mono ?_; rintro e v2 ⟨rfl, rfl⟩; clear _t tk2))
    all_goals
      have y0 : v2.cell? ⟨w.heap.size, 0, none⟩ = some (.slice none 0 0) := by rw [zq1.out.cell]; rfl
      have y1 : v2.cell? ⟨w.heap.size, 1, none⟩ = some (.slice none 0 0) := by rw [zq1.out.cell]; rfl
      have yf0 := zq1.out.frozen 0
      have yf1 := zq1.out.frozen 1
      have yl := zq1.out.is_le
      have KC := KC0.out v2 aq1
      have h4I : (4 : Int) ≤ (c : Int) := by omega
      have h4c : 4 ≤ c := by omega
      go_wp2_with fail
      have r2 := (zq1.out.set_ 0 (.slice none 0 0)).set_ 1 (.slice none 0 0)
      have k0 : ((v2.setCell ⟨w.heap.size, 0, none⟩ (.slice none 0 0)).setCell ⟨w.heap.size, 1, none⟩ (.slice none 0 0)).cell? ⟨w.heap.size, 0, none⟩ = some (.slice none 0 0) := by rw [r2.cell]; rfl
      have k1 : ((v2.setCell ⟨w.heap.size, 0, none⟩ (.slice none 0 0)).setCell ⟨w.heap.size, 1, none⟩ (.slice none 0 0)).cell? ⟨w.heap.size, 1, none⟩ = some (.slice none 0 0) := by rw [r2.cell]; rfl
      refine bodyPost_ret (v := .tuple #[.agg #[.slice none 0 0, .slice none 0 0], .int .i64 5]) (by simp [results, Tryd.results10, go_sem, k0, k1]) rfl ⟨none, 0, none, 0, rfl, ⟨⟨Reads.none_, by simp, by omega, by simp⟩, RRs.nil _⟩, inferInstance⟩
  rw [decide_eq_true hmg] at hmt
  replace HG := Lib.hid (HG.out.trans (if_neg (by rw [hmg]; simp)))
  clear hms hmg
  clear x hN hdrop hdd hsm h heq
  obtain ⟨W1, hW1, z1, a1, hs1⟩ : ∃ W1, (w.alloc (.cells #[.slice none 0 0, .slice none 0 0] 29)) = W1 ∧ Hid (Blk W1 w.heap.size 29 #[.slice none 0 0, .slice none 0 0]) ∧ After w W1 ∧ W1.heap.size = w.heap.size + 1 := ⟨_, rfl, Blk.new _ _ _, inferInstance, size_alloc_ _ _⟩
  go_enter Tryd.func10, Tryd.ntmps10
  go_wp2_with fail
  have ag : w0.heap.size ≤ w.heap.size + 1 := by have := hw.below.size; omega
  obtain ⟨W2, hW2, HR2, a2, z2⟩ : ∃ W2, W1.alloc (.cells #[.slice (some ⟨b, p, none⟩) (n + 4) c, .int .i64 (n : Nat), .int .i64 0] 47) = W2 ∧ Hid (RdIs W2 (w.heap.size + 1) (some ⟨b, p, none⟩) c bs ⟨bs.drop n, 0⟩) ∧ After W1 W2 ∧ Hid (Blk W2 w.heap.size 29 #[.slice none 0 0, .slice none 0 0]) := by
    refine ⟨_, rfl, ?_, inferInstance, z1.out.alloc _⟩
    refine ⟨n, ?_, by omega, rfl⟩
    rw [hn, ← hs1]
    exact Blk.new _ _ _
  rw [hW2]
  have hsz2 : Hid (w.heap.size + 1 ≤ W2.heap.size ∧ True) := ⟨by have := HR2.out.le.le; omega, trivial⟩
  clear hW2
  have q2 : After w0 W2 := after_after hw (after_after a1 a2)
  have tk1 : True := trivial
  have tk2 : True := trivial
  go_region_law (first
    | (have _t := tk1; go_simp; go_at_call 19; refine (num_any _ x'.out (after_after q2 inferInstance) ag HR2.out.drew).mono ?_; rintro e v1 ⟨rfl, hq1, fq1⟩; rw [HN.out]; have aq1 : After w0 v1 := Fr.aft fq1 (after_after q2 inferInstance) ag; have zq1 := Lib.hid (fq1.blk z2.out.drew (by omega)); have mq1 : After w v1 := Fr.aft fq1 (after_after a1 (after_after a2 inferInstance)) (by omega); have mqs : Hid (W2.heap.size ≤ v1.heap.size) := fq1.size; clear hq1 fq1; clear _t tk1)
    | (have _t := tk2; go_simp; go_at_call 15; refine (HS.out _ inferInstance).mono ?_; rintro e v2 ⟨rfl, rfl⟩; clear _t tk2))
  all_goals
    have y0 : v2.cell? ⟨w.heap.size, 0, none⟩ = some (.slice none 0 0) := by rw [zq1.out.cell]; rfl
    have y1 : v2.cell? ⟨w.heap.size, 1, none⟩ = some (.slice none 0 0) := by rw [zq1.out.cell]; rfl
    have yf0 := zq1.out.frozen 0
    have yf1 := zq1.out.frozen 1
    have yl := zq1.out.is_le
    have KC := KC0.out v2 aq1
    have h4I : (4 : Int) ≤ (c : Int) := by omega
    have h4c : 4 ≤ c := by omega
    go_wp2_with fail
    obtain ⟨g2, hg2⟩ : ∃ g2, v2.heap.size = g2 := ⟨_, rfl⟩
    try rw [hg2]
    have hgw : g2 > w.heap.size + 1 := by
      have h_ := HR2.out.le.le
      have h__ := mqs.out
      omega
    have ag2 : w0.heap.size ≤ g2 := by omega
    have x2 := Lib.hid (x'.out.cut n (by omega))
    have hlt : (bs.take n).length = n := by rw [List.length_take]; omega
    obtain ⟨bt, hbt⟩ : ∃ bt, bs.take n = bt := ⟨_, rfl⟩
    rw [hbt] at x2 hlt HG
    obtain ⟨W3, hW3, h3, F3, z3, aw3⟩ : ∃ W3, v2.alloc (.cells #[.slice (some ⟨b, p, none⟩) n c, .int .i64 4, .int .i64 0] 47) = W3 ∧ Hid (RdIs W3 g2 (some ⟨b, p, none⟩) c bt ⟨bt.drop 4, 0⟩) ∧ Hid (v2.heap.size ≤ W3.heap.size) ∧ Hid (Blk W3 w.heap.size 29 #[.slice none 0 0, .slice none 0 0]) ∧ After w W3 := by
      refine ⟨_, rfl, ⟨4, ?_, by omega, rfl⟩, ?_, zq1.out.alloc _, after_after mq1 inferInstance⟩
      · rw [hlt, ← hg2]; exact Blk.new _ _ _
      · show _ ≤ _; rw [size_alloc_]; omega
    rw [hW3]
    clear hW3 hbt HR2 z2 z1 y0 y1 yf0 yf1 KC
    obtain ⟨q1, e1⟩ : ∃ q, allS ⟨bt.drop 4, 0⟩ = q := ⟨_, rfl⟩
    obtain ⟨en, s1⟩ := q1
    have hr5 := manyS_range s1
    obtain ⟨q5, e5⟩ : ∃ q, manyS s1 = q := ⟨_, rfl⟩
    rw [e5] at hr5
    obtain ⟨m_, s2⟩ := q5
    obtain ⟨m, rfl⟩ : ∃ m : Nat, m_ = m := ⟨m_.toNat, by have := hr5.1; simp only [] at this; omega⟩
    have hm6 : m ≤ 65536 := by have := hr5.2; simp only [] at this; omega
    obtain ⟨T, e6⟩ : ∃ T, rtsF m [] s2 = T := ⟨_, rfl⟩
    have HT : Hid (rtsF m [] s2 = T) := e6
    have HI := Lib.hid (imgS_eq _ _ _ _ _ _ e1 e5 (show rtsF ((m : Nat) : Int).toNat [] s2 = T by rw [Int.toNat_natCast]; exact e6))
    have E1 := Lib.hid e1
    have E5 := Lib.hid e5
    clear e1 e5 e6 hr5
    have aw03 : After w0 W3 := after_after hw aw3
    refine (all_any W3 x2.out aw03 ag2 h3.out).mono ?_
    rintro e w4 ⟨A1, c1, rfl, r1_, b1, h4_, f4_⟩
    rw [E1.out] at r1_ h4_
    rw [E1.out]
    simp only [] at r1_ h4_
    have h4 := Lib.hid h4_
    have z4 := Lib.hid (f4_.blk z3.out (by omega))
    have aw04 : After w0 w4 := f4_.aft aw03 ag2
    have aw4 : After w w4 := f4_.aft aw3 (by omega)
    have R1 := Lib.hid r1_
    have B1 := Lib.hid b1
    have hl4 := Lib.hid h4_.le.le
    have hl3 : Hid (g2 < W3.heap.size) := h3.out.le.le
    clear h4_ f4_ r1_ b1
    obtain ⟨g7, hg7⟩ : ∃ g7, w4.heap.size = g7 := ⟨_, rfl⟩
    go_wp2_with fail
    obtain ⟨W5, hW5, Z5, F5, h5, z5, hs5⟩ : ∃ W5, (w4.alloc (.cells #[.slice A1 en.length c1, .slice none 0 0] 29)) = W5 ∧ Hid (Blk W5 g7 29 #[.slice A1 en.length c1, .slice none 0 0]) ∧ Hid (Fr w4 W5 g2 none) ∧ Hid (RdIs W5 g2 (some ⟨b, p, none⟩) c bt s1) ∧ Hid (Blk W5 w.heap.size 29 #[.slice none 0 0, .slice none 0 0]) ∧ W5.heap.size = g7 + 1 :=
      ⟨_, rfl, by rw [← hg7]; exact Blk.new _ _ _, (Fr.refl w4 g2 none).alloc _, h4.out.alloc _, z4.out.alloc _, by rw [size_alloc_, hg7]⟩
    rw [hW5]
    clear hW5
    refine (many_any W5 x2.out (F5.out.aft aw04 ag2) ag2 h5.out).mono ?_
    rintro e w6 ⟨rfl, h6_, f6_⟩
    rw [E5.out] at h6_
    rw [E5.out]
    simp only [] at h6_
    have hgg : g2 < g7 := by have := hl4.out; omega
    have h6 := Lib.hid h6_
    have F6 := Lib.hid (F5.out.tr f6_)
    have Z6 := Lib.hid (f6_.blk Z5.out (by omega))
    have hs6 : Hid (g7 + 1 ≤ w6.heap.size) := by show _ ≤ _; have := f6_.size; omega
    have HG7 : Hid (w4.heap.size = g7) := hg7
    clear h6_ f6_ hg7 hs5
    obtain ⟨i0, hi, hz0, hz1, hz2⟩ := info_parts rtnInfo
    go_wp2_with fail
    go_loopw [8] (fun i wr => ∃ (j : Nat) (acc : List Ra) (s' : St) (A2 : Option Addr) (c2 : Nat), i = .int .i64 (j : Nat) ∧ acc.length + j ≤ 65536 ∧ Hid (rtsF j (acc.map Ra.r) s' = T) ∧ Hid (wr.ownsRow (g7 + 1) 52 6 (.slice A2 acc.length c2) acc.length (acc.flatMap Ra.cells)) ∧ Hid (Blk wr g7 29 #[.slice A1 en.length c1, .slice A2 acc.length c2]) ∧ Hid (RdIs wr g2 (some ⟨b, p, none⟩) c bt s') ∧ Hid (Fr w4 wr g2 none) ∧ Hid (∀ a ∈ acc, RaIn wr (g7 + 1) (Value.slice A2 acc.length c2).ownBlock a)) (fun i _ => (intOf i).toNat)
    case atStart => exact ⟨m, [], s2, none, 0, rfl, by simpa using hm6, HT, World.ownsRow_nil _ _ _ _, Z6, h6, F6, (show ∀ a ∈ ([] : List Ra), _ from fun a ha => by simp at ha)⟩
    case round =>
      obtain ⟨j, acc, s9, A2, c2, rfl, hj, ht, hown, hz, hr, hf, hra⟩ := hrel
      have d2 := hr.out.cell2
      have l2_ := hr.out.le
      have k3 : wr.cell? ⟨g7, 1, none⟩ = some (.slice A2 acc.length c2) := by rw [hz.out.cell]; rfl
      have lz := hz.out.is_le
      have aw0r : After w0 wr := hf.out.aft aw04 ag2
      have awr : After w wr := hf.out.aft aw4 (by omega)
      rcases Nat.eq_zero_or_pos j with rfl | hpos
      · have HE : Hid ((acc.map Ra.r, s9) = T) := ht.out
        obtain ⟨kk, hb, hk, hrr⟩ := hr.out.blk
        have r1c : wr.cell? ⟨g2, 1, none⟩ = some (.int .i64 kk) := by rw [hb.cell]; rfl
        have zw := Lib.hid (hf.out.blk z4.out (by omega))
        have HV : Hid (getV bs = if (if s9.e = 0 then (if s9.rest = [] then chk ⟨en, acc.map Ra.r⟩ else 5) else s9.e) = 0 then (⟨en, acc.map Ra.r⟩, 0) else (⟨[], []⟩, (if s9.e = 0 then (if s9.rest = [] then chk ⟨en, acc.map Ra.r⟩ else 5) else s9.e))) := by
          have h1 := HG.out
          have h2 := HI.out
          rw [← HE.out] at h2
          rw [h2] at h1
          exact h1
        have HBd : Hid (ImB ⟨en, acc.map Ra.r⟩) := by
          have h2 := HI.out
          rw [← HE.out] at h2
          have h3 := imgS_bd ⟨bt.drop 4, 0⟩
          rw [h2] at h3
          exact h3
        have hrl : s9.rest.length = n - kk := by rw [hrr, List.length_drop, hlt]
        by_cases hrest : s9.rest = []
        · by_cases he : s9.e = 0
          · -- all read: the validation
            have hkI : ¬ ((kk : Int) < (n : Int)) := by
              have h0 : s9.rest.length = 0 := by rw [hrest]; rfl
              omega
            obtain ⟨ev, hev⟩ : ∃ ev, chk ⟨en, acc.map Ra.r⟩ = ev := ⟨_, rfl⟩
            have hfs : failS s9 ev = ⟨s9.rest, ev⟩ := by unfold failS; rw [if_pos he]
            have b1' := fun ad e => B1.out ad e
            have n1 : ∀ ad, A1 = some ad → ad.block ≠ g2 := fun ad e => by have := B1.out ad e; have := hl3.out; omega
            have HOw := Lib.hid (RRs.of_own hown.out (by omega) (fun a ha => (hra.out a ha).rt))
            have RE := Lib.hid (R1.out.st hf.out n1)
            have HCK := Lib.hid (hC wr wr A1 c1 A2 c2 ⟨en, acc.map Ra.r⟩ (hO.here wr) ⟨RE.out, HOw.out⟩ HBd.out inferInstance)
            rw [hev] at HCK
            simp only [List.length_map] at HCK
            have HR := Lib.hid hr.out
            have q0 : wr.cell? ⟨g7, 0, none⟩ = some (.slice A1 en.length c1) := by rw [hz.out.cell]; rfl
            have HV2 : Hid (getV bs = if ev = 0 then (⟨en, acc.map Ra.r⟩, 0) else (⟨[], []⟩, ev)) := by
              have h1 := HV.out
              rw [if_pos he, if_pos hrest, hev] at h1
              exact h1
            clear hb hrr hrl hev b1' n1
            go_wp2_with fail
            refine HCK.out.mono ?_
            rintro e w10 ⟨rfl, a10⟩
            have h10 := Lib.hid (show RdIs w10 g2 (some ⟨b, p, none⟩) c bt s9 by
              obtain ⟨kk, hb, hk, hrr⟩ := HR.out.blk
              exact ⟨kk, hb.after, hk, hrr⟩)
            have z10 := Lib.hid (zw.out.after (w' := w10))
            have Z10 := Lib.hid (hz.out.after (w' := w10))
            have aw10 : After w w10 := after_after awr a10
            go_wp2_with fail
            refine (fail_any w10 h10.out ev).mono ?_
            rintro e w11 ⟨rfl, h11, f11⟩
            rw [hfs] at h11
            have d11 := h11.cell2
            simp only [] at d11
            have l11 := h11.le
            have zE := Lib.hid (f11.blk z10.out (by omega))
            have Z11 := Lib.hid (f11.blk Z10.out (by omega))
            have a11 : After w w11 := f11.aft aw10 (by omega)
            have F11 := Lib.hid f11
            clear h11 f11
            have y0 : w11.cell? ⟨w.heap.size, 0, none⟩ = some (.slice none 0 0) := by rw [zE.out.cell]; rfl
            have y1 : w11.cell? ⟨w.heap.size, 1, none⟩ = some (.slice none 0 0) := by rw [zE.out.cell]; rfl
            have yf0 := zE.out.frozen 0
            have yf1 := zE.out.frozen 1
            have yl := zE.out.is_le
            have x0 : w11.cell? ⟨g7, 0, none⟩ = some (.slice A1 en.length c1) := by rw [Z11.out.cell]; rfl
            have x1_ : w11.cell? ⟨g7, 1, none⟩ = some (.slice A2 acc.length c2) := by rw [Z11.out.cell]; rfl
            have xl := Z11.out.is_le
            by_cases hev0 : ev = 0
            · have HGv : Hid (getV bs = (⟨en, acc.map Ra.r⟩, 0)) := by
                have h1 := HV2.out
                rw [if_pos hev0] at h1
                exact h1
              go_wp2_with fail
              have r2 := (zE.out.set_ 0 (.slice A1 en.length c1)).set_ 1 (.slice A2 acc.length c2)
              have k0 : ((w11.setCell ⟨w.heap.size, 0, none⟩ (.slice A1 en.length c1)).setCell ⟨w.heap.size, 1, none⟩ (.slice A2 acc.length c2)).cell? ⟨w.heap.size, 0, none⟩ = some (.slice A1 en.length c1) := by rw [r2.cell]; rfl
              have k1 : ((w11.setCell ⟨w.heap.size, 0, none⟩ (.slice A1 en.length c1)).setCell ⟨w.heap.size, 1, none⟩ (.slice A2 acc.length c2)).cell? ⟨w.heap.size, 1, none⟩ = some (.slice A2 acc.length c2) := by rw [r2.cell]; rfl
              have hX : RIm ((w11.setCell ⟨w.heap.size, 0, none⟩ (.slice A1 en.length c1)).setCell ⟨w.heap.size, 1, none⟩ (.slice A2 acc.length c2)) A1 c1 A2 c2 ⟨en, acc.map Ra.r⟩ := by
                have s1_ := a10.below.size
                have s2_ := F11.out.size
                have hl3_ := hl3.out
                have hg7_ := HG7.out
                have m1 : ∀ ad, A1 = some ad → ad.block ≠ g2 ∧ ad.block ≠ w.heap.size := fun ad e => by have := B1.out ad e; omega
                have fE : Fr w11 ((w11.setCell ⟨w.heap.size, 0, none⟩ (.slice A1 en.length c1)).setCell ⟨w.heap.size, 1, none⟩ (.slice A2 acc.length c2)) w.heap.size none := (fr_set _ _ _ _).tr (fr_set _ _ _ _)
                refine ⟨((RE.out.here w10).st F11.out fun ad e => (m1 ad e).1).st fE fun ad e => (m1 ad e).2, ?_⟩
                have o10 := own_after hown.out a10
                have o11 := own_fr o10 F11.out (own_old o10 (by omega))
                have oE := own_fr o11 fE (own_old o11 (by omega))
                refine RRs.of_own oE (by omega) fun a ha => ?_
                have g10 : RaIn w10 (g7 + 1) _ a := (hra.out a ha).stay a10.below.size (fun b_ h1 h2 _ => a10.below.block b_ h2) (.inl rfl)
                have g11 : RaIn w11 (g7 + 1) _ a := g10.stay F11.out.size (fun b_ h1 h2 _ => F11.out.block b_ h2 (by omega) (by simp)) (.inl rfl)
                exact (g11.stay fE.size (fun b_ h1 h2 _ => fE.block b_ h2 (by omega) (by simp)) (.inl rfl)).rt
              rw [HGv.out]
              refine bodyPost_ret (v := .tuple #[.agg #[.slice A1 en.length c1, .slice A2 acc.length c2], .int .i64 0]) (by simp [results, Tryd.results10, go_sem, k0, k1]) rfl ⟨A1, c1, A2, c2, by simp only [List.length_map], hX, inferInstance⟩
            · have HGv : Hid (getV bs = (⟨[], []⟩, ev)) := by
                have h1 := HV2.out
                rw [if_neg hev0] at h1
                exact h1
              go_wp2_with fail
              go_region
              all_goals
                go_wp2_with fail
                have r1 := zE.out.set_ 0 (.slice none 0 0)
                have r2 := r1.set_ 1 (.slice none 0 0)
                have k0 : (w11.setCell ⟨w.heap.size, 0, none⟩ (.slice none 0 0)).cell? ⟨w.heap.size, 0, none⟩ = some (.slice none 0 0) := by rw [r1.cell]; rfl
                have k1 : ((w11.setCell ⟨w.heap.size, 0, none⟩ (.slice none 0 0)).setCell ⟨w.heap.size, 1, none⟩ (.slice none 0 0)).cell? ⟨w.heap.size, 1, none⟩ = some (.slice none 0 0) := by rw [r2.cell]; rfl
                rw [HGv.out]
                refine bodyPost_ret (v := .tuple #[.agg #[.slice none 0 0, .slice none 0 0], .int .i64 ev]) (by simp [results, Tryd.results10, go_sem, k0, k1]) rfl ⟨none, 0, none, 0, rfl, ⟨⟨Reads.none_, by simp, by omega, by simp⟩, RRs.nil _⟩, inferInstance⟩
          · -- an error before
            have hkI : ¬ ((kk : Int) < (n : Int)) := by
              have h0 : s9.rest.length = 0 := by rw [hrest]; rfl
              omega
            obtain ⟨ev, hev⟩ : ∃ ev, s9.e = ev := ⟨_, rfl⟩
            have HGv : Hid (getV bs = (⟨[], []⟩, ev)) := by
              have h1 := HV.out
              rw [if_neg he] at h1
              rw [if_neg he, hev] at h1
              exact h1
            rw [hev] at he d2
            have zE := zw
            clear hb hrr hrl hev
            have y0 : wr.cell? ⟨w.heap.size, 0, none⟩ = some (.slice none 0 0) := by rw [zE.out.cell]; rfl
            have y1 : wr.cell? ⟨w.heap.size, 1, none⟩ = some (.slice none 0 0) := by rw [zE.out.cell]; rfl
            have yf0 := zE.out.frozen 0
            have yf1 := zE.out.frozen 1
            have yl := zE.out.is_le
            go_wp2_with fail
            go_region
            all_goals
              go_wp2_with fail
              have r1 := zE.out.set_ 0 (.slice none 0 0)
              have r2 := r1.set_ 1 (.slice none 0 0)
              have k0 : (wr.setCell ⟨w.heap.size, 0, none⟩ (.slice none 0 0)).cell? ⟨w.heap.size, 0, none⟩ = some (.slice none 0 0) := by rw [r1.cell]; rfl
              have k1 : ((wr.setCell ⟨w.heap.size, 0, none⟩ (.slice none 0 0)).setCell ⟨w.heap.size, 1, none⟩ (.slice none 0 0)).cell? ⟨w.heap.size, 1, none⟩ = some (.slice none 0 0) := by rw [r2.cell]; rfl
              rw [HGv.out]
              refine bodyPost_ret (v := .tuple #[.agg #[.slice none 0 0, .slice none 0 0], .int .i64 ev]) (by simp [results, Tryd.results10, go_sem, k0, k1]) rfl ⟨none, 0, none, 0, rfl, ⟨⟨Reads.none_, by simp, by omega, by simp⟩, RRs.nil _⟩, inferInstance⟩
        · -- bytes are left
          have hkI : (kk : Int) < (n : Int) := by
            have h0 : s9.rest.length ≠ 0 := fun e => hrest (List.eq_nil_of_length_eq_zero e)
            omega
          obtain ⟨ev, hev⟩ : ∃ ev, (failS s9 5).e = ev := ⟨_, rfl⟩
          have HGv : Hid (getV bs = (⟨[], []⟩, ev)) := by
            have h1 := HV.out
            have h2 : (if s9.e = 0 then (if s9.rest = [] then chk ⟨en, acc.map Ra.r⟩ else 5) else s9.e) = ev := by
              rw [← hev, if_neg hrest]; unfold failS; split <;> rfl
            rw [h2, if_neg (by rw [← hev]; unfold failS; split <;> simp_all)] at h1
            exact h1
          have hne : ¬ (ev = 0) := by rw [← hev]; unfold failS; split <;> simp_all
          have HR := Lib.hid hr.out
          clear hb hrr hrl
          go_wp2_with fail
          refine (fail_any wr HR.out 5).mono ?_
          rintro e w11 ⟨rfl, h11, f11⟩
          have d11 := h11.cell2
          rw [hev] at d11
          have l11 := h11.le
          have zE := Lib.hid (f11.blk zw.out (by omega))
          have a11 : After w w11 := f11.aft awr (by omega)
          clear h11 f11 hev
          have y0 : w11.cell? ⟨w.heap.size, 0, none⟩ = some (.slice none 0 0) := by rw [zE.out.cell]; rfl
          have y1 : w11.cell? ⟨w.heap.size, 1, none⟩ = some (.slice none 0 0) := by rw [zE.out.cell]; rfl
          have yf0 := zE.out.frozen 0
          have yf1 := zE.out.frozen 1
          have yl := zE.out.is_le
          go_wp2_with fail
          go_region
          all_goals
            go_wp2_with fail
            have r1 := zE.out.set_ 0 (.slice none 0 0)
            have r2 := r1.set_ 1 (.slice none 0 0)
            have k0 : (w11.setCell ⟨w.heap.size, 0, none⟩ (.slice none 0 0)).cell? ⟨w.heap.size, 0, none⟩ = some (.slice none 0 0) := by rw [r1.cell]; rfl
            have k1 : ((w11.setCell ⟨w.heap.size, 0, none⟩ (.slice none 0 0)).setCell ⟨w.heap.size, 1, none⟩ (.slice none 0 0)).cell? ⟨w.heap.size, 1, none⟩ = some (.slice none 0 0) := by rw [r2.cell]; rfl
            rw [HGv.out]
            refine bodyPost_ret (v := .tuple #[.agg #[.slice none 0 0, .slice none 0 0], .int .i64 ev]) (by simp [results, Tryd.results10, go_sem, k0, k1]) rfl ⟨none, 0, none, 0, rfl, ⟨⟨Reads.none_, by simp, by omega, by simp⟩, RRs.nil _⟩, inferInstance⟩
      · have hjI : (0 : Int) < (j : Int) := by omega
        by_cases he : s9.e = 0
        · obtain ⟨j, rfl⟩ : ∃ i, j = i + 1 := ⟨j - 1, by omega⟩
          have hcast2 : ((j + 1 : Nat) : Int) - 1 = (j : Int) := by omega
          go_wp2_with fail
          have HX := Lib.hid (routine_any (w0 := w0) wr.drew (g := g2) x2.out (after_after aw0r inferInstance) ag2 hr.out.drew)
          have HTn : Hid (rtsF j (acc.map Ra.r ++ [(rtnS s9).1]) (rtnS s9).2 = T) := by
            have h_ := ht.out
            rw [rtsF, if_pos he] at h_
            exact h_
          obtain ⟨y1, hy1⟩ : ∃ y, rtnS s9 = y := ⟨_, rfl⟩
          rw [hy1] at HX HTn
          clear hy1
          obtain ⟨r1, t5⟩ := y1
          simp only [] at HX HTn
          have HRD : Hid (∀ a ∈ acc, RaIn wr.drew (g7 + 1) (Value.slice A2 acc.length c2).ownBlock a) := fun a ha => (hra.out a ha).stay (Nat.le_refl _) (fun _ _ _ _ => rfl) (.inl rfl)
          have tk1 : True := trivial
          go_region_law (first
            | (have _t := tk1; go_simp; go_at_call 22; refine HX.out.mono ?_; rintro e v1 ⟨t9, D1, k1, D2, k2, D3, k3_, D4, k4, rfl, rp, hq, fq⟩; have hp1 := Lib.hid hq; have fp1 := Lib.hid (hf.out.drew.tr fq); have zp1 := Lib.hid (fq.blk hz.out.drew (by omega)); have op1 := Lib.hid (own_fr hown.out.drew fq (own_old hown.out (by omega))); have kq1 : v1.cell? ⟨g7, 1, none⟩ = some (.slice A2 acc.length c2) := (by rw [zp1.out.cell]; rfl); have lq1 := zp1.out.is_le; have ra1 := Lib.hid (ra_call (V := wr.drew) (lo := g7 + 1) HRD.out fq (by omega) lz.le (fun k hk => (hown.out.lt k hk).2) rp); clear hq fq rp; clear _t tk1)
            | (refine step_append_any _ (by rfl) (.tmp 58) (.tmp 61) 27 (by rfl) (g7 + 1) 52 i0 _ 6 120 Tryd.underlying27 hi hz0 hz1 hz2 (by rfl) (by omega) (.slice A2 acc.length c2) acc.length (acc.flatMap Ra.cells) (by rfl) (op1.out.alloc _) (v1.heap.size + 1) (some ⟨v1.heap.size, 0, none⟩) 1 1 (Ra.cells (⟨t9, D1, k1, D2, k2, D3, k3_, D4, k4, r1⟩ : Ra)) (by rfl) (Reads.lit v1 52 6 (Ra.cells (⟨t9, D1, k1, D2, k2, D3, k3_, D4, k4, r1⟩ : Ra)) rfl) Ra.one (by unfold maxLen; omega) (by omega) (by rw [size_alloc_]; have := lq1.le; omega) ?_; intro v6 w10 hown6 hgr6 hnb6; obtain ⟨A6, c6, rfl, _, _⟩ := own_slice hown6; have zz6 := Lib.hid ((zp1.out.alloc (.cells (Ra.cells (⟨t9, D1, k1, D2, k2, D3, k3_, D4, k4, r1⟩ : Ra)).toArray 52)).grown hgr6 (own_old op1.out (by omega)).symm); have kq6 : w10.cell? ⟨g7, 1, none⟩ = some (.slice A2 acc.length c2) := (by rw [zz6.out.cell]; rfl); have fz6 := zz6.out.frozen 1; have lq6 := zz6.out.is_le; have hp6 := Lib.hid ((hp1.out.alloc (.cells (Ra.cells (⟨t9, D1, k1, D2, k2, D3, k3_, D4, k4, r1⟩ : Ra)).toArray 52)).grown hgr6 (own_old op1.out (by omega)).symm); have fp6 : Hid (Fr w4 w10 g2 none) := fr_grown (B := 0) hgr6 fp1.out (fun k hk => by have := (op1.out.lt k hk).1; have := HG7.out; omega); have ra6 := Lib.hid (ra_app ra1.out hgr6 hnb6); have on6 := Lib.hid hown6; clear hown6 hgr6 hnb6))
          all_goals
            have HL : Hid (acc.length + j + 1 ≤ 65536) := by show _ ≤ _; omega
            go_wp2_with fail
            go_round
            case rel =>
              have hL := HL.out
              have e1 : (acc ++ [(⟨t9, D1, k1, D2, k2, D3, k3_, D4, k4, r1⟩ : Ra)]).length = acc.length + 1 := List.length_append
              have e2 : (acc ++ [(⟨t9, D1, k1, D2, k2, D3, k3_, D4, k4, r1⟩ : Ra)]).flatMap Ra.cells = acc.flatMap Ra.cells ++ Ra.cells (⟨t9, D1, k1, D2, k2, D3, k3_, D4, k4, r1⟩ : Ra) := by rw [List.flatMap_append]; simp
              have e3 : (acc ++ [(⟨t9, D1, k1, D2, k2, D3, k3_, D4, k4, r1⟩ : Ra)]).map Ra.r = acc.map Ra.r ++ [r1] := by rw [List.map_append]; rfl
              have hne : (Value.slice A6 (acc.length + 1) c6).ownBlock ≠ some g7 := own_old on6.out (by omega)
              refine ⟨j, acc ++ [(⟨t9, D1, k1, D2, k2, D3, k3_, D4, k4, r1⟩ : Ra)], t5, A6, c6, by go_num, by rw [e1]; omega, by rw [e3]; exact HTn, ?_, ?_, hp6.out.far (by omega) _ _, fp6.out.set (by have := HG7.out; omega) _ _, ?_⟩
              · rw [e1, e2]; exact own_far on6.out hne
              · rw [e1]; exact zz6.out.set_ 1 _
              · rw [e1]; exact ra_set ra6.out (Nat.lt_succ_self g7) 1 _
            case measure =>
              show ((j : Nat) : Int).toNat < ((j + 1 : Nat) : Int).toNat
              rw [Int.toNat_natCast, Int.toNat_natCast]; exact Nat.lt_succ_self j
        · have HE : Hid ((acc.map Ra.r, s9) = T) := (rtsF_stop he).symm.trans ht.out
          obtain ⟨kk, hb, hk, hrr⟩ := hr.out.blk
          have r1c : wr.cell? ⟨g2, 1, none⟩ = some (.int .i64 kk) := by rw [hb.cell]; rfl
          have zw := Lib.hid (hf.out.blk z4.out (by omega))
          have HV : Hid (getV bs = if (if s9.e = 0 then (if s9.rest = [] then chk ⟨en, acc.map Ra.r⟩ else 5) else s9.e) = 0 then (⟨en, acc.map Ra.r⟩, 0) else (⟨[], []⟩, (if s9.e = 0 then (if s9.rest = [] then chk ⟨en, acc.map Ra.r⟩ else 5) else s9.e))) := by
            have h1 := HG.out
            have h2 := HI.out
            rw [← HE.out] at h2
            rw [h2] at h1
            exact h1
          have HBd : Hid (ImB ⟨en, acc.map Ra.r⟩) := by
            have h2 := HI.out
            rw [← HE.out] at h2
            have h3 := imgS_bd ⟨bt.drop 4, 0⟩
            rw [h2] at h3
            exact h3
          have hrl : s9.rest.length = n - kk := by rw [hrr, List.length_drop, hlt]
          by_cases hrest : s9.rest = []
          · -- an error before
            have hkI : ¬ ((kk : Int) < (n : Int)) := by
              have h0 : s9.rest.length = 0 := by rw [hrest]; rfl
              omega
            obtain ⟨ev, hev⟩ : ∃ ev, s9.e = ev := ⟨_, rfl⟩
            have HGv : Hid (getV bs = (⟨[], []⟩, ev)) := by
              have h1 := HV.out
              rw [if_neg he] at h1
              rw [if_neg he, hev] at h1
              exact h1
            rw [hev] at he d2
            have zE := zw
            clear hb hrr hrl hev
            have y0 : wr.cell? ⟨w.heap.size, 0, none⟩ = some (.slice none 0 0) := by rw [zE.out.cell]; rfl
            have y1 : wr.cell? ⟨w.heap.size, 1, none⟩ = some (.slice none 0 0) := by rw [zE.out.cell]; rfl
            have yf0 := zE.out.frozen 0
            have yf1 := zE.out.frozen 1
            have yl := zE.out.is_le
            go_upto_region 15 with fail
            go_wp2_with fail
            go_region
            all_goals
              go_wp2_with fail
              have r1 := zE.out.set_ 0 (.slice none 0 0)
              have r2 := r1.set_ 1 (.slice none 0 0)
              have k0 : (wr.setCell ⟨w.heap.size, 0, none⟩ (.slice none 0 0)).cell? ⟨w.heap.size, 0, none⟩ = some (.slice none 0 0) := by rw [r1.cell]; rfl
              have k1 : ((wr.setCell ⟨w.heap.size, 0, none⟩ (.slice none 0 0)).setCell ⟨w.heap.size, 1, none⟩ (.slice none 0 0)).cell? ⟨w.heap.size, 1, none⟩ = some (.slice none 0 0) := by rw [r2.cell]; rfl
              rw [HGv.out]
              refine bodyPost_ret (v := .tuple #[.agg #[.slice none 0 0, .slice none 0 0], .int .i64 ev]) (by simp [results, Tryd.results10, go_sem, k0, k1]) rfl ⟨none, 0, none, 0, rfl, ⟨⟨Reads.none_, by simp, by omega, by simp⟩, RRs.nil _⟩, inferInstance⟩
          · -- bytes are left
            have hkI : (kk : Int) < (n : Int) := by
              have h0 : s9.rest.length ≠ 0 := fun e => hrest (List.eq_nil_of_length_eq_zero e)
              omega
            obtain ⟨ev, hev⟩ : ∃ ev, (failS s9 5).e = ev := ⟨_, rfl⟩
            have HGv : Hid (getV bs = (⟨[], []⟩, ev)) := by
              have h1 := HV.out
              have h2 : (if s9.e = 0 then (if s9.rest = [] then chk ⟨en, acc.map Ra.r⟩ else 5) else s9.e) = ev := by
                rw [← hev, if_neg hrest]; unfold failS; split <;> rfl
              rw [h2, if_neg (by rw [← hev]; unfold failS; split <;> simp_all)] at h1
              exact h1
            have hne : ¬ (ev = 0) := by rw [← hev]; unfold failS; split <;> simp_all
            have HR := Lib.hid hr.out
            clear hb hrr hrl
            obtain ⟨eu, heu⟩ : ∃ eu, s9.e = eu := ⟨_, rfl⟩
            rw [heu] at he d2
            clear heu
            go_upto_region 15 with fail
            go_wp2_with fail
            refine (fail_any wr HR.out 5).mono ?_
            rintro e w11 ⟨rfl, h11, f11⟩
            have d11 := h11.cell2
            rw [hev] at d11
            have l11 := h11.le
            have zE := Lib.hid (f11.blk zw.out (by omega))
            have a11 : After w w11 := f11.aft awr (by omega)
            clear h11 f11 hev
            have y0 : w11.cell? ⟨w.heap.size, 0, none⟩ = some (.slice none 0 0) := by rw [zE.out.cell]; rfl
            have y1 : w11.cell? ⟨w.heap.size, 1, none⟩ = some (.slice none 0 0) := by rw [zE.out.cell]; rfl
            have yf0 := zE.out.frozen 0
            have yf1 := zE.out.frozen 1
            have yl := zE.out.is_le
            go_wp2_with fail
            go_region
            all_goals
              go_wp2_with fail
              have r1 := zE.out.set_ 0 (.slice none 0 0)
              have r2 := r1.set_ 1 (.slice none 0 0)
              have k0 : (w11.setCell ⟨w.heap.size, 0, none⟩ (.slice none 0 0)).cell? ⟨w.heap.size, 0, none⟩ = some (.slice none 0 0) := by rw [r1.cell]; rfl
              have k1 : ((w11.setCell ⟨w.heap.size, 0, none⟩ (.slice none 0 0)).setCell ⟨w.heap.size, 1, none⟩ (.slice none 0 0)).cell? ⟨w.heap.size, 1, none⟩ = some (.slice none 0 0) := by rw [r2.cell]; rfl
              rw [HGv.out]
              refine bodyPost_ret (v := .tuple #[.agg #[.slice none 0 0, .slice none 0 0], .int .i64 ev]) (by simp [results, Tryd.results10, go_sem, k0, k1]) rfl ⟨none, 0, none, 0, rfl, ⟨⟨Reads.none_, by simp, by omega, by simp⟩, RRs.nil _⟩, inferInstance⟩

/-- Get of any bytes -/
theorem get_any {w0 : World} (w : World) {A c bs} (x : RY w0 A c bs) (hw : After w0 w) (hC : CheckC) (hO : Ops w0) :
    Calls Tryd.prog 10 #[.slice A bs.length c] w fun e w' => ∃ A1 c1 A2 c2, e = .returned (.tuple #[.agg #[.slice A1 (getV bs).1.enums.length c1, .slice A2 (getV bs).1.rts.length c2], .int .i64 (getV bs).2]) ∧ RIm w' A1 c1 A2 c2 (getV bs).1 ∧ After w w' := by
  have nil : ∀ U : World, RIm U none 0 none 0 ⟨[], []⟩ := fun U => ⟨⟨Reads.none_, by simp, by omega, by simp⟩, RRs.nil _⟩
  by_cases h : bs.length < 8
  · rw [getV_short h]
    refine (get_short w x hw h).mono ?_
    rintro e w' ⟨rfl, a⟩
    exact ⟨none, 0, none, 0, rfl, nil _, a⟩
  · by_cases he : enc (sumB (bs.take (bs.length - 4))) = bs.drop (bs.length - 4)
    · exact get_main w x hw h he hC hO
    · have hG : getV bs = (⟨[], []⟩, 15) := by
        unfold getV
        rw [if_neg h]
        simp only []
        rw [if_pos he]
      rw [hG]
      refine (get_sum w x hw h he).mono ?_
      rintro e w' ⟨rfl, a⟩
      exact ⟨none, 0, none, 0, rfl, nil _, a⟩
end Go.Proofs.YtgmojjdojcmnaaaDoor
