/-
  Contract of the reference: Get (printed by gen_rget.py).
-/
import Derived.Test.YtgmojjdojcmnaaaDoorIRgA
import Derived.Test.YtgmojjdojcmnaaaDoorIGetM
set_option linter.unusedVariables false
set_option linter.unusedSimpArgs false
namespace Go.Proofs.YtgmojjdojcmnaaaDoor
open Go.RowKit Go.BigFrame

theorem bytes_ne {a b : List UInt8} (h : a ≠ b) : ((⟨a.toArray⟩ : ByteArray).toList == (⟨b.toArray⟩ : ByteArray).toList) = false ∧ ((⟨a.toArray⟩ : ByteArray) = (⟨b.toArray⟩ : ByteArray)) = False := by
  have h1 : ¬ ((⟨a.toArray⟩ : ByteArray) = (⟨b.toArray⟩ : ByteArray)) := fun e => h (by injection e with e; injection e with e)
  refine ⟨?_, eq_false h1⟩
  · rw [ByteArray.toList_eq, ByteArray.toList_eq, beq_eq_false_iff_ne]
    exact h

theorem conv_b {W : World} {A c l n} (x : RY W A c l) (hn : l.length = n) (hp : 0 < n) : (convert 22 9 (.slice A n c)).run Tryd.prog W = .ok (.string ⟨l.toArray⟩) W := by
  subst hn
  obtain ⟨ad, rfl, hlt, hc⟩ := x.reads.2 hp
  refine run_convert_bytes_back (P := Tryd.prog) W 22 9 5 ad c l Tryd.underlying22 Tryd.underlying5 Tryd.underlying9 (fun j hj => hc j _ ?_)
  unfold yv
  rw [List.getElem?_map, List.getElem?_eq_getElem hj]; rfl
theorem after_set0 {w W : World} {g0 : Nat} (hg : w.heap.size = g0) (h : After w W) (i : Nat) (v : Value) : After w (W.setCell ⟨g0, i, none⟩ v) := ⟨h.below.setCell (p := ⟨g0, i, none⟩) (by show w.heap.size ≤ g0; omega) v⟩
set_option maxRecDepth 100000 in
set_option maxHeartbeats 16000000 in
theorem rget_main {w0 : World} (w : World) {A c bs} (x : RY w0 A c bs) (hw : After w0 w) (h : ¬ bs.length < 8) :
    Calls Tryd.prog 11 #[.slice A bs.length c] w fun e w' => ∃ A1 c1 A2 c2, e = .returned (.tuple #[.agg #[.slice A1 (getV bs).1.enums.length c1, .slice A2 (getV bs).1.rts.length c2], .int .i64 (getV bs).2]) ∧ RIm w' A1 c1 A2 c2 (getV bs).1 ∧ After w w' := by
  have hn8 : 8 ≤ bs.length := by omega
  obtain ⟨n, hn⟩ : ∃ n, bs.length = n + 4 := ⟨bs.length - 4, by omega⟩
  have hlen := x.len
  have hle_ := x.le
  have hcap_ := x.cap
  obtain ⟨b, p, rfl, hbw0, hcb⟩ := x.plain (by omega)
  have hG : getV bs = if enc (sumB (bs.take n)) ≠ bs.drop n then (⟨[], []⟩, 15) else if bs.take 4 ≠ [83, 89, 78, 49] then (⟨[], []⟩, 5) else (if (if (imgS ⟨(bs.take n).drop 4, 0⟩).2.e = 0 then (if (imgS ⟨(bs.take n).drop 4, 0⟩).2.rest = [] then chk (imgS ⟨(bs.take n).drop 4, 0⟩).1 else 5) else (imgS ⟨(bs.take n).drop 4, 0⟩).2.e) = 0 then ((imgS ⟨(bs.take n).drop 4, 0⟩).1, 0) else (⟨[], []⟩, (if (imgS ⟨(bs.take n).drop 4, 0⟩).2.e = 0 then (if (imgS ⟨(bs.take n).drop 4, 0⟩).2.rest = [] then chk (imgS ⟨(bs.take n).drop 4, 0⟩).1 else 5) else (imgS ⟨(bs.take n).drop 4, 0⟩).2.e))) := by
    unfold getV
    rw [if_neg h, show bs.length - 4 = n by omega]
  have hlt_ : (bs.take n).length = n := by rw [List.length_take]; omega
  have HS := Lib.hid (fun (V : World) (hV : After w0 V) => by
    have h_ := rsum_any (x.cut n (by omega)) V hV
    rw [hlt_] at h_
    exact h_)
  obtain ⟨sm, hsm, hsl⟩ : ∃ sm, sumB (bs.take n) = sm ∧ sm < 4294967296 := ⟨_, rfl, sumB_lt _⟩
  rw [hsm] at HS hG
  have hwsm : IntKind.i64.wrap (sm : Int) = (sm : Int) := IntWalk.i64_in _ (by omega)
  have HN := Lib.hid (fun (U : World) => rnum_own (sm : Int) U)
  have hdl : (bs.drop n).length = 4 := by rw [List.length_drop]; omega
  have KT : Hid (∀ V, After w0 V → (convert 22 9 (.slice (some ⟨b, p + n, none⟩) 4 (c - n))).run Tryd.prog V = .ok (.string ⟨(bs.drop n).toArray⟩) V) := fun V hV => conv_b ((x.drop n (by omega)).here V (k := hV)) hdl (by omega)
  have KN : Hid (∀ V A9, RY V A9 4 (enc sm) → (convert 22 9 (.slice A9 4 4)).run Tryd.prog V = .ok (.string ⟨(enc sm).toArray⟩) V) := fun V A9 h9 => conv_b h9 (enc_length _) (by omega)
  have KM : Hid (∀ V, After w0 V → (convert 22 9 (.slice (some ⟨b, p, none⟩) 4 c)).run Tryd.prog V = .ok (.string ⟨(bs.take 4).toArray⟩) V) := fun V hV => conv_b ((x.cut 4 (by omega)).here V (k := hV)) (by rw [List.length_take]; omega) (by omega)
  have XR : Hid (RY w0 (some ⟨b, p + 4, none⟩) (c - 4) ((bs.take n).drop 4)) := (x.cut n (by omega)).drop 4 (by rw [hlt_]; omega)
  have hrl : ((bs.take n).drop 4).length = n - 4 := by rw [List.length_drop, hlt_]
  obtain ⟨BT, hBT⟩ : ∃ BT, (bs.take n).drop 4 = BT := ⟨_, rfl⟩
  rw [hBT] at XR hrl hG
  have HRl := Lib.hid hrl
  have HG := Lib.hid hG
  obtain ⟨N, hN⟩ : ∃ N, bs.length = N := ⟨_, rfl⟩
  rw [hN] at hn hlen hle_ hn8 ⊢
  have hI : ¬ ((N : Int) < 8) := by omega
  have hcast : (N : Int) - 4 = ((n : Nat) : Int) := by omega
  have hnc : n ≤ c := by omega
  have hncI : (n : Int) ≤ (c : Int) := by omega
  have hnNI : (n : Int) ≤ (N : Int) := by omega
  have hn44 : (n : Int) ≤ (n : Int) + 4 := by omega
  have h44n : (4 : Int) ≤ (n : Int) + 4 := by omega
  have h4n : 4 ≤ n := by omega
  have h4nI : (4 : Int) ≤ (n : Int) := by omega
  have h4cI : (4 : Int) ≤ (c : Int) := by omega
  have h4NI : (4 : Int) ≤ (N : Int) := by omega
  have hck : ¬ (c = n) := by omega
  have hck4 : ¬ (c = 4) := by omega
  have hsub : N - n = 4 := by omega
  have hsub2 : ((N : Int) - (n : Int)).toNat = 4 := by omega
  have hsub3 : ((n : Int) - 4).toNat = n - 4 := by omega
  have hw0s := hw.below.size
  clear x hsm hdl hrl hBT hG hlt_ h hcb
  obtain ⟨g0, hg0⟩ : ∃ g0, w.heap.size = g0 := ⟨_, rfl⟩
  have HG0 := Lib.hid hg0
  obtain ⟨W1, hW1, z1, a1, hs1⟩ : ∃ W1, (w.alloc (.cells #[.slice none 0 0, .slice none 0 0] 29)) = W1 ∧ Hid (Blk W1 g0 29 #[.slice none 0 0, .slice none 0 0]) ∧ After w W1 ∧ W1.heap.size = g0 + 1 := ⟨_, rfl, by rw [← hg0]; exact Blk.new _ _ _, inferInstance, by rw [size_alloc_, hg0]⟩
  have q1 : After w0 W1 := after_after hw a1
  have kt0 := KT.out W1.drew (after_after q1 inferInstance)
  go_enter Tryd.func11, Tryd.ntmps11
  go_wp2_with fail
  try rw [hW1]
  try rw [hg0]
  clear hW1 hg0
  obtain ⟨S1, hS1⟩ : ∃ S : ByteArray, (⟨(enc (sm : Int)).toArray⟩ : ByteArray) = S := ⟨_, rfl⟩
  obtain ⟨S2, hS2⟩ : ∃ S : ByteArray, (⟨(bs.drop n).toArray⟩ : ByteArray) = S := ⟨_, rfl⟩
  by_cases heq : enc (sm : Int) = bs.drop n
  rotate_left
  · have hG15 : Hid (getV bs = (⟨[], []⟩, 15)) := HG.out.trans (if_pos heq)
    obtain ⟨m1, m2⟩ := bytes_ne heq
    rw [hS1] at KN m1 m2
    rw [hS2] at KT kt0 m1 m2
    clear heq HG hS1 hS2
    go_cut [32] (fun v wx => ∃ W : World, W = wx ∧ v = .bool true ∧ After W1 W)
    case first =>
      have tk1 : True := trivial
      have tk2 : True := trivial
      go_region_law (first
        | (have _t := tk1; go_simp; go_at_call 9; refine (HS.out _ (after_after q1 inferInstance)).mono ?_; rintro e v2 ⟨rfl, rfl⟩; clear _t tk1)
        | (have _t := tk2; go_simp; go_at_call 8; refine (HN.out _).mono ?_; rintro e v9 ⟨A9, rfl, o9, a9⟩; have q9 : After W1 v9 := after_after inferInstance a9; have kn := KN.out v9 A9 o9.bytes; have kt := KT.out v9 (after_after q1 q9); clear _t tk2 o9))
      all_goals
        go_wp2_with fail
        go_meet
        exact ⟨_, rfl, rfl, q9⟩
    case rest =>
      obtain ⟨W5, rfl, rfl, a5⟩ := hcut
      have z5 := Lib.hid (z1.out.after (w' := W5))
      have aw5 : After w W5 := after_after a1 a5
      have y0 : W5.cell? ⟨g0, 0, none⟩ = some (.slice none 0 0) := by rw [z5.out.cell]; rfl
      have y1 : W5.cell? ⟨g0, 1, none⟩ = some (.slice none 0 0) := by rw [z5.out.cell]; rfl
      have yf0 := z5.out.frozen 0
      have yf1 := z5.out.frozen 1
      have yl := z5.out.is_le
      go_wp2_with fail
      have r2 := (z5.out.set_ 0 (.slice none 0 0)).set_ 1 (.slice none 0 0)
      have k0 : ((W5.setCell ⟨g0, 0, none⟩ (.slice none 0 0)).setCell ⟨g0, 1, none⟩ (.slice none 0 0)).cell? ⟨g0, 0, none⟩ = some (.slice none 0 0) := by rw [r2.cell]; rfl
      have k1 : ((W5.setCell ⟨g0, 0, none⟩ (.slice none 0 0)).setCell ⟨g0, 1, none⟩ (.slice none 0 0)).cell? ⟨g0, 1, none⟩ = some (.slice none 0 0) := by rw [r2.cell]; rfl
      have aE : After w ((W5.setCell ⟨g0, 0, none⟩ (.slice none 0 0)).setCell ⟨g0, 1, none⟩ (.slice none 0 0)) := after_set0 HG0.out (after_set0 HG0.out (by assumption) 0 _) 1 _
      rw [hG15.out]
      refine bodyPost_ret (v := .tuple #[.agg #[.slice none 0 0, .slice none 0 0], .int .i64 15]) (by simp [results, Tryd.results11, go_sem, k0, k1]) rfl ⟨none, 0, none, 0, rfl, ⟨⟨Reads.none_, by simp, by omega, by simp⟩, RRs.nil _⟩, aE⟩
  replace HG := Lib.hid (HG.out.trans (if_neg (by rw [heq]; simp)))
  have hSS : S1 = S2 := by rw [← hS1, ← hS2, heq]
  subst hSS
  rw [hS1] at KN
  rw [hS2] at KT kt0
  clear hS1 hS2 heq
  go_cut [32] (fun v wx => ∃ W : World, W = wx ∧ v = .bool false ∧ After W1 W)
  case first =>
    have tk1 : True := trivial
    have tk2 : True := trivial
    go_region_law (first
      | (have _t := tk1; go_simp; go_at_call 9; refine (HS.out _ (after_after q1 inferInstance)).mono ?_; rintro e v2 ⟨rfl, rfl⟩; clear _t tk1)
      | (have _t := tk2; go_simp; go_at_call 8; refine (HN.out _).mono ?_; rintro e v9 ⟨A9, rfl, o9, a9⟩; have q9 : After W1 v9 := after_after inferInstance a9; have kn := KN.out v9 A9 o9.bytes; have kt := KT.out v9 (after_after q1 q9); clear _t tk2 o9))
    all_goals
      go_wp2_with fail
      go_meet
      exact ⟨_, rfl, rfl, q9⟩
  case rest =>
    obtain ⟨W5, rfl, rfl, a5⟩ := hcut
    have z5 := Lib.hid (z1.out.after (w' := W5))
    have aw5 : After w W5 := after_after a1 a5
    have a05 : After w0 W5 := after_after hw aw5
    have hs5 := a5.below.size
    clear z1
    have km := KM.out W5 a05
    obtain ⟨ms, hms⟩ : ∃ ms : ByteArray, (⟨(bs.take 4).toArray⟩ : ByteArray) = ms := ⟨_, rfl⟩
    have hmt := magic_of _ _ hms
    rw [hms] at km
    clear hms
    by_cases hmg : bs.take 4 = [83, 89, 78, 49]
    rotate_left
    · rw [decide_eq_false hmg] at hmt
      have hG5 : Hid (getV bs = (⟨[], []⟩, 5)) := HG.out.trans (if_pos hmg)
      clear hmg
      have y0 : W5.cell? ⟨g0, 0, none⟩ = some (.slice none 0 0) := by rw [z5.out.cell]; rfl
      have y1 : W5.cell? ⟨g0, 1, none⟩ = some (.slice none 0 0) := by rw [z5.out.cell]; rfl
      have yf0 := z5.out.frozen 0
      have yf1 := z5.out.frozen 1
      have yl := z5.out.is_le
      go_wp2_with fail
      have r2 := (z5.out.set_ 0 (.slice none 0 0)).set_ 1 (.slice none 0 0)
      have k0 : ((W5.setCell ⟨g0, 0, none⟩ (.slice none 0 0)).setCell ⟨g0, 1, none⟩ (.slice none 0 0)).cell? ⟨g0, 0, none⟩ = some (.slice none 0 0) := by rw [r2.cell]; rfl
      have k1 : ((W5.setCell ⟨g0, 0, none⟩ (.slice none 0 0)).setCell ⟨g0, 1, none⟩ (.slice none 0 0)).cell? ⟨g0, 1, none⟩ = some (.slice none 0 0) := by rw [r2.cell]; rfl
      have aE : After w ((W5.setCell ⟨g0, 0, none⟩ (.slice none 0 0)).setCell ⟨g0, 1, none⟩ (.slice none 0 0)) := after_set0 HG0.out (after_set0 HG0.out (by assumption) 0 _) 1 _
      rw [hG5.out]
      refine bodyPost_ret (v := .tuple #[.agg #[.slice none 0 0, .slice none 0 0], .int .i64 5]) (by simp [results, Tryd.results11, go_sem, k0, k1]) rfl ⟨none, 0, none, 0, rfl, ⟨⟨Reads.none_, by simp, by omega, by simp⟩, RRs.nil _⟩, aE⟩
    rw [decide_eq_true hmg] at hmt
    replace HG := Lib.hid (HG.out.trans (if_neg (by rw [hmg]; simp)))
    clear hmg
    obtain ⟨gr, hgr⟩ : ∃ gr, W5.heap.size = gr := ⟨_, rfl⟩
    obtain ⟨W6, hW6, R6, a6, z6⟩ : ∃ W6, W5.alloc (.cells #[.slice (some ⟨b, p + 4, none⟩) (n - 4) (c - 4), .int .i64 0] 58) = W6 ∧ Hid (RrIs w0 W6 gr ⟨BT, 0⟩) ∧ After W5 W6 ∧ Hid (Blk W6 g0 29 #[.slice none 0 0, .slice none 0 0]) := by
      refine ⟨_, rfl, ⟨_, _, ?_, XR.out⟩, inferInstance, z5.out.alloc _⟩
      show Blk _ gr _ #[.slice _ BT.length _, _]
      rw [HRl.out, ← hgr]; exact Blk.new _ _ _
    have ag : w0.heap.size ≤ gr := by have := HG0.out; omega
    have hg0r : g0 < gr := by omega
    have a06 : After w0 W6 := after_after a05 a6
    have aw6 : After w W6 := after_after aw5 a6
    obtain ⟨q1_, e1⟩ : ∃ q, allS ⟨BT, 0⟩ = q := ⟨_, rfl⟩
    obtain ⟨en, s1⟩ := q1_
    have hr5 := manyS_range s1
    obtain ⟨q5, e5⟩ : ∃ q, manyS s1 = q := ⟨_, rfl⟩
    rw [e5] at hr5
    obtain ⟨m_, s2⟩ := q5
    obtain ⟨m, rfl⟩ : ∃ m : Nat, m_ = m := ⟨m_.toNat, by have := hr5.1; simp only [] at this; omega⟩
    have hm6 : m ≤ 65536 := by have := hr5.2; simp only [] at this; omega
    obtain ⟨T, e6⟩ : ∃ T, rtsF m [] s2 = T := ⟨_, rfl⟩
    have HT : Hid (rtsF m [] s2 = T) := e6
    have HI := Lib.hid (imgS_eq _ _ _ _ _ _ e1 e5 (show rtsF ((m : Nat) : Int).toNat [] s2 = T by rw [Int.toNat_natCast]; exact e6))
    have E1 := Lib.hid e1
    have E5 := Lib.hid e5
    clear e1 e5 e6 hr5
    go_wp2_with fail
    try rw [hW6]
    try rw [hgr]
    clear hW6
    refine (rrlist_any W6 a06 ag R6.out).mono ?_
    rintro e w7 ⟨A1, c1, rfl, r1_, b1, h7_, f7_⟩
    rw [E1.out] at r1_ h7_
    rw [E1.out]
    simp only [] at r1_ h7_
    have R7 := Lib.hid h7_
    have z7 := Lib.hid (f7_.blk z6.out (by omega))
    have a07 : After w0 w7 := f7_.aft a06 ag
    have aw7 : After w w7 := f7_.aft aw6 (by have := HG0.out; omega)
    have RE := Lib.hid r1_
    have BE := Lib.hid b1
    have hl7 := h7_.le.le
    have hs6 := a6.below.size
    have hs7 := f7_.size
    have hl6 : gr < W6.heap.size := R6.out.le.le
    clear h7_ f7_ r1_ b1 R6 z6
    obtain ⟨gi, hgi⟩ : ∃ gi, w7.heap.size = gi := ⟨_, rfl⟩
    go_wp2_with fail
    try rw [hgi]
    obtain ⟨W8, hW8, Z8, F8, R8, z8⟩ : ∃ W8, (w7.alloc (.cells #[.slice A1 en.length c1, .slice none 0 0] 29)) = W8 ∧ Hid (Blk W8 gi 29 #[.slice A1 en.length c1, .slice none 0 0]) ∧ Hid (Fr w7 W8 gr none) ∧ Hid (RrIs w0 W8 gr s1) ∧ Hid (Blk W8 g0 29 #[.slice none 0 0, .slice none 0 0]) :=
      ⟨_, rfl, by rw [← hgi]; exact Blk.new _ _ _, (Fr.refl w7 gr none).alloc _, R7.out.alloc _, z7.out.alloc _⟩
    rw [hW8]
    clear hW8
    refine (rrcount_any W8 (F8.out.aft a07 ag) ag R8.out).mono ?_
    rintro e w9 ⟨rfl, h9_, f9_⟩
    rw [E5.out] at h9_
    rw [E5.out]
    simp only [] at h9_
    have R9 := Lib.hid h9_
    have F9 := Lib.hid (F8.out.tr f9_)
    have Z9 := Lib.hid (f9_.blk Z8.out (by omega))
    have hgg : gr < gi := by omega
    have HGI : Hid (w7.heap.size = gi) := hgi
    have hs9 : gi ≤ w9.heap.size := by have := F9.out.size; omega
    clear h9_ f9_ R8 Z8 z8 hgi
    obtain ⟨i0, hi, hz0, hz1, hz2⟩ := info_parts rtnInfo
    obtain ⟨j0, hj, jz0, jz1, jz2⟩ := info_parts instrInfo
    go_wp2_with fail
    go_loopw [8] (fun i wr => ∃ (k j : Nat) (acc : List Ra) (s' : St) (A2 : Option Addr) (c2 : Nat) (W : World), W = wr ∧ i = .int .i64 (k : Nat) ∧ Hid (acc.length = k ∧ k + j = m) ∧ Hid (rtsF j (acc.map Ra.r) s' = T) ∧ Hid (W.ownsRow (gi + 1) 52 6 (.slice A2 acc.length c2) acc.length (acc.flatMap Ra.cells)) ∧ Hid (Blk W gi 29 #[.slice A1 en.length c1, .slice A2 acc.length c2]) ∧ Hid (RrIs w0 W gr s') ∧ Hid (Fr w7 W gr none) ∧ Hid (∀ a ∈ acc, RaIn W (gi + 1) (Value.slice A2 acc.length c2).ownBlock a)) (fun i _ => m - (intOf i).toNat)
    case atStart => exact ⟨0, m, [], s2, none, 0, _, rfl, rfl, ⟨rfl, by omega⟩, HT, World.ownsRow_nil _ _ _ _, Z9, R9, F9, (show ∀ a ∈ ([] : List Ra), _ from fun a ha => by simp at ha)⟩
    case round =>
      obtain ⟨k, j, acc, s9, A2, c2, wo, rfl, rfl, hkj, ht, hown, hz, hr, hf, hra⟩ := hrel
      have d2 := hr.out.cell1
      have l2_ := hr.out.le
      have k3 : wo.cell? ⟨gi, 1, none⟩ = some (.slice A2 acc.length c2) := by rw [hz.out.cell]; rfl
      have lz := hz.out.is_le
      have a0r : After w0 wo := hf.out.aft a07 ag
      have awr : After w wo := hf.out.aft aw7 (by have := HG0.out; omega)
      have hacc6 : acc.length ≤ 65536 := by have := hkj.out; omega
      have hso : gi < wo.heap.size := lz.le
      rcases Nat.eq_zero_or_pos j with rfl | hpos
      · have hkm : ¬ ((k : Int) < (m : Int)) := by have := hkj.out; omega
        have HE : Hid ((acc.map Ra.r, s9) = T) := ht.out
        have zw := Lib.hid (hf.out.blk z7.out (by omega))
        have HV : Hid (getV bs = if (if s9.e = 0 then (if s9.rest = [] then chk ⟨en, acc.map Ra.r⟩ else 5) else s9.e) = 0 then (⟨en, acc.map Ra.r⟩, 0) else (⟨[], []⟩, (if s9.e = 0 then (if s9.rest = [] then chk ⟨en, acc.map Ra.r⟩ else 5) else s9.e))) := by
          have h1 := HG.out
          have h2 := HI.out
          rw [← HE.out] at h2
          rw [h2] at h1
          exact h1
        by_cases he : s9.e = 0
        rotate_left
        · skip
          obtain ⟨ev, hev⟩ : ∃ ev, s9.e = ev := ⟨_, rfl⟩
          have HGv : Hid (getV bs = (⟨[], []⟩, ev)) := by
            have h1 := HV.out
            rw [if_neg he] at h1
            rw [if_neg he, hev] at h1
            exact h1
          have u1 : (ev == 0) = false := by rw [beq_eq_false_iff_ne, ← hev]; exact he
          have u2 : (ev != 0) = true := by rw [bne, u1]; rfl
          rw [hev] at d2
          clear hev
          have y0 : wo.cell? ⟨g0, 0, none⟩ = some (.slice none 0 0) := by rw [zw.out.cell]; rfl
          have y1 : wo.cell? ⟨g0, 1, none⟩ = some (.slice none 0 0) := by rw [zw.out.cell]; rfl
          have yf0 := zw.out.frozen 0
          have yf1 := zw.out.frozen 1
          have yl := zw.out.is_le
          go_wp2_with fail
          go_region
          all_goals
            go_wp2_with fail
            have r1 := zw.out.set_ 0 (.slice none 0 0)
            have r2 := r1.set_ 1 (.slice none 0 0)
            have k0 : (wo.setCell ⟨g0, 0, none⟩ (.slice none 0 0)).cell? ⟨g0, 0, none⟩ = some (.slice none 0 0) := by rw [r1.cell]; rfl
            have k00 : ((wo.setCell ⟨g0, 0, none⟩ (.slice none 0 0)).setCell ⟨g0, 1, none⟩ (.slice none 0 0)).cell? ⟨g0, 0, none⟩ = some (.slice none 0 0) := by rw [r2.cell]; rfl
            have k1 : ((wo.setCell ⟨g0, 0, none⟩ (.slice none 0 0)).setCell ⟨g0, 1, none⟩ (.slice none 0 0)).cell? ⟨g0, 1, none⟩ = some (.slice none 0 0) := by rw [r2.cell]; rfl
            have aE : After w ((wo.setCell ⟨g0, 0, none⟩ (.slice none 0 0)).setCell ⟨g0, 1, none⟩ (.slice none 0 0)) := after_set0 HG0.out (after_set0 HG0.out (by assumption) 0 _) 1 _
            have aE2 : After w ((wo.setCell ⟨g0, 0, none⟩ (.slice none 0 0)).setCell ⟨g0, 1, none⟩ (.slice none 0 0)).drew := have := aE; inferInstance
            rw [HGv.out]
            refine bodyPost_ret (v := .tuple #[.agg #[.slice none 0 0, .slice none 0 0], .int .i64 ev]) (by simp [results, Tryd.results11, go_sem, k0, k00, k1]) rfl ⟨none, 0, none, 0, rfl, ⟨⟨Reads.none_, by simp, by omega, by simp⟩, RRs.nil _⟩, by first | exact aE | exact aE2 | infer_instance⟩
        have u1 : (s9.e == 0) = true := by rw [beq_iff_eq]; exact he
        obtain ⟨Ar, cr, hb, xr⟩ := hr.out.row
        obtain ⟨kr, hkr⟩ : ∃ kr, s9.rest.length = kr := ⟨_, rfl⟩
        have c0 : wo.cell? ⟨gr, 0, none⟩ = some (.slice Ar kr cr) := by rw [hb.cell, ← hkr]; rfl
        have fr1 := hr.out.frozen 1
        by_cases hrest : s9.rest = []
        rotate_left
        · have hkI : (0 : Int) < (kr : Int) := by
            have h0 : s9.rest.length ≠ 0 := fun e => hrest (List.eq_nil_of_length_eq_zero e)
            omega
          obtain ⟨ev, hev⟩ : ∃ ev : Int, 5 = ev := ⟨_, rfl⟩
          have HGv : Hid (getV bs = (⟨[], []⟩, ev)) := by
            have h1 := HV.out
            rw [if_pos he, if_neg hrest, if_neg (by decide), hev] at h1
            exact h1
          have u3 : (ev == 0) = false := by rw [← hev]; rfl
          have u4 : (ev != 0) = true := by rw [← hev]; rfl
          obtain ⟨W11, hW11, d11, l11, zE, a11⟩ : ∃ W11, wo.setCell ⟨gr, 1, none⟩ (.int .i64 5) = W11 ∧ W11.cell? ⟨gr, 1, none⟩ = some (.int .i64 ev) ∧ Le (gr + 1) W11 ∧ Hid (Blk W11 g0 29 #[.slice none 0 0, .slice none 0 0]) ∧ After w W11 := by
            have h1 := hr.out.err 5
            refine ⟨_, rfl, by rw [← hev]; exact h1.cell1, h1.le, zw.out.far (p := ⟨gr, 1, none⟩) (by show g0 ≠ gr; omega) _, ⟨awr.below.setCell (p := ⟨gr, 1, none⟩) (by show w.heap.size ≤ gr; have := HG0.out; omega) _⟩⟩
          clear hb hkr xr hrest hev
          have y0 : W11.cell? ⟨g0, 0, none⟩ = some (.slice none 0 0) := by rw [zE.out.cell]; rfl
          have y1 : W11.cell? ⟨g0, 1, none⟩ = some (.slice none 0 0) := by rw [zE.out.cell]; rfl
          have yf0 := zE.out.frozen 0
          have yf1 := zE.out.frozen 1
          have yl := zE.out.is_le
          go_wp2_with fail
          go_region
          all_goals
            go_wp2_with fail
            have r1 := zE.out.set_ 0 (.slice none 0 0)
            have r2 := r1.set_ 1 (.slice none 0 0)
            have k0 : (W11.setCell ⟨g0, 0, none⟩ (.slice none 0 0)).cell? ⟨g0, 0, none⟩ = some (.slice none 0 0) := by rw [r1.cell]; rfl
            have k00 : ((W11.setCell ⟨g0, 0, none⟩ (.slice none 0 0)).setCell ⟨g0, 1, none⟩ (.slice none 0 0)).cell? ⟨g0, 0, none⟩ = some (.slice none 0 0) := by rw [r2.cell]; rfl
            have k1 : ((W11.setCell ⟨g0, 0, none⟩ (.slice none 0 0)).setCell ⟨g0, 1, none⟩ (.slice none 0 0)).cell? ⟨g0, 1, none⟩ = some (.slice none 0 0) := by rw [r2.cell]; rfl
            have aE : After w ((W11.setCell ⟨g0, 0, none⟩ (.slice none 0 0)).setCell ⟨g0, 1, none⟩ (.slice none 0 0)) := after_set0 HG0.out (after_set0 HG0.out (by assumption) 0 _) 1 _
            have aE2 : After w ((W11.setCell ⟨g0, 0, none⟩ (.slice none 0 0)).setCell ⟨g0, 1, none⟩ (.slice none 0 0)).drew := have := aE; inferInstance
            rw [HGv.out]
            refine bodyPost_ret (v := .tuple #[.agg #[.slice none 0 0, .slice none 0 0], .int .i64 ev]) (by simp [results, Tryd.results11, go_sem, k0, k00, k1]) rfl ⟨none, 0, none, 0, rfl, ⟨⟨Reads.none_, by simp, by omega, by simp⟩, RRs.nil _⟩, by first | exact aE | exact aE2 | infer_instance⟩
        have hkI : ¬ ((0 : Int) < (kr : Int)) := by
          have h0 : s9.rest.length = 0 := by rw [hrest]; rfl
          omega
        obtain ⟨ev, hev⟩ : ∃ ev, chk ⟨en, acc.map Ra.r⟩ = ev := ⟨_, rfl⟩
        have HOw := Lib.hid (RRs.of_own hown.out (by omega) (fun a ha => (hra.out a ha).rt))
        have n1 : ∀ ad, A1 = some ad → ad.block ≠ gr := fun ad e => by have := BE.out ad e; omega
        have REo := Lib.hid (RE.out.st hf.out n1)
        have HIM : Hid (RIm wo A1 c1 A2 c2 ⟨en, acc.map Ra.r⟩) := ⟨REo.out, HOw.out⟩
        have HCK := Lib.hid (rcheck_any HIM.out wo inferInstance)
        rw [hev] at HCK
        simp only [List.length_map] at HCK
        have q0 : wo.cell? ⟨gi, 0, none⟩ = some (.slice A1 en.length c1) := by rw [hz.out.cell]; rfl
        have HV2 : Hid (getV bs = if ev = 0 then (⟨en, acc.map Ra.r⟩, 0) else (⟨[], []⟩, ev)) := by
          have h1 := HV.out
          rw [if_pos he, if_pos hrest, hev] at h1
          exact h1
        have u2 : (s9.e != 0) = false := by rw [bne, u1]; rfl
        clear hb hkr xr hrest hev n1
        go_wp2_with fail
        refine HCK.out.mono ?_
        rintro e w10 ⟨rfl, a10⟩
        have z10 := Lib.hid (zw.out.after (w' := w10))
        have Z10 := Lib.hid (hz.out.after (w' := w10))
        have aw10 : After w w10 := after_after awr a10
        by_cases hev0 : ev = 0
        · have HGv : Hid (getV bs = (⟨en, acc.map Ra.r⟩, 0)) := by
            have h1 := HV2.out
            rw [if_pos hev0] at h1
            exact h1
          have v1 : (ev == 0) = true := by rw [beq_iff_eq]; exact hev0
          have v2 : (ev != 0) = false := by rw [bne, v1]; rfl
          have y0 : w10.cell? ⟨g0, 0, none⟩ = some (.slice none 0 0) := by rw [z10.out.cell]; rfl
          have y1 : w10.cell? ⟨g0, 1, none⟩ = some (.slice none 0 0) := by rw [z10.out.cell]; rfl
          have yf0 := z10.out.frozen 0
          have yf1 := z10.out.frozen 1
          have yl := z10.out.is_le
          have x0 : w10.cell? ⟨gi, 0, none⟩ = some (.slice A1 en.length c1) := by rw [Z10.out.cell]; rfl
          have x1_ : w10.cell? ⟨gi, 1, none⟩ = some (.slice A2 acc.length c2) := by rw [Z10.out.cell]; rfl
          have xl := Z10.out.is_le
          go_wp2_with fail
          have r2 := (z10.out.set_ 0 (.slice A1 en.length c1)).set_ 1 (.slice A2 acc.length c2)
          have k0 : ((w10.setCell ⟨g0, 0, none⟩ (.slice A1 en.length c1)).setCell ⟨g0, 1, none⟩ (.slice A2 acc.length c2)).cell? ⟨g0, 0, none⟩ = some (.slice A1 en.length c1) := by rw [r2.cell]; rfl
          have k1 : ((w10.setCell ⟨g0, 0, none⟩ (.slice A1 en.length c1)).setCell ⟨g0, 1, none⟩ (.slice A2 acc.length c2)).cell? ⟨g0, 1, none⟩ = some (.slice A2 acc.length c2) := by rw [r2.cell]; rfl
          have aE : After w ((w10.setCell ⟨g0, 0, none⟩ (.slice A1 en.length c1)).setCell ⟨g0, 1, none⟩ (.slice A2 acc.length c2)) := after_set0 HG0.out (after_set0 HG0.out aw10 0 _) 1 _
          have hX : RIm ((w10.setCell ⟨g0, 0, none⟩ (.slice A1 en.length c1)).setCell ⟨g0, 1, none⟩ (.slice A2 acc.length c2)) A1 c1 A2 c2 ⟨en, acc.map Ra.r⟩ := by
            have m1 : ∀ ad, A1 = some ad → ad.block ≠ g0 := fun ad e => by have := BE.out ad e; omega
            have fE : Fr w10 ((w10.setCell ⟨g0, 0, none⟩ (.slice A1 en.length c1)).setCell ⟨g0, 1, none⟩ (.slice A2 acc.length c2)) g0 none := (fr_set _ _ _ _).tr (fr_set _ _ _ _)
            refine ⟨(REo.out.here w10).st fE fun ad e => m1 ad e, ?_⟩
            have o10 := own_after hown.out a10
            have oE := own_fr o10 fE (own_old o10 (by omega))
            refine RRs.of_own oE (by omega) fun a ha => ?_
            have g10 : RaIn w10 (gi + 1) _ a := (hra.out a ha).stay a10.below.size (fun b_ h1 h2 _ => a10.below.block b_ h2) (.inl rfl)
            exact (g10.stay fE.size (fun b_ h1 h2 _ => fE.block b_ h2 (by omega) (by simp)) (.inl rfl)).rt
          rw [HGv.out]
          refine bodyPost_ret (v := .tuple #[.agg #[.slice A1 en.length c1, .slice A2 acc.length c2], .int .i64 0]) (by simp [results, Tryd.results11, go_sem, k0, k1]) rfl ⟨A1, c1, A2, c2, by simp only [List.length_map], hX, aE⟩
        · have HGv : Hid (getV bs = (⟨[], []⟩, ev)) := by
            have h1 := HV2.out
            rw [if_neg hev0] at h1
            exact h1
          have v1 : (ev == 0) = false := by rw [beq_eq_false_iff_ne]; exact hev0
          have v2 : (ev != 0) = true := by rw [bne, v1]; rfl
          have y0 : w10.cell? ⟨g0, 0, none⟩ = some (.slice none 0 0) := by rw [z10.out.cell]; rfl
          have y1 : w10.cell? ⟨g0, 1, none⟩ = some (.slice none 0 0) := by rw [z10.out.cell]; rfl
          have yf0 := z10.out.frozen 0
          have yf1 := z10.out.frozen 1
          have yl := z10.out.is_le
          go_wp2_with fail
          have r2 := (z10.out.set_ 0 (.slice none 0 0)).set_ 1 (.slice none 0 0)
          have k0 : ((w10.setCell ⟨g0, 0, none⟩ (.slice none 0 0)).setCell ⟨g0, 1, none⟩ (.slice none 0 0)).cell? ⟨g0, 0, none⟩ = some (.slice none 0 0) := by rw [r2.cell]; rfl
          have k1 : ((w10.setCell ⟨g0, 0, none⟩ (.slice none 0 0)).setCell ⟨g0, 1, none⟩ (.slice none 0 0)).cell? ⟨g0, 1, none⟩ = some (.slice none 0 0) := by rw [r2.cell]; rfl
          have aE : After w ((w10.setCell ⟨g0, 0, none⟩ (.slice none 0 0)).setCell ⟨g0, 1, none⟩ (.slice none 0 0)) := after_set0 HG0.out (after_set0 HG0.out (by assumption) 0 _) 1 _
          rw [HGv.out]
          refine bodyPost_ret (v := .tuple #[.agg #[.slice none 0 0, .slice none 0 0], .int .i64 ev]) (by simp [results, Tryd.results11, go_sem, k0, k1]) rfl ⟨none, 0, none, 0, rfl, ⟨⟨Reads.none_, by simp, by omega, by simp⟩, RRs.nil _⟩, aE⟩
      · have hkm : (k : Int) < (m : Int) := by have := hkj.out; omega
        by_cases he : s9.e = 0
        rotate_left
        · have HE : Hid ((acc.map Ra.r, s9) = T) := (rtsF_stop he).symm.trans ht.out
          have zw := Lib.hid (hf.out.blk z7.out (by omega))
          have HV : Hid (getV bs = if (if s9.e = 0 then (if s9.rest = [] then chk ⟨en, acc.map Ra.r⟩ else 5) else s9.e) = 0 then (⟨en, acc.map Ra.r⟩, 0) else (⟨[], []⟩, (if s9.e = 0 then (if s9.rest = [] then chk ⟨en, acc.map Ra.r⟩ else 5) else s9.e))) := by
            have h1 := HG.out
            have h2 := HI.out
            rw [← HE.out] at h2
            rw [h2] at h1
            exact h1
          obtain ⟨ev, hev⟩ : ∃ ev, s9.e = ev := ⟨_, rfl⟩
          have HGv : Hid (getV bs = (⟨[], []⟩, ev)) := by
            have h1 := HV.out
            rw [if_neg he] at h1
            rw [if_neg he, hev] at h1
            exact h1
          have u1 : (ev == 0) = false := by rw [beq_eq_false_iff_ne, ← hev]; exact he
          have u2 : (ev != 0) = true := by rw [bne, u1]; rfl
          rw [hev] at d2
          clear hev
          have y0 : wo.cell? ⟨g0, 0, none⟩ = some (.slice none 0 0) := by rw [zw.out.cell]; rfl
          have y1 : wo.cell? ⟨g0, 1, none⟩ = some (.slice none 0 0) := by rw [zw.out.cell]; rfl
          have yf0 := zw.out.frozen 0
          have yf1 := zw.out.frozen 1
          have yl := zw.out.is_le
          go_wp2_with fail
          go_region
          all_goals
            go_wp2_with fail
            have r1 := zw.out.set_ 0 (.slice none 0 0)
            have r2 := r1.set_ 1 (.slice none 0 0)
            have k0 : (wo.setCell ⟨g0, 0, none⟩ (.slice none 0 0)).cell? ⟨g0, 0, none⟩ = some (.slice none 0 0) := by rw [r1.cell]; rfl
            have k00 : ((wo.setCell ⟨g0, 0, none⟩ (.slice none 0 0)).setCell ⟨g0, 1, none⟩ (.slice none 0 0)).cell? ⟨g0, 0, none⟩ = some (.slice none 0 0) := by rw [r2.cell]; rfl
            have k1 : ((wo.setCell ⟨g0, 0, none⟩ (.slice none 0 0)).setCell ⟨g0, 1, none⟩ (.slice none 0 0)).cell? ⟨g0, 1, none⟩ = some (.slice none 0 0) := by rw [r2.cell]; rfl
            have aE : After w ((wo.setCell ⟨g0, 0, none⟩ (.slice none 0 0)).setCell ⟨g0, 1, none⟩ (.slice none 0 0)) := after_set0 HG0.out (after_set0 HG0.out (by assumption) 0 _) 1 _
            have aE2 : After w ((wo.setCell ⟨g0, 0, none⟩ (.slice none 0 0)).setCell ⟨g0, 1, none⟩ (.slice none 0 0)).drew := have := aE; inferInstance
            rw [HGv.out]
            refine bodyPost_ret (v := .tuple #[.agg #[.slice none 0 0, .slice none 0 0], .int .i64 ev]) (by simp [results, Tryd.results11, go_sem, k0, k00, k1]) rfl ⟨none, 0, none, 0, rfl, ⟨⟨Reads.none_, by simp, by omega, by simp⟩, RRs.nil _⟩, by first | exact aE | exact aE2 | infer_instance⟩
        obtain ⟨j, rfl⟩ : ∃ i, j = i + 1 := ⟨j - 1, by omega⟩
        have u1 : (s9.e == 0) = true := by rw [beq_iff_eq]; exact he
        have HTn_ : Hid (rtsF j (acc.map Ra.r ++ [(rtnS s9).1]) (rtnS s9).2 = T) := by
          have h_ := ht.out
          rw [rtsF, if_pos he] at h_
          exact h_
        obtain ⟨q0, e0⟩ : ∃ q, textS s9 = q := ⟨_, rfl⟩
        obtain ⟨t_, s0⟩ := q0
        obtain ⟨qa, ea⟩ : ∃ q, allS s0 = q := ⟨_, rfl⟩
        obtain ⟨l1, p1⟩ := qa
        obtain ⟨qb, eb⟩ : ∃ q, allS p1 = q := ⟨_, rfl⟩
        obtain ⟨l2, p2⟩ := qb
        obtain ⟨qc, ec⟩ : ∃ q, numS p2 = q := ⟨_, rfl⟩
        obtain ⟨n3, p3⟩ := qc
        obtain ⟨qd, ed⟩ : ∃ q, allS p3 = q := ⟨_, rfl⟩
        obtain ⟨l4, p4⟩ := qd
        have hr5 := manyS_range p4
        obtain ⟨qe, ee⟩ : ∃ q, manyS p4 = q := ⟨_, rfl⟩
        rw [ee] at hr5
        obtain ⟨mm_, p5⟩ := qe
        obtain ⟨mm, rfl⟩ : ∃ mm : Nat, mm_ = mm := ⟨mm_.toNat, by have := hr5.1; simp only [] at this; omega⟩
        have hmm6 : mm ≤ 65536 := by have := hr5.2; simp only [] at this; omega
        obtain ⟨T2, ef⟩ : ∃ T2, codeF mm [] p5 = T2 := ⟨_, rfl⟩
        have hRS := rtnS_eq s9 _ _ _ _ _ _ _ _ _ _ _ _ T2 e0 ea eb ec ed ee (by rw [Int.toNat_natCast]; exact ef)
        have HTn : Hid (rtsF j (acc.map Ra.r ++ [⟨t_, l1, l2, n3, l4, T2.1⟩]) T2.2 = T) := by
          have h_ := HTn_.out
          rw [hRS] at h_
          exact h_
        have HT2 : Hid (codeF mm [] p5 = T2) := ef
        have D0 := Lib.hid e0; have Da := Lib.hid ea; have Db := Lib.hid eb; have Dc := Lib.hid ec; have Dd := Lib.hid ed; have De := Lib.hid ee
        clear e0 ea eb ec ed ee ef hr5 hRS HTn_
        go_wp2_with fail
        refine (rrtext_any wo a0r ag hr.out).mono ?_
        rintro e v1 ⟨t, rfl, ht_, hts, rd1, f1⟩
        rw [D0.out] at ht_ rd1
        simp only [] at ht_ rd1
        have HT0 := Lib.hid ht_
        have hgro : gr < wo.heap.size := by omega
        have P1 : Hid (∀ cs, Rst 52 w0 wo (v1.alloc (.cells cs 52)) gr v1.heap.size s0 cs) := fun cs => Rst.new f1 rd1 hgro
        have hv1 := f1.size
        clear ht_ rd1 f1
        obtain ⟨gx, hgx⟩ : ∃ gx, v1.heap.size = gx := ⟨_, rfl⟩
        rw [hgx] at P1
        have hwx : wo.heap.size ≤ gx := by omega
        go_wp2_with fail
        try rw [hgx]
        obtain ⟨W2, hW2, P2⟩ : ∃ W2, v1.alloc (.cells #[.string t, .slice none 0 0, .slice none 0 0, .int .i64 0, .slice none 0 0, .slice none 0 0] 52) = W2 ∧ Hid (Rst 52 w0 wo W2 gr gx s0 #[.string t, .slice none 0 0, .slice none 0 0, .int .i64 0, .slice none 0 0, .slice none 0 0]) := ⟨_, rfl, P1.out _⟩
        rw [hW2]
        clear hW2 P1
        refine (rrlist_any W2 (P2.out.fw.aft a0r ag) ag P2.out.rd).mono ?_
        rintro e v3 ⟨B1, k1, rfl, r_, b_, rd_, f_⟩
        rw [Da.out] at r_ rd_
        rw [Da.out]
        simp only [] at r_ rd_
        have Pv3 := Lib.hid (P2.out.call rd_ f_)
        have Ra_v3 := Lib.hid (Rw.new (lo := wo.heap.size) (gr := gr) (gx := gx) r_ b_ (Nat.lt_of_lt_of_le P2.out.lt P2.out.fw.size) P2.out.px.lt P2.out.fw.size)
        clear r_ b_ rd_ f_
        have kx_ : v3.cell? ⟨gx, 1, none⟩ = some (.slice none 0 0) := by rw [Pv3.out.px.cell]; rfl
        have fx_ := Pv3.out.px.frozen 1
        have lx_ := Pv3.out.px.is_le
        obtain ⟨W4, hW_, PW4, Ra_W4⟩ : ∃ W4, v3.setCell ⟨gx, 1, none⟩ (.slice B1 l1.length k1) = W4 ∧ Hid (Rst 52 w0 wo W4 gr gx p1 #[.string t, .slice B1 l1.length k1, .slice none 0 0, .int .i64 0, .slice none 0 0, .slice none 0 0]) ∧ Hid (Rw W4 wo.heap.size v3.heap.size gr gx B1 k1 l1) := ⟨_, rfl, Pv3.out.set 1 _, Ra_v3.out.set 1 _⟩
        go_wp2_with fail
        try rw [hW_]
        clear hW_ kx_ fx_ lx_
        refine (rrlist_any W4 (PW4.out.fw.aft a0r ag) ag PW4.out.rd).mono ?_
        rintro e v5 ⟨B2, k2, rfl, r_, b_, rd_, f_⟩
        rw [Db.out] at r_ rd_
        rw [Db.out]
        simp only [] at r_ rd_
        have Pv5 := Lib.hid (PW4.out.call rd_ f_)
        have Ra_v5 := Lib.hid (Ra_W4.out.call f_)
        have Rb_v5 := Lib.hid (Rw.new (lo := wo.heap.size) (gr := gr) (gx := gx) r_ b_ (Nat.lt_of_lt_of_le PW4.out.lt PW4.out.fw.size) PW4.out.px.lt PW4.out.fw.size)
        clear r_ b_ rd_ f_
        have kx_ : v5.cell? ⟨gx, 2, none⟩ = some (.slice none 0 0) := by rw [Pv5.out.px.cell]; rfl
        have fx_ := Pv5.out.px.frozen 2
        have lx_ := Pv5.out.px.is_le
        obtain ⟨W6, hW_, PW6, Ra_W6, Rb_W6⟩ : ∃ W6, v5.setCell ⟨gx, 2, none⟩ (.slice B2 l2.length k2) = W6 ∧ Hid (Rst 52 w0 wo W6 gr gx p2 #[.string t, .slice B1 l1.length k1, .slice B2 l2.length k2, .int .i64 0, .slice none 0 0, .slice none 0 0]) ∧ Hid (Rw W6 wo.heap.size v3.heap.size gr gx B1 k1 l1) ∧ Hid (Rw W6 wo.heap.size v5.heap.size gr gx B2 k2 l2) := ⟨_, rfl, Pv5.out.set 2 _, Ra_v5.out.set 2 _, Rb_v5.out.set 2 _⟩
        go_wp2_with fail
        try rw [hW_]
        clear hW_ kx_ fx_ lx_
        refine (rrnum_any W6 (PW6.out.fw.aft a0r ag) ag PW6.out.rd).mono ?_
        rintro e v7 ⟨rfl, rd_, f_⟩
        rw [Dc.out] at rd_
        rw [Dc.out]
        simp only [] at rd_
        have Pv7 := Lib.hid (PW6.out.call rd_ f_)
        have Ra_v7 := Lib.hid (Ra_W6.out.call f_)
        have Rb_v7 := Lib.hid (Rb_W6.out.call f_)
        clear rd_ f_
        have kx_ : v7.cell? ⟨gx, 3, none⟩ = some (.int .i64 0) := by rw [Pv7.out.px.cell]; rfl
        have fx_ := Pv7.out.px.frozen 3
        have lx_ := Pv7.out.px.is_le
        obtain ⟨W8_, hW_, PW8_, Ra_W8_, Rb_W8_⟩ : ∃ W8_, v7.setCell ⟨gx, 3, none⟩ (.int .i64 n3) = W8_ ∧ Hid (Rst 52 w0 wo W8_ gr gx p3 #[.string t, .slice B1 l1.length k1, .slice B2 l2.length k2, .int .i64 n3, .slice none 0 0, .slice none 0 0]) ∧ Hid (Rw W8_ wo.heap.size v3.heap.size gr gx B1 k1 l1) ∧ Hid (Rw W8_ wo.heap.size v5.heap.size gr gx B2 k2 l2) := ⟨_, rfl, Pv7.out.set 3 _, Ra_v7.out.set 3 _, Rb_v7.out.set 3 _⟩
        go_wp2_with fail
        try rw [hW_]
        clear hW_ kx_ fx_ lx_
        refine (rrlist_any W8_ (PW8_.out.fw.aft a0r ag) ag PW8_.out.rd).mono ?_
        rintro e v9 ⟨B3, k3_, rfl, r_, b_, rd_, f_⟩
        rw [Dd.out] at r_ rd_
        rw [Dd.out]
        simp only [] at r_ rd_
        have Pv9 := Lib.hid (PW8_.out.call rd_ f_)
        have Ra_v9 := Lib.hid (Ra_W8_.out.call f_)
        have Rb_v9 := Lib.hid (Rb_W8_.out.call f_)
        have Rc_v9 := Lib.hid (Rw.new (lo := wo.heap.size) (gr := gr) (gx := gx) r_ b_ (Nat.lt_of_lt_of_le PW8_.out.lt PW8_.out.fw.size) PW8_.out.px.lt PW8_.out.fw.size)
        clear r_ b_ rd_ f_
        have kx_ : v9.cell? ⟨gx, 4, none⟩ = some (.slice none 0 0) := by rw [Pv9.out.px.cell]; rfl
        have fx_ := Pv9.out.px.frozen 4
        have lx_ := Pv9.out.px.is_le
        obtain ⟨W10, hW_, PW10, Ra_W10, Rb_W10, Rc_W10⟩ : ∃ W10, v9.setCell ⟨gx, 4, none⟩ (.slice B3 l4.length k3_) = W10 ∧ Hid (Rst 52 w0 wo W10 gr gx p4 #[.string t, .slice B1 l1.length k1, .slice B2 l2.length k2, .int .i64 n3, .slice B3 l4.length k3_, .slice none 0 0]) ∧ Hid (Rw W10 wo.heap.size v3.heap.size gr gx B1 k1 l1) ∧ Hid (Rw W10 wo.heap.size v5.heap.size gr gx B2 k2 l2) ∧ Hid (Rw W10 wo.heap.size v9.heap.size gr gx B3 k3_ l4) := ⟨_, rfl, Pv9.out.set 4 _, Ra_v9.out.set 4 _, Rb_v9.out.set 4 _, Rc_v9.out.set 4 _⟩
        go_wp2_with fail
        try rw [hW_]
        clear hW_ kx_ fx_ lx_
        refine (rrcount_any W10 (PW10.out.fw.aft a0r ag) ag PW10.out.rd).mono ?_
        rintro e v11 ⟨rfl, rd_, f_⟩
        rw [De.out] at rd_
        rw [De.out]
        simp only [] at rd_
        have Pv := Lib.hid (PW10.out.call rd_ f_)
        obtain ⟨gb, hgb⟩ : ∃ gb, v11.heap.size = gb := ⟨_, rfl⟩
        have Ra1 : Hid (Rw v11 wo.heap.size gb gr gx B1 k1 l1) := by have h1 := Ra_W10.out.call f_; exact h1.up (by have := h1.hv; omega) (by omega)
        have Rb1 : Hid (Rw v11 wo.heap.size gb gr gx B2 k2 l2) := by have h1 := Rb_W10.out.call f_; exact h1.up (by have := h1.hv; omega) (by omega)
        have Rc1 : Hid (Rw v11 wo.heap.size gb gr gx B3 k3_ l4) := by have h1 := Rc_W10.out.call f_; exact h1.up (by have := h1.hv; omega) (by omega)
        have hxb : gx < gb := by have := Pv.out.px.lt; omega
        clear rd_ f_
        go_wp2_with fail
        go_loopw [11] (fun i wv => ∃ (k2_ j2 : Nat) (acc2 : List Ins) (s' : St) (A4 : Option Addr) (c4 : Nat) (W : World), W = wv ∧ i = .int .i64 (k2_ : Nat) ∧ Hid (acc2.length = k2_ ∧ k2_ + j2 = mm) ∧ Hid (codeF j2 acc2 s' = T2) ∧ Hid (W.ownsRow gb 61 5 (.slice A4 acc2.length c4) acc2.length (acc2.flatMap c5)) ∧ Hid (Rst 52 w0 wo W gr gx s' #[.string t, .slice B1 l1.length k1, .slice B2 l2.length k2, .int .i64 n3, .slice B3 l4.length k3_, .slice A4 acc2.length c4]) ∧ Hid (Rw W wo.heap.size gb gr gx B1 k1 l1) ∧ Hid (Rw W wo.heap.size gb gr gx B2 k2 l2) ∧ Hid (Rw W wo.heap.size gb gr gx B3 k3_ l4)) (fun i _ => mm - (intOf i).toNat)
        case atStart => exact ⟨0, mm, [], p5, none, 0, _, rfl, rfl, ⟨rfl, by omega⟩, HT2, World.ownsRow_nil _ _ _ _, Pv, Ra1, Rb1, Rc1⟩
        case round =>
          obtain ⟨k2_, j2, acc2, s', A4, c4, wi, rfl, rfl, hkj2, ht2, hown2, hP, hA, hB, hC⟩ := hrel
          have d3 := hP.out.rd.cell1
          have l3_ := hP.out.rd.le
          have hac2 : acc2.length ≤ 65536 := by have := hkj2.out; omega
          have a0i : After w0 wi := hP.out.fw.aft a0r ag
          have lxi := hP.out.px.is_le
          rcases Nat.eq_zero_or_pos j2 with rfl | hpos2
          · have hkm2 : ¬ ((k2_ : Int) < (mm : Int)) := by have := hkj2.out; omega
            have HE2 : Hid ((acc2, s') = T2) := ht2.out
            have zi := Lib.hid (hP.out.fw.blk hz.out (by omega))
            have m1_ : wi.cell? ⟨gi, 1, none⟩ = some (.slice A2 acc.length c2) := by rw [zi.out.cell]; rfl
            have mf1 := zi.out.frozen 1
            have ml := zi.out.is_le
            have x0_ : wi.cell? ⟨gx, 0, none⟩ = some (.string t) := by rw [hP.out.px.cell]; rfl
            have x1_ : wi.cell? ⟨gx, 1, none⟩ = some (.slice B1 l1.length k1) := by rw [hP.out.px.cell]; rfl
            have x2_ : wi.cell? ⟨gx, 2, none⟩ = some (.slice B2 l2.length k2) := by rw [hP.out.px.cell]; rfl
            have x3_ : wi.cell? ⟨gx, 3, none⟩ = some (.int .i64 n3) := by rw [hP.out.px.cell]; rfl
            have x4_ : wi.cell? ⟨gx, 4, none⟩ = some (.slice B3 l4.length k3_) := by rw [hP.out.px.cell]; rfl
            have x5_ : wi.cell? ⟨gx, 5, none⟩ = some (.slice A4 acc2.length c4) := by rw [hP.out.px.cell]; rfl
            have op1 := Lib.hid (own_fr hown.out hP.out.fw (own_old hown.out (by omega)))
            have hRP : RtnP wo wi t B1 k1 B2 k2 B3 k3_ A4 c4 ⟨t_, l1, l2, n3, l4, acc2⟩ := by
              refine ⟨⟨HT0.out, Nat.le_trans hts (by decide), hA.out.ri, hB.out.ri, hC.out.ri, RC.of_own hown2.out (show acc2.length ≤ 140737488355328 by omega)⟩, fun ad e => ?_, fun ad e => ?_, fun ad e => ?_, fun ad e => ?_⟩
              · have := hA.out.ad ad e; have := hA.out.hv; omega
              · have := hB.out.ad ad e; have := hB.out.hv; omega
              · have := hC.out.ad ad e; have := hC.out.hv; omega
              · have := own_from hown2.out ad e; have := own_lt hown2.out ad e; omega
            have ra1 := Lib.hid (ra_call (V := wo) (lo := gi + 1) hra.out hP.out.fw (by omega) (by omega) (fun k hk => (hown.out.lt k hk).2) hRP)
            have hwi := hP.out.fw.size
            go_wp2_with (at_builtin; go_loud (refine wpList_append_any _ rfl (.tmp 112) (.tmp 114) 27 rfl (gi + 1) 52 i0 _ 6 120 Tryd.underlying27 hi hz0 hz1 hz2 (by rfl) (by omega) (.slice A2 acc.length c2) acc.length (acc.flatMap Ra.cells) rfl (op1.out.alloc _) (wi.heap.size + 1) (some ⟨wi.heap.size, 0, none⟩) 1 1 (Ra.cells (⟨t, B1, k1, B2, k2, B3, k3_, A4, c4, ⟨t_, l1, l2, n3, l4, acc2⟩⟩ : Ra)) rfl (Reads.lit wi 52 6 (Ra.cells (⟨t, B1, k1, B2, k2, B3, k3_, A4, c4, ⟨t_, l1, l2, n3, l4, acc2⟩⟩ : Ra)) rfl) Ra.one (by unfold maxLen; omega) (by omega) (by rw [size_alloc_]; omega) ?_))
            intro v6 w10 hown6 hgr6 hnb6
            obtain ⟨A6, c6, rfl, _, _⟩ := own_slice hown6
            have zz6 := Lib.hid ((zi.out.alloc (.cells (Ra.cells (⟨t, B1, k1, B2, k2, B3, k3_, A4, c4, ⟨t_, l1, l2, n3, l4, acc2⟩⟩ : Ra)).toArray 52)).grown hgr6 (own_old op1.out (by omega)).symm)
            have kq6 : w10.cell? ⟨gi, 1, none⟩ = some (.slice A2 acc.length c2) := by rw [zz6.out.cell]; rfl
            have fz6 := zz6.out.frozen 1
            have lq6 := zz6.out.is_le
            have hp6 := Lib.hid ((hP.out.rd.alloc (.cells (Ra.cells (⟨t, B1, k1, B2, k2, B3, k3_, A4, c4, ⟨t_, l1, l2, n3, l4, acc2⟩⟩ : Ra)).toArray 52)).grown hgr6 (own_old op1.out (by omega)).symm)
            have fp6 : Hid (Fr w7 w10 gr none) := fr_grown (B := 0) hgr6 (hf.out.tr hP.out.fw) (fun k hk => by have := (op1.out.lt k hk).1; have := HGI.out; omega)
            have ra6 := Lib.hid (ra_app ra1.out hgr6 (hnb6.imp id (fun h => by rw [size_alloc_]; exact h)))
            have on6 := Lib.hid hown6
            clear hown6 hgr6 hnb6 hRP
            go_wp2_with fail
            go_roundw
            case rel =>
              have e1 : (acc ++ [(⟨t, B1, k1, B2, k2, B3, k3_, A4, c4, ⟨t_, l1, l2, n3, l4, acc2⟩⟩ : Ra)]).length = acc.length + 1 := List.length_append
              have e2 : (acc ++ [(⟨t, B1, k1, B2, k2, B3, k3_, A4, c4, ⟨t_, l1, l2, n3, l4, acc2⟩⟩ : Ra)]).flatMap Ra.cells = acc.flatMap Ra.cells ++ Ra.cells (⟨t, B1, k1, B2, k2, B3, k3_, A4, c4, ⟨t_, l1, l2, n3, l4, acc2⟩⟩ : Ra) := by rw [List.flatMap_append]; simp
              have e3 : (acc ++ [(⟨t, B1, k1, B2, k2, B3, k3_, A4, c4, ⟨t_, l1, l2, n3, l4, acc2⟩⟩ : Ra)]).map Ra.r = acc.map Ra.r ++ [⟨t_, l1, l2, n3, l4, acc2⟩] := by rw [List.map_append]; rfl
              have hne : (Value.slice A6 (acc.length + 1) c6).ownBlock ≠ some gi := own_old on6.out (by omega)
              have hkj_ := hkj.out
              refine ⟨k + 1, j, acc ++ [(⟨t, B1, k1, B2, k2, B3, k3_, A4, c4, ⟨t_, l1, l2, n3, l4, acc2⟩⟩ : Ra)], s', A6, c6, _, rfl, by go_num, ⟨by rw [e1]; omega, by omega⟩, ?_, ?_, ?_, hp6.out.far (by omega) _ _, fp6.out.set (by have := HGI.out; omega) _ _, ?_⟩
              · show rtsF j _ _ = T
                rw [e3]
                have h1 := HTn.out
                rw [← HE2.out] at h1
                exact h1
              · rw [e1, e2]; exact own_far on6.out hne
              · rw [e1]; exact zz6.out.set_ 1 _
              · rw [e1]; exact ra_set ra6.out (Nat.lt_succ_self gi) 1 _
            case measure => have := hkj.out; simp only [intOf]; omega
          · have hkm2 : (k2_ : Int) < (mm : Int) := by have := hkj2.out; omega
            by_cases he2 : s'.e = 0
            rotate_left
            · have HE2 : Hid ((acc2, s') = T2) := (codeF_stop he2).symm.trans ht2.out
              have u3 : (s'.e == 0) = false := by rw [beq_eq_false_iff_ne]; exact he2
              have zi := Lib.hid (hP.out.fw.blk hz.out (by omega))
              have m1_ : wi.cell? ⟨gi, 1, none⟩ = some (.slice A2 acc.length c2) := by rw [zi.out.cell]; rfl
              have mf1 := zi.out.frozen 1
              have ml := zi.out.is_le
              have x0_ : wi.cell? ⟨gx, 0, none⟩ = some (.string t) := by rw [hP.out.px.cell]; rfl
              have x1_ : wi.cell? ⟨gx, 1, none⟩ = some (.slice B1 l1.length k1) := by rw [hP.out.px.cell]; rfl
              have x2_ : wi.cell? ⟨gx, 2, none⟩ = some (.slice B2 l2.length k2) := by rw [hP.out.px.cell]; rfl
              have x3_ : wi.cell? ⟨gx, 3, none⟩ = some (.int .i64 n3) := by rw [hP.out.px.cell]; rfl
              have x4_ : wi.cell? ⟨gx, 4, none⟩ = some (.slice B3 l4.length k3_) := by rw [hP.out.px.cell]; rfl
              have x5_ : wi.cell? ⟨gx, 5, none⟩ = some (.slice A4 acc2.length c4) := by rw [hP.out.px.cell]; rfl
              have op1 := Lib.hid (own_fr hown.out hP.out.fw (own_old hown.out (by omega)))
              have hRP : RtnP wo wi t B1 k1 B2 k2 B3 k3_ A4 c4 ⟨t_, l1, l2, n3, l4, acc2⟩ := by
                refine ⟨⟨HT0.out, Nat.le_trans hts (by decide), hA.out.ri, hB.out.ri, hC.out.ri, RC.of_own hown2.out (show acc2.length ≤ 140737488355328 by omega)⟩, fun ad e => ?_, fun ad e => ?_, fun ad e => ?_, fun ad e => ?_⟩
                · have := hA.out.ad ad e; have := hA.out.hv; omega
                · have := hB.out.ad ad e; have := hB.out.hv; omega
                · have := hC.out.ad ad e; have := hC.out.hv; omega
                · have := own_from hown2.out ad e; have := own_lt hown2.out ad e; omega
              have ra1 := Lib.hid (ra_call (V := wo) (lo := gi + 1) hra.out hP.out.fw (by omega) (by omega) (fun k hk => (hown.out.lt k hk).2) hRP)
              have hwi := hP.out.fw.size
              go_wp2_with (at_builtin; go_loud (refine wpList_append_any _ rfl (.tmp 112) (.tmp 114) 27 rfl (gi + 1) 52 i0 _ 6 120 Tryd.underlying27 hi hz0 hz1 hz2 (by rfl) (by omega) (.slice A2 acc.length c2) acc.length (acc.flatMap Ra.cells) rfl (op1.out.alloc _) (wi.heap.size + 1) (some ⟨wi.heap.size, 0, none⟩) 1 1 (Ra.cells (⟨t, B1, k1, B2, k2, B3, k3_, A4, c4, ⟨t_, l1, l2, n3, l4, acc2⟩⟩ : Ra)) rfl (Reads.lit wi 52 6 (Ra.cells (⟨t, B1, k1, B2, k2, B3, k3_, A4, c4, ⟨t_, l1, l2, n3, l4, acc2⟩⟩ : Ra)) rfl) Ra.one (by unfold maxLen; omega) (by omega) (by rw [size_alloc_]; omega) ?_))
              intro v6 w10 hown6 hgr6 hnb6
              obtain ⟨A6, c6, rfl, _, _⟩ := own_slice hown6
              have zz6 := Lib.hid ((zi.out.alloc (.cells (Ra.cells (⟨t, B1, k1, B2, k2, B3, k3_, A4, c4, ⟨t_, l1, l2, n3, l4, acc2⟩⟩ : Ra)).toArray 52)).grown hgr6 (own_old op1.out (by omega)).symm)
              have kq6 : w10.cell? ⟨gi, 1, none⟩ = some (.slice A2 acc.length c2) := by rw [zz6.out.cell]; rfl
              have fz6 := zz6.out.frozen 1
              have lq6 := zz6.out.is_le
              have hp6 := Lib.hid ((hP.out.rd.alloc (.cells (Ra.cells (⟨t, B1, k1, B2, k2, B3, k3_, A4, c4, ⟨t_, l1, l2, n3, l4, acc2⟩⟩ : Ra)).toArray 52)).grown hgr6 (own_old op1.out (by omega)).symm)
              have fp6 : Hid (Fr w7 w10 gr none) := fr_grown (B := 0) hgr6 (hf.out.tr hP.out.fw) (fun k hk => by have := (op1.out.lt k hk).1; have := HGI.out; omega)
              have ra6 := Lib.hid (ra_app ra1.out hgr6 (hnb6.imp id (fun h => by rw [size_alloc_]; exact h)))
              have on6 := Lib.hid hown6
              clear hown6 hgr6 hnb6 hRP
              go_wp2_with fail
              go_roundw
              case rel =>
                have e1 : (acc ++ [(⟨t, B1, k1, B2, k2, B3, k3_, A4, c4, ⟨t_, l1, l2, n3, l4, acc2⟩⟩ : Ra)]).length = acc.length + 1 := List.length_append
                have e2 : (acc ++ [(⟨t, B1, k1, B2, k2, B3, k3_, A4, c4, ⟨t_, l1, l2, n3, l4, acc2⟩⟩ : Ra)]).flatMap Ra.cells = acc.flatMap Ra.cells ++ Ra.cells (⟨t, B1, k1, B2, k2, B3, k3_, A4, c4, ⟨t_, l1, l2, n3, l4, acc2⟩⟩ : Ra) := by rw [List.flatMap_append]; simp
                have e3 : (acc ++ [(⟨t, B1, k1, B2, k2, B3, k3_, A4, c4, ⟨t_, l1, l2, n3, l4, acc2⟩⟩ : Ra)]).map Ra.r = acc.map Ra.r ++ [⟨t_, l1, l2, n3, l4, acc2⟩] := by rw [List.map_append]; rfl
                have hne : (Value.slice A6 (acc.length + 1) c6).ownBlock ≠ some gi := own_old on6.out (by omega)
                have hkj_ := hkj.out
                refine ⟨k + 1, j, acc ++ [(⟨t, B1, k1, B2, k2, B3, k3_, A4, c4, ⟨t_, l1, l2, n3, l4, acc2⟩⟩ : Ra)], s', A6, c6, _, rfl, by go_num, ⟨by rw [e1]; omega, by omega⟩, ?_, ?_, ?_, hp6.out.far (by omega) _ _, fp6.out.set (by have := HGI.out; omega) _ _, ?_⟩
                · show rtsF j _ _ = T
                  rw [e3]
                  have h1 := HTn.out
                  rw [← HE2.out] at h1
                  exact h1
                · rw [e1, e2]; exact own_far on6.out hne
                · rw [e1]; exact zz6.out.set_ 1 _
                · rw [e1]; exact ra_set ra6.out (Nat.lt_succ_self gi) 1 _
              case measure => have := hkj.out; simp only [intOf]; omega
            obtain ⟨j2, rfl⟩ : ∃ i, j2 = i + 1 := ⟨j2 - 1, by omega⟩
            have u3 : (s'.e == 0) = true := by rw [beq_iff_eq]; exact he2
            obtain ⟨y1, d1⟩ : ∃ q, numS s' = q := ⟨_, rfl⟩
            obtain ⟨x1, t1⟩ := y1
            obtain ⟨y2, d2'⟩ : ∃ q, numS t1 = q := ⟨_, rfl⟩
            obtain ⟨x2, t2⟩ := y2
            obtain ⟨y3, d3'⟩ : ∃ q, numS t2 = q := ⟨_, rfl⟩
            obtain ⟨x3, t3⟩ := y3
            obtain ⟨y4, d4⟩ : ∃ q, numS t3 = q := ⟨_, rfl⟩
            obtain ⟨x4, t4⟩ := y4
            obtain ⟨y5, d5⟩ : ∃ q, numS t4 = q := ⟨_, rfl⟩
            obtain ⟨x5, t5⟩ := y5
            have HI2 : Hid (insS s' = (⟨x1, x2, x3, x4, x5⟩, t5)) := by
              show _ = _
              unfold insS
              simp only [d1, d2', d3', d4, d5]
            have HT3 : Hid (codeF j2 (acc2 ++ [⟨x1, x2, x3, x4, x5⟩]) t5 = T2) := by
              have h_ := ht2.out
              rw [codeF, if_pos he2, HI2.out] at h_
              exact h_
            have N1 := Lib.hid d1; have N2 := Lib.hid d2'; have N3 := Lib.hid d3'; have N4 := Lib.hid d4; have N5 := Lib.hid d5
            clear d1 d2' d3' d4 d5
            go_wp2_with fail
            refine (rrnum_any wi a0i ag hP.out.rd).mono ?_
            rintro e u1_ ⟨rfl, rd_, f_⟩
            rw [N1.out] at rd_
            rw [N1.out]
            simp only [] at rd_
            have hgri : gr < wi.heap.size := by have := hP.out.fw.size; omega
            have Q0 : Hid (∀ cs, Rst 61 w0 wi (u1_.alloc (.cells cs 61)) gr u1_.heap.size t1 cs) := fun cs => Rst.new f_ rd_ hgri
            obtain ⟨gc, hgc⟩ : ∃ gc, u1_.heap.size = gc := ⟨_, rfl⟩
            rw [hgc] at Q0
            have hic : wi.heap.size ≤ gc := by have := f_.size; omega
            clear rd_ f_
            go_wp2_with fail
            try rw [hgc]
            obtain ⟨U1, hU_, Q1⟩ : ∃ U1, u1_.alloc (.cells #[.int .i64 x1, .int .i64 0, .int .i64 0, .int .i64 0, .int .i64 0] 61) = U1 ∧ Hid (Rst 61 w0 wi U1 gr gc t1 #[.int .i64 x1, .int .i64 0, .int .i64 0, .int .i64 0, .int .i64 0]) := ⟨_, rfl, Q0.out _⟩
            rw [hU_]
            clear hU_ Q0
            refine (rrnum_any U1 (Q1.out.fw.aft a0i ag) ag Q1.out.rd).mono ?_
            rintro e u2_ ⟨rfl, rd_, f_⟩
            rw [N2.out] at rd_
            rw [N2.out]
            simp only [] at rd_
            have Qv_ := Lib.hid (Q1.out.call rd_ f_)
            clear rd_ f_
            have kx_ : u2_.cell? ⟨gc, 1, none⟩ = some (.int .i64 0) := by rw [Qv_.out.px.cell]; rfl
            have fx_ := Qv_.out.px.frozen 1
            have lx_ := Qv_.out.px.is_le
            obtain ⟨U2, hU_, Q2⟩ : ∃ U2, u2_.setCell ⟨gc, 1, none⟩ (.int .i64 x2) = U2 ∧ Hid (Rst 61 w0 wi U2 gr gc t2 #[.int .i64 x1, .int .i64 x2, .int .i64 0, .int .i64 0, .int .i64 0]) := ⟨_, rfl, Qv_.out.set 1 _⟩
            go_wp2_with fail
            try rw [hU_]
            clear hU_ kx_ fx_ lx_ Qv_
            refine (rrnum_any U2 (Q2.out.fw.aft a0i ag) ag Q2.out.rd).mono ?_
            rintro e u3_ ⟨rfl, rd_, f_⟩
            rw [N3.out] at rd_
            rw [N3.out]
            simp only [] at rd_
            have Qv_ := Lib.hid (Q2.out.call rd_ f_)
            clear rd_ f_
            have kx_ : u3_.cell? ⟨gc, 2, none⟩ = some (.int .i64 0) := by rw [Qv_.out.px.cell]; rfl
            have fx_ := Qv_.out.px.frozen 2
            have lx_ := Qv_.out.px.is_le
            obtain ⟨U3, hU_, Q3⟩ : ∃ U3, u3_.setCell ⟨gc, 2, none⟩ (.int .i64 x3) = U3 ∧ Hid (Rst 61 w0 wi U3 gr gc t3 #[.int .i64 x1, .int .i64 x2, .int .i64 x3, .int .i64 0, .int .i64 0]) := ⟨_, rfl, Qv_.out.set 2 _⟩
            go_wp2_with fail
            try rw [hU_]
            clear hU_ kx_ fx_ lx_ Qv_
            refine (rrnum_any U3 (Q3.out.fw.aft a0i ag) ag Q3.out.rd).mono ?_
            rintro e u4_ ⟨rfl, rd_, f_⟩
            rw [N4.out] at rd_
            rw [N4.out]
            simp only [] at rd_
            have Qv_ := Lib.hid (Q3.out.call rd_ f_)
            clear rd_ f_
            have kx_ : u4_.cell? ⟨gc, 3, none⟩ = some (.int .i64 0) := by rw [Qv_.out.px.cell]; rfl
            have fx_ := Qv_.out.px.frozen 3
            have lx_ := Qv_.out.px.is_le
            obtain ⟨U4, hU_, Q4⟩ : ∃ U4, u4_.setCell ⟨gc, 3, none⟩ (.int .i64 x4) = U4 ∧ Hid (Rst 61 w0 wi U4 gr gc t4 #[.int .i64 x1, .int .i64 x2, .int .i64 x3, .int .i64 x4, .int .i64 0]) := ⟨_, rfl, Qv_.out.set 3 _⟩
            go_wp2_with fail
            try rw [hU_]
            clear hU_ kx_ fx_ lx_ Qv_
            refine (rrnum_any U4 (Q4.out.fw.aft a0i ag) ag Q4.out.rd).mono ?_
            rintro e u5_ ⟨rfl, rd_, f_⟩
            rw [N5.out] at rd_
            rw [N5.out]
            simp only [] at rd_
            have Qv_ := Lib.hid (Q4.out.call rd_ f_)
            clear rd_ f_
            have kx_ : u5_.cell? ⟨gc, 4, none⟩ = some (.int .i64 0) := by rw [Qv_.out.px.cell]; rfl
            have fx_ := Qv_.out.px.frozen 4
            have lx_ := Qv_.out.px.is_le
            obtain ⟨U5, hU_, Q5⟩ : ∃ U5, u5_.setCell ⟨gc, 4, none⟩ (.int .i64 x5) = U5 ∧ Hid (Rst 61 w0 wi U5 gr gc t5 #[.int .i64 x1, .int .i64 x2, .int .i64 x3, .int .i64 x4, .int .i64 x5]) := ⟨_, rfl, Qv_.out.set 4 _⟩
            have zx := Lib.hid (Q5.out.fw.blk hP.out.px (by have := hP.out.ge; have := hP.out.lt; omega))
            have x5_ : U5.cell? ⟨gx, 5, none⟩ = some (.slice A4 acc2.length c4) := by rw [zx.out.cell]; rfl
            have xl_ := zx.out.is_le
            have n0_ : U5.cell? ⟨gc, 0, none⟩ = some (.int .i64 x1) := by rw [Q5.out.px.cell]; rfl
            have n1_ : U5.cell? ⟨gc, 1, none⟩ = some (.int .i64 x2) := by rw [Q5.out.px.cell]; rfl
            have n2_ : U5.cell? ⟨gc, 2, none⟩ = some (.int .i64 x3) := by rw [Q5.out.px.cell]; rfl
            have n3_ : U5.cell? ⟨gc, 3, none⟩ = some (.int .i64 x4) := by rw [Q5.out.px.cell]; rfl
            have n4_ : U5.cell? ⟨gc, 4, none⟩ = some (.int .i64 x5) := by rw [Q5.out.px.cell]; rfl
            have nl_ := Q5.out.px.is_le
            have op2 := Lib.hid (own_fr hown2.out Q5.out.fw (own_old hown2.out (by omega)))
            have hU5s := Q5.out.fw.size
            have hwis := hA.out.hv
            go_wp2_with (at_builtin; (try rw [hU_]); go_loud (refine wpList_append_any _ rfl (.tmp 106) (.tmp 108) 50 rfl gb 61 j0 _ 5 40 Tryd.underlying50 hj jz0 jz1 jz2 (by rfl) (by omega) (.slice A4 acc2.length c4) acc2.length (acc2.flatMap c5) rfl (op2.out.alloc _) (U5.heap.size + 1) (some ⟨U5.heap.size, 0, none⟩) 1 1 (c5 ⟨x1, x2, x3, x4, x5⟩) rfl (Reads.lit U5 61 5 (c5 ⟨x1, x2, x3, x4, x5⟩) rfl) c5_one (by unfold maxLen; omega) (by omega) (by rw [size_alloc_]; omega) ?_))
            intro v6 w10 hown6 hgr6 hnb6
            obtain ⟨A6, c6, rfl, _, _⟩ := own_slice hown6
            have hbk : ∀ k, (Value.slice A4 acc2.length c4).ownBlock = some k → gb ≤ k := fun k hk => (op2.out.lt k hk).1
            have zz6 := Lib.hid ((zx.out.alloc (.cells (c5 ⟨x1, x2, x3, x4, x5⟩).toArray 61)).grown hgr6 (own_old op2.out (by omega)).symm)
            have kq6 : w10.cell? ⟨gx, 5, none⟩ = some (.slice A4 acc2.length c4) := by rw [zz6.out.cell]; rfl
            have fz6 := zz6.out.frozen 5
            have lq6 := zz6.out.is_le
            have hA6 := Lib.hid ((hA.out.call Q5.out.fw).grown hgr6 hbk)
            have hB6 := Lib.hid ((hB.out.call Q5.out.fw).grown hgr6 hbk)
            have hC6 := Lib.hid ((hC.out.call Q5.out.fw).grown hgr6 hbk)
            have hP6 := Lib.hid ((hP.out.call Q5.out.rd Q5.out.fw).grown hgr6 (fun k hk => by have := hbk k hk; omega))
            have on6 := Lib.hid hown6
            clear hown6 hgr6 hnb6
            go_wp2_with fail
            go_roundw
            case rel =>
              have e1 : (acc2 ++ [(⟨x1, x2, x3, x4, x5⟩ : Ins)]).length = acc2.length + 1 := List.length_append
              have e2 : (acc2 ++ [(⟨x1, x2, x3, x4, x5⟩ : Ins)]).flatMap c5 = acc2.flatMap c5 ++ c5 ⟨x1, x2, x3, x4, x5⟩ := by rw [List.flatMap_append]; simp
              have hne : (Value.slice A6 (acc2.length + 1) c6).ownBlock ≠ some gx := own_old on6.out (by omega)
              have hkj_ := hkj2.out
              refine ⟨k2_ + 1, j2, acc2 ++ [⟨x1, x2, x3, x4, x5⟩], t5, A6, c6, _, rfl, by go_num, ⟨by rw [e1]; omega, by omega⟩, HT3, ?_, ?_, hA6.out.set 5 _, hB6.out.set 5 _, hC6.out.set 5 _⟩
              · rw [e1, e2]; exact own_far on6.out hne
              · rw [e1]; exact hP6.out.set 5 _
            case measure => have := hkj2.out; simp only [intOf]; omega

/-- Get of any bytes -/
theorem rget_any {w0 : World} (w : World) {A c bs} (x : RY w0 A c bs) (hw : After w0 w) :
    Calls Tryd.prog 11 #[.slice A bs.length c] w fun e w' => ∃ A1 c1 A2 c2, e = .returned (.tuple #[.agg #[.slice A1 (getV bs).1.enums.length c1, .slice A2 (getV bs).1.rts.length c2], .int .i64 (getV bs).2]) ∧ RIm w' A1 c1 A2 c2 (getV bs).1 ∧ After w w' := by
  by_cases h : bs.length < 8
  · rw [getV_short h]
    refine (rget_short w x hw h).mono ?_
    rintro e w' ⟨rfl, a⟩
    exact ⟨none, 0, none, 0, rfl, ⟨⟨Reads.none_, by simp, by omega, by simp⟩, RRs.nil _⟩, a⟩
  · exact rget_main w x hw h
end Go.Proofs.YtgmojjdojcmnaaaDoor
