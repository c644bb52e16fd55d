/-
  Contract: bword.Text.
-/
import Derived.Test.YtjbpelkdciphnaaBuild
import Derived.Test.YtjbpelkdciphnaaPeriod
set_option linter.unusedVariables false
namespace Go.Proofs.Ytjbpelkdciphnaa
open Go.RowKit Go.BigFrame

def digitsB (l : List Bool) : List UInt8 := l.map fun b => if b then 49 else 48
theorem digitsB_length (l : List Bool) : (digitsB l).length = l.length := by simp [digitsB]
theorem digitsB_take_succ (l : List Bool) (k : Nat) (h : k < l.length) : digitsB (l.take (k + 1)) = digitsB (l.take k) ++ [if l.getD k false then 49 else 48] := by
  have e : l.getD k false = l[k] := by simp [List.getD_eq_getElem?_getD, h]
  rw [List.take_succ_eq_append_getElem h, e]
  simp only [digitsB, List.map_append, List.map_cons, List.map_nil]
theorem byteCells_snoc (l : List UInt8) (c : UInt8) : Lib.byteCells (l ++ [c]) = Lib.byteCells l ++ [.int .u8 (c.toNat : Nat)] := by simp [Lib.byteCells]
theorem cntI_one (b : Bool) : cntI [b] = if b then 1 else 0 := by cases b <;> rfl
theorem drop_take_one {l : List Bool} {k : Nat} (h : k < l.length) : (l.drop k).take 1 = [l.getD k false] := by
  have e : l.getD k false = l[k] := by simp [List.getD_eq_getElem?_getD, h]
  rw [List.drop_eq_getElem_cons h, e]
  simp only [List.take_succ_cons, List.take_zero]

set_option maxHeartbeats 1600000 in
theorem text_clos {w0 : World} {A c l} (x : RB w0 A c l) {B b gd : Nat} (hgd : gd < B) (hw0 : w0.heap.size ≤ B) (bs : List UInt8) (hb : bs.length + l.length ≤ 1000000) (U : World) (aft : After w0 U) (hB : B ≤ U.heap.size)
    (bd : Blk U gd 54 #[.int .u8 48, .int .u8 49]) (hI : Lib.IsBuilder 58 5 B b (Lib.byteCells bs) U) :
    Calls Try.prog 58 #[.slice A l.length c, .pointer (some ⟨b, 0, none⟩), .pointer (some ⟨gd, 0, none⟩)] U fun e w' => e = .returned (.tuple #[]) ∧ Lib.IsBuilder 58 5 B b (Lib.byteCells (bs ++ digitsB l)) w' ∧ Below B U w' := by
  have b1 := x.len
  have b2 := x.le
  have HI := Lib.hid hI
  clear hI
  go_enter Try.func58, Try.ntmps58
  go_wp2_with fail
  go_loopw [7] (fun i wr => ∃ k : Nat, k ≤ l.length ∧ i = .int .i64 k ∧ Hid (Lib.IsBuilder 58 5 B b (Lib.byteCells (bs ++ digitsB (l.take k))) wr) ∧ Hid (Below B U wr)) (fun i _ => l.length - (intOf i).toNat)
  case atStart => exact ⟨0, by omega, rfl, by simpa [digitsB] using HI, Below.refl _ _⟩
  case round =>
    obtain ⟨k, hk, rfl, HS, HB⟩ := hrel
    have aw : After w0 wr := ⟨aft.below.trans (HB.out.mono hw0)⟩
    have hsz : B ≤ wr.heap.size := Nat.le_trans hB HB.out.size
    by_cases hlt : k < l.length
    · obtain ⟨ad, bit, rfl, hbk, hc, HBt⟩ := x.bit hlt
      have bd2 : Blk wr gd 54 #[.int .u8 48, .int .u8 49] := (HB.out.block gd hgd).trans bd
      have q0 : wr.cell? ⟨gd, 0, none⟩ = some (.int .u8 48) := by rw [bd2.cell]; rfl
      have q1 : wr.cell? ⟨gd, 1, none⟩ = some (.int .u8 49) := by rw [bd2.cell]; rfl
      have hck : ¬ c = k := by omega
      have x1 := ((x.drop k hk).cut 1 (by simp; omega))
      rw [drop_take_one hlt, HBt.out] at x1
      have HC : Hid (∀ V, After w0 V → Calls Try.prog 40 #[.slice (some (ad.add k)) 1 (c - k)] V fun e w' => e = .returned (.int .i64 (if bit then 1 else 0)) ∧ V = w') := fun V _ => by
        have := count_any x1 V; rwa [cntI_one] at this
      have HT := Lib.hid (digitsB_take_succ l k hlt)
      rw [HBt.out] at HT
      have hlen : (Lib.byteCells (bs ++ digitsB (l.take k))).length + 1 ≤ 140737488355328 := by
        rw [Lib.byteCells_length, List.length_append, digitsB_length, List.length_take]; omega
      have HL := Lib.hid hlen
      have j1 : (0 : Int) ≤ (k : Int) := by omega
      have j2 : (k : Int) + 1 ≤ (c : Int) := by omega
      clear hlen x1 bd2 HBt
      cases bit
      · go_wp2_with fail
        refine (HC.out _ aw).mono ?_
        rintro e w' ⟨rfl, rfl⟩
        go_wp2_with fail
        refine (writeByte B b _ 48 _ HS.out HL.out hsz).mono ?_
        rintro e w2 ⟨rfl, h2, hb2⟩
        have H2 : Hid (Lib.IsBuilder 58 5 B b (Lib.byteCells (bs ++ digitsB (l.take (k + 1)))) w2) := by
          rw [HT.out, ← List.append_assoc, byteCells_snoc]; exact .inr h2
        have HB2 := Lib.hid (HB.out.trans hb2)
        clear h2 hb2
        go_wp2_with fail
        go_roundw
        case rel => exact ⟨k + 1, by omega, by go_num, H2, HB2⟩
        case measure => simp [intOf]; omega
      · go_wp2_with fail
        refine (HC.out _ aw).mono ?_
        rintro e w' ⟨rfl, rfl⟩
        go_wp2_with fail
        refine (writeByte B b _ 49 _ HS.out HL.out hsz).mono ?_
        rintro e w2 ⟨rfl, h2, hb2⟩
        have H2 : Hid (Lib.IsBuilder 58 5 B b (Lib.byteCells (bs ++ digitsB (l.take (k + 1)))) w2) := by
          rw [HT.out, ← List.append_assoc, byteCells_snoc]; exact .inr h2
        have HB2 := Lib.hid (HB.out.trans hb2)
        clear h2 hb2
        go_wp2_with fail
        go_roundw
        case rel => exact ⟨k + 1, by omega, by go_num, H2, HB2⟩
        case measure => simp [intOf]; omega
    · obtain rfl : k = l.length := by omega
      go_wp2_with fail
      go_end0
      rw [List.take_length] at HS
      exact ⟨rfl, HS.out, HB.out⟩

/-- the text of a word, and the error -/
def textB (h l : List Bool) : List UInt8 := digitsB h ++ [40] ++ digitsB l ++ [41]
open Classical in
noncomputable def textV (h l : List Bool) : List UInt8 × Int := if Valid h l then (textB h l, 0) else ([], checkI h l)
theorem textV_ok {h l : List Bool} (hv : Valid h l) : textV h l = (textB h l, 0) := by unfold textV; rw [if_pos hv]
theorem textV_bad {h l : List Bool} (hv : ¬ Valid h l) : textV h l = ([], checkI h l) := by unfold textV; rw [if_neg hv]

set_option maxHeartbeats 1600000 in
theorem text_any {w0 : World} {A B c d h l} (x : RW w0 A c B d h l) (w : World) [After w0 w] :
    Calls Try.prog 35 #[.agg #[.slice A h.length c, .slice B l.length d]] w fun e w' => e = .returned (.tuple #[.string ⟨(textV h l).1.toArray⟩, .int .i64 (textV h l).2]) ∧ ∃ y, w' = w.more y := by
  replace x := x.here w
  rcases check_cases h l with hv | ⟨hv, h5⟩
  · have hc0 := Lib.hid (checkI_0 hv)
    have HF := Lib.hid (textV_ok hv)
    obtain ⟨hl, h64⟩ := hv
    go_enter Try.func35, Try.ntmps35
    go_wp2_with fail
    refine (check_val x _ hc0.out).mono ?_
    rintro e w' ⟨rfl, y, rfl⟩
    go_wp2_with fail
    obtain ⟨Z, hZ, aZ, bz⟩ : ∃ Z, (w.alloc (.cells #[.slice A h.length c, .slice B l.length d] 24)).more y = Z ∧ After w Z ∧ Hid (Blk Z w.heap.size 24 #[.slice A h.length c, .slice B l.length d]) := ⟨_, rfl, inferInstance, (Blk.new _ _ _).more y⟩
    rw [hZ]
    clear hZ
    obtain ⟨b, hb⟩ : ∃ b, Z.heap.size + 1 = b := ⟨_, rfl⟩
    obtain ⟨gd, hg⟩ : ∃ gd, Z.heap.size = gd := ⟨_, rfl⟩
    have hbz := bz.out.lt
    obtain ⟨U, hU, aU, bd, hI, bw⟩ : ∃ U, (Z.alloc (.cells #[.int .u8 48, .int .u8 49] 54)).alloc (.cells #[.pointer none, .slice none 0 0] 58) = U ∧ Hid (After w U) ∧ Hid (Blk U gd 54 #[.int .u8 48, .int .u8 49]) ∧
        Hid (Lib.IsBuilder 58 5 b b (Lib.byteCells []) U) ∧ Hid (Blk U w.heap.size 24 #[.slice A h.length c, .slice B l.length d]) := by
      refine ⟨_, rfl, ?_, ?_, .inl ⟨Nat.le_refl _, .slice none 0 0, ?_, World.ownsRow_nil _ _ _ _, by simp [Value.ownBlock]⟩, (bz.out.alloc _).alloc _⟩
      · show After _ _; exact after_after aZ inferInstance
      · show Blk _ _ _ _; rw [← hg]; exact (Blk.new _ _ _).alloc _
      · rw [← hb]; exact Blk.new1 _ _ _ _
    have hBU : b ≤ U.heap.size := by rw [← hU, ← hb]; simp
    have hgb : gd < b := by omega
    have hwb : w.heap.size ≤ b := by omega
    have hwb2 : w.heap.size < b := by omega
    rw [hU, hb, hg]
    clear hU hb hg bz aZ
    have hlh : h.length ≤ 64 := by omega
    have hll : l.length ≤ 64 := by omega
    refine (text_clos x.head hgb hwb [] (by simp; omega) U aU.out hBU bd.out hI.out).mono ?_
    rintro e w2 ⟨rfl, h2, k2⟩
    have c2 : Blk w2 w.heap.size 24 #[.slice A h.length c, .slice B l.length d] := (k2.block _ hwb2).trans bw.out
    have q0 : w2.cell? ⟨w.heap.size, 0, none⟩ = some (.slice A h.length c) := by rw [c2.cell]; rfl
    have q1 : w2.cell? ⟨w.heap.size, 1, none⟩ = some (.slice B l.length d) := by rw [c2.cell]; rfl
    have H2 := Lib.hid h2
    have K2 := Lib.hid k2
    clear h2 k2
    go_wp2_with fail
    refine (writeByte b b _ 40 _ H2.out (by rw [Lib.byteCells_length, List.length_append, digitsB_length]; simp; omega) (Nat.le_trans hBU K2.out.size)).mono ?_
    rintro e w3 ⟨rfl, h3, k3⟩
    have H3 : Hid (Lib.IsBuilder 58 5 b b (Lib.byteCells (digitsB h ++ [40])) w3) := by rw [byteCells_snoc]; exact .inr h3
    have K3 := Lib.hid (K2.out.trans k3)
    have c3 : Blk w3 w.heap.size 24 #[.slice A h.length c, .slice B l.length d] := (k3.block _ hwb2).trans c2
    have r0 : w3.cell? ⟨w.heap.size, 0, none⟩ = some (.slice A h.length c) := by rw [c3.cell]; rfl
    have r1 : w3.cell? ⟨w.heap.size, 1, none⟩ = some (.slice B l.length d) := by rw [c3.cell]; rfl
    clear h3 k3 c2
    go_wp2_with fail
    refine (text_clos x.loop hgb hwb _ (by rw [List.length_append, digitsB_length]; simp; omega) w3 ⟨aU.out.below.trans (K3.out.mono hwb)⟩ (Nat.le_trans hBU K3.out.size) ((K3.out.block _ hgb).trans bd.out) H3.out).mono ?_
    rintro e w4 ⟨rfl, h4, k4⟩
    have H4 := Lib.hid h4
    have K4 := Lib.hid (K3.out.trans k4)
    clear h4 k4 c3
    go_wp2_with fail
    refine (writeByte b b _ 41 _ H4.out (by rw [Lib.byteCells_length, List.length_append, List.length_append, digitsB_length, digitsB_length]; simp; omega) (Nat.le_trans hBU K4.out.size)).mono ?_
    rintro e w5 ⟨rfl, h5, k5⟩
    have H5 : Hid (Lib.IsBuilder 58 5 b b (Lib.byteCells (textB h l)) w5) := by unfold textB; rw [byteCells_snoc]; exact .inr h5
    have K5 := Lib.hid (K4.out.trans k5)
    clear h5 k5
    go_wp2_with fail
    refine (bstring b b _ _ H5.out (by unfold textB; simp)).mono ?_
    rintro e w6 ⟨rfl, k6⟩
    have a6 : After w w6 := ⟨aU.out.below.trans ((K5.out.trans k6).mono hwb)⟩
    clear k6
    go_wp2_with fail
    go_ret2
    exact ⟨by rw [HF.out]; rfl, @After.is_more w w6 a6⟩
  · have HF := Lib.hid (textV_bad hv)
    rcases h5 with h5 | h5
    all_goals
      have hc0 := Lib.hid h5
      clear h5
      go_enter Try.func35, Try.ntmps35
      go_wp2_with fail
      refine (check_val x _ hc0.out).mono ?_
      rintro e w' ⟨rfl, y, rfl⟩
      go_wp2_with fail
      go_ret2
      exact ⟨by rw [HF.out, hc0.out]; rfl, After.is_more _ _⟩
end Go.Proofs.Ytjbpelkdciphnaa
