/-
  Contracts: the checksum of the program and of the reference; slices of bytes.
-/
import Derived.Test.YtgmojjdojcmnaaaDoorBlk
import Derived.Test.YtgmojjdojcmnaaaDoorIm
set_option linter.unusedVariables false
set_option linter.unusedSimpArgs false
namespace Go.Proofs.YtgmojjdojcmnaaaDoor
open Go.RowKit Go.BigFrame

def yv (l : List UInt8) : List Value := l.map fun b => Value.int .u8 b.toNat
/-- a slice of bytes that reads as l -/
structure RY (w : World) (A : Option Addr) (c : Nat) (l : List UInt8) : Prop where
  reads : Reads w w.heap.size 1 A l.length (yv l)
  le : l.length ≤ c
  cap : c ≤ 9223372036854775807
  len : l.length ≤ 140737488355328
theorem RY.below {w w' : World} {A c l} (h : RY w A c l) (hb : Below w.heap.size w w') : RY w' A c l :=
  ⟨(h.reads.below hb).more hb.size, h.le, h.cap, h.len⟩
theorem RY.here {w0 : World} {A c l} (h : RY w0 A c l) (w : World) [k : After w0 w] : RY w A c l := h.below k.below
theorem RY.byte {w : World} {A c l} (h : RY w A c l) {k : Nat} (hk : k < l.length) :
    ∃ (ad : Addr) (b : UInt8), A = some ad ∧ Le (ad.block + 1) w ∧ w.cell? (ad.add k) = some (.int .u8 (b.toNat : Int)) ∧ Hid (l[k]? = some b) := by
  obtain ⟨ad, u, e, hb, hx, hc⟩ := h.reads.at_ hk
  refine ⟨ad, l[k], e, ⟨hb⟩, hc.trans ?_, List.getElem?_eq_getElem hk⟩
  rw [← hx]; simp [yv, hk]
theorem RY.of_own {w : World} {v : Value} {l : List UInt8} {base : Nat} {e : TypeId} (h : w.ownsRow base e 1 v l.length (yv l)) (hl : l.length ≤ 140737488355328) :
    ∃ A c, v = .slice A l.length c ∧ RY w A c l := by
  obtain ⟨A, c, rfl, h1, h2⟩ := own_slice h
  exact ⟨A, c, rfl, Reads.of_own h, h1, h2, hl⟩
theorem RY.cut {w : World} {A c l} (x : RY w A c l) (k : Nat) (hk : k ≤ l.length) : RY w A c (l.take k) := by
  have e : (l.take k).length = k := by rw [List.length_take]; omega
  refine ⟨⟨by rw [yv, List.length_map]; omega, fun hn => ?_⟩, by have := x.le; omega, x.cap, by have := x.len; omega⟩
  obtain ⟨ad, e2, hb, hc⟩ := x.reads.2 (by omega)
  refine ⟨ad, e2, hb, fun j u hu => hc j u ?_⟩
  have : j < k := by
    have := (List.getElem?_eq_some_iff.1 hu).1
    simp [yv] at this; omega
  rw [← hu]; simp [yv, List.getElem?_map, this]

theorem RY.lit {w : World} {g : Nat} {t : TypeId} {cs : Array Value} {l : List UInt8} (h : Blk w g t cs) (e : cs.toList = yv l) (hl : l.length ≤ 140737488355328) : RY w (some ⟨g, 0, none⟩) l.length l := by
  refine ⟨⟨by simp [yv], fun hn => ⟨_, rfl, h.lt, fun j u hu => ?_⟩⟩, Nat.le_refl _, by omega, hl⟩
  rw [Addr.add_lit, h.cell, ← hu, ← e]; simp
theorem u8n (k : Nat) : ((UInt8.ofNat k).toNat : Int) = (k : Int) % 256 := by rw [UInt8.toNat_ofNat']; omega
theorem u32i (n : Int) : ((u32 n : Nat) : Int) = n % 4294967296 := by unfold u32; omega
/-- the four bytes as the reference's walk spells them -/
theorem enc_spell1 (n : Int) : yv (enc n) = [.int .u8 (n % 256), .int .u8 (n % 4294967296 / 256 % 256), .int .u8 (n % 4294967296 / 65536 % 256), .int .u8 (n % 4294967296 / 16777216)] := by
  have h := u32i n
  simp only [yv, enc, List.map_cons, List.map_nil, u8n, Int.natCast_ediv, h]
  have e1 : n % 4294967296 % 256 = n % 256 := by omega
  have e2 : n % 4294967296 / ((16777216 : Nat) : Int) % 256 = n % 4294967296 / 16777216 := by omega
  rw [e1, e2]; rfl
theorem enc_spell2 (n : Int) : yv (enc n) = [.int .u8 (n % 256), .int .u8 (n % 4294967296 / 256 % 256), .int .u8 (n % 4294967296 / 65536 % 256), .int .u8 (n % 4294967296 / 16777216 % 256)] := by
  rw [enc_spell1]
  have e2 : n % 4294967296 / 16777216 % 256 = n % 4294967296 / 16777216 := by omega
  rw [e2]
theorem enc_length (n : Int) : (enc n).length = 4 := rfl
theorem yv_length (l : List UInt8) : (yv l).length = l.length := by simp [yv]
theorem yv_append (a b : List UInt8) : yv (a ++ b) = yv a ++ yv b := by simp [yv]
theorem yv_one {l : List UInt8} {u : Value} (h : u ∈ yv l) : u.oneCell' = true := by
  simp only [yv, List.mem_map] at h
  obtain ⟨b, _, rfl⟩ := h
  rfl

theorem sumF_lt (h : Nat) (hh : h < 4294967296) (l : List UInt8) : sumF h l < 4294967296 := by
  induction l generalizing h with
  | nil => exact hh
  | cons a l ih =>
    have e : sumF h (a :: l) = sumF (((h ^^^ a.toNat) * 16777619) % 4294967296) l := by simp only [sumF, List.foldl_cons]
    rw [e]
    exact ih _ (by omega)
theorem sumF_append (h : Nat) (a b : List UInt8) : sumF h (a ++ b) = sumF (sumF h a) b := by unfold sumF; rw [List.foldl_append]
theorem sumF_one (h : Nat) (b : UInt8) : sumF h [b] = ((h ^^^ b.toNat) * 16777619) % 4294967296 := by unfold sumF; rw [List.foldl_cons, List.foldl_nil]
theorem sumB_lt (l : List UInt8) : sumB l < 4294967296 := by unfold sumB; exact sumF_lt _ (by omega) l
theorem sumB_take_succ {l : List UInt8} {k : Nat} {b : UInt8} (h : l[k]? = some b) : sumB (l.take (k + 1)) = ((sumB (l.take k) ^^^ b.toNat) * 16777619) % 4294967296 := by
  obtain ⟨hk, e⟩ := List.getElem?_eq_some_iff.1 h
  rw [List.take_succ_eq_append_getElem hk, e]
  unfold sumB
  rw [sumF_append, sumF_one]
/-- a step of the sum, as the walk spells it -/
theorem xor_u32 (a b : Nat) (ha : a < 4294967296) (hb : b < 4294967296) : bits BinOp.xor IntKind.u32 (a : Int) (b : Int) = ((a ^^^ b : Nat) : Int) := by
  have h2 : a ^^^ b < 2 ^ 32 := Nat.xor_lt_two_pow (by omega) (by omega)
  unfold bits
  simp only [IntKind.bits]
  have e1 : (BitVec.ofInt 32 (a : Int)).toNat = a := by rw [BitVec.toNat_ofInt]; omega
  have e2 : (BitVec.ofInt 32 (b : Int)).toNat = b := by rw [BitVec.toNat_ofInt]; omega
  show IntKind.u32.wrap ((BitVec.ofInt 32 (a : Int) ^^^ BitVec.ofInt 32 (b : Int)).toNat : Int) = _
  rw [BitVec.toNat_xor, e1, e2, IntKind.wrap_u32]; omega
theorem sum_step {l : List UInt8} {k : Nat} {b : UInt8} (h : l[k]? = some b) : bits BinOp.xor IntKind.u32 (sumB (l.take k) : Nat) (b.toNat : Nat) * 16777619 % 4294967296 = (sumB (l.take (k + 1)) : Nat) := by
  have h1 := sumB_lt (l.take k)
  have h3 := b.toNat_lt
  rw [xor_u32 _ _ h1 (by omega), sumB_take_succ h]; omega

set_option maxHeartbeats 400000 in
theorem sum_any {w0 : World} {A c l} (x : RY w0 A c l) (w : World) (hw : After w0 w) :
    Calls Tryd.prog 15 #[.slice A l.length c] w fun e w' => e = .returned (.int .u32 (sumB l)) ∧ w' = w := by
  replace x := x.here w
  have b1 := x.le; have b2 := x.cap
  go_enter Tryd.func15, Tryd.ntmps15
  go_wp2
  go_loop [3, 8] (fun n i => ∃ k : Nat, k ≤ l.length ∧ i = .int .i64 k ∧ n = .int .u32 (sumB (l.take k))) (fun _ i => l.length - (intOf i).toNat)
  case atStart => exact ⟨0, by omega, rfl, by simp [sumB, sumF]⟩
  case round =>
    obtain ⟨k, hk, rfl, rfl⟩ := hrel
    have hb := sumB_lt (l.take k)
    have hl : (l.take k).length ≤ k := List.length_take_le _ _
    by_cases hlt : k < l.length
    · obtain ⟨ad, b, rfl, hbk, hc, HB⟩ := x.byte hlt
      have HS := Lib.hid (sum_step HB.out)
      have h1 := b.toNat_lt
      go_wp2
      go_round
      case rel => exact ⟨k + 1, by omega, by go_num, by rw [HS.out]⟩
      case measure => simp [intOf]; omega
    · go_wp2
      go_ret
      rw [List.take_of_length_le (by omega)]
      exact ⟨rfl, rfl⟩

set_option maxHeartbeats 400000 in
theorem rsum_any {w0 : World} {A c l} (x : RY w0 A c l) (w : World) (hw : After w0 w) :
    Calls Tryd.prog 9 #[.slice A l.length c] w fun e w' => e = .returned (.int .u32 (sumB l)) ∧ w' = w := by
  replace x := x.here w
  have b1 := x.le; have b2 := x.cap
  go_enter Tryd.func9, Tryd.ntmps9
  go_wp2
  go_loop [3, 4] (fun n i => ∃ k : Nat, k ≤ l.length ∧ i = .int .i64 k ∧ n = .int .u32 (sumB (l.take k))) (fun _ i => l.length - (intOf i).toNat)
  case atStart => exact ⟨0, by omega, rfl, by simp [sumB, sumF]⟩
  case round =>
    obtain ⟨k, hk, rfl, rfl⟩ := hrel
    have hb := sumB_lt (l.take k)
    have hl : (l.take k).length ≤ k := List.length_take_le _ _
    by_cases hlt : k < l.length
    · obtain ⟨ad, b, rfl, hbk, hc, HB⟩ := x.byte hlt
      have HS := Lib.hid (sum_step HB.out)
      have h1 := b.toNat_lt
      go_wp2
      go_round
      case rel => exact ⟨k + 1, by omega, by go_num, by rw [HS.out]⟩
      case measure => simp [intOf]; omega
    · go_wp2
      go_ret
      rw [List.take_of_length_le (by omega)]
      exact ⟨rfl, rfl⟩

set_option maxHeartbeats 400000 in
theorem rnumber_any (n : Int) (w : World) :
    Calls Tryd.prog 8 #[.int .i64 n] w fun e w' => ∃ (A : Option Addr), e = .returned (.slice A (enc n).length 4) ∧ RY w' A 4 (enc n) ∧ After w w' := by
  go_enter Tryd.func8, Tryd.ntmps8
  go_wp2
  go_ret
  refine ⟨_, rfl, ?_, inferInstance⟩
  exact RY.lit (l := enc n) (Blk.new _ _ _) (enc_spell1 n).symm (by rw [enc_length]; omega)
end Go.Proofs.YtgmojjdojcmnaaaDoor
