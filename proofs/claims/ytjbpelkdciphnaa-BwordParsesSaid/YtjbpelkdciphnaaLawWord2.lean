import Derived.Test.YtjbpelkdciphnaaBlk
import Derived.Test.YtjbpelkdciphnaaBools
namespace Go.Proofs.Ytjbpelkdciphnaa
open Go.RowKit Go.BigFrame
def bits (s : ByteArray) : List Bool := s.data.toList.map (· == 49)
theorem bits_length (s : ByteArray) : (bits s).length = s.size := by rw [bits, List.length_map]; rfl
theorem bits_take_succ (s : ByteArray) (k : Nat) (h : k < s.size) : bv ((bits s).take (k + 1)) = bv ((bits s).take k) ++ [.bool ((s[k].toNat : Int) == 49)] := by
  rw [List.take_succ_eq_append_getElem (by rw [bits_length]; exact h)]
  simp only [bv, List.map_append, List.map_cons, List.map_nil]
  congr 3
  have e : (bits s)[k]'(by rw [bits_length]; exact h) = (s[k] == 49) := by simp [bits]; rfl
  rw [e]
  generalize s[k] = b
  rw [Bool.eq_iff_iff, beq_iff_eq, beq_iff_eq]
  constructor
  · rintro rfl; rfl
  · intro hb
    have : b.toNat = 49 := by omega
    exact UInt8.toNat_inj.1 this
theorem RB.of_own_n {w : World} {v : Value} {n : Nat} {l : List Bool} {base : Nat} {e : TypeId} (h : w.ownsRow base e 1 v n (bv l)) (hn : n = l.length) (hl : l.length ≤ 140737488355328) :
    ∃ A c, v = .slice A l.length c ∧ RB w A c l := by
  subst hn; exact RB.of_own h hl
theorem own_apart {w : World} {B : Nat} {e : TypeId} {size n : Nat} {v v' : Value} {xs : List Value} (h : ∀ g, v.ownBlock = some g → g < B) (hown : w.ownsRow B e size v' n xs) : v.ownBlock = none ∨ v.ownBlock ≠ v'.ownBlock := by
  cases hv : v.ownBlock with
  | none => exact .inl rfl
  | some g =>
    refine .inr fun e => ?_
    have := h g hv
    have := (hown.lt g e.symm).1
    omega
set_option maxHeartbeats 1600000 in
theorem word_any (s1 s2 : ByteArray) (h1 : s1.size ≤ 1000000) (h2 : s2.size ≤ 1000000) (w : World) :
    Calls Try.prog 18 #[.string s1, .string s2] w fun e w' => ∃ A c B d, e = .returned (.agg #[.slice A (bits s1).length c, .slice B (bits s2).length d]) ∧ RW w' A c B d (bits s1) (bits s2) ∧ ∃ y, w' = w.more y := by
  have iR : New (w.alloc (.cells #[.slice none 0 0, .slice none 0 0] 24)) (w.heap.size + 1) := ⟨by rw [size_alloc_]; omega⟩
  go_enter Try.func18, Try.ntmps18
  go_wp2
  go_loopw [6] (fun i wr => ∃ (k : Nat) (v : Value), k ≤ s1.size ∧ i = .int .i64 k ∧ Blk wr (w.heap.size + 1) 24 #[v, .slice none 0 0] ∧ wr.ownsRow (w.heap.size + 2) 4 1 v k (bv ((bits s1).take k)) ∧
    After (w.alloc (.cells #[.slice none 0 0, .slice none 0 0] 24)) wr) (fun i _ => s1.size - (intOf i).toNat)
  case atStart => exact ⟨0, .slice none 0 0, by omega, rfl, by have := Blk.new (w.alloc (.cells #[.slice none 0 0, .slice none 0 0] 24)) 24 #[.slice none 0 0, .slice none 0 0]; rwa [size_alloc_] at this, World.ownsRow_nil _ _ _ _, inferInstance⟩
  case round =>
    obtain ⟨k, v, hk, rfl, hblk, hown, haft⟩ := hrel
    obtain ⟨A0, cp0, rfl, _, _⟩ := own_slice hown
    by_cases hlt : k < s1.size
    · have c0 : wr.cell? ⟨w.heap.size + 1, 0, none⟩ = some (.slice A0 k cp0) := by rw [hblk.cell]; rfl
      have f0 := hblk.frozen 0
      have iL := hblk.is_le
      have hle : w.heap.size + 2 ≤ wr.heap.size := hblk.lt
      have hlt' : (k : Int) < (s1.size : Int) := by omega
      have HB := Lib.hid (bits_take_succ s1 k hlt)
      go_wp2_with fail
      go_region_law (refine step_append_gen wr.drew rfl (.tmp 16) (.tmp 21) 22 rfl (w.heap.size + 2) 4 _ 1 Try.underlying22 boolInfo rfl (.slice A0 k cp0) k _ _ (by simp [Act.eval]) hown.drew (by simpa using hle) (by simp [Act.eval]) rfl (by omega) (by omega) ?_; intro v1 w1 hown1 hg1; obtain ⟨A1, cp1, rfl, _, _⟩ := own_slice hown1; have hb1 := hblk.drew.grown hg1 (own_ne hown (by omega)); have c1 : w1.cell? ⟨w.heap.size + 1, 0, none⟩ = some (.slice A0 k cp0) := (by rw [hb1.cell]; rfl); have f1 := hb1.frozen 0; have haft1 := after_grown_ (w0 := w.alloc (.cells #[.slice none 0 0, .slice none 0 0] 24)) hown.drew (by simp) hg1)
      all_goals
        go_wp2_with fail
        go_roundw
        case rel => exact ⟨k + 1, _, by omega, by go_num, hb1.set_ 0 _, by rw [HB.out]; exact ownsRow_setCell_below hown1 (by show w.heap.size + 1 < _; omega) _, inferInstance⟩
        case measure => simp [intOf]; omega
    · obtain rfl : k = s1.size := by omega
      obtain ⟨wo, rfl⟩ : ∃ wo : World, wo = wr := ⟨_, rfl⟩
      rw [List.take_of_length_le (by rw [bits_length]; exact Nat.le_refl _)] at hown
      have c0 : wo.cell? ⟨w.heap.size + 1, 0, none⟩ = some (.slice A0 s1.size cp0) := by rw [hblk.cell]; rfl
      have hB2 : w.heap.size + 2 ≤ wo.heap.size := hblk.lt
      obtain ⟨B2, hB2e⟩ : ∃ B2, wo.heap.size = B2 := ⟨_, rfl⟩
      have hlow : ∀ g, (Value.slice A0 s1.size cp0).ownBlock = some g → g < B2 := fun g hg => by rw [← hB2e]; exact (hown.lt g hg).2
      have HL := Lib.hid hlow
      have HB2 := Lib.hid hB2e
      rw [hB2e] at hB2
      clear hlow hB2e
      go_wp2_with fail
      go_loopw [7] (fun i wq => ∃ (k : Nat) (v : Value), k ≤ s2.size ∧ i = .int .i64 k ∧ Blk wq (w.heap.size + 1) 24 #[.slice A0 s1.size cp0, v] ∧ wq.ownsRow B2 4 1 v k (bv ((bits s2).take k)) ∧
        wq.ownsRow (w.heap.size + 2) 4 1 (.slice A0 s1.size cp0) s1.size (bv (bits s1)) ∧ B2 ≤ wq.heap.size ∧
        After (w.alloc (.cells #[.slice none 0 0, .slice none 0 0] 24)) wq) (fun i _ => s2.size - (intOf i).toNat)
      case atStart => exact ⟨0, .slice none 0 0, by omega, rfl, hblk, World.ownsRow_nil _ _ _ _, hown, Nat.le_of_eq HB2.out.symm, haft⟩
      case round =>
        clear hblk hown haft c0
        obtain ⟨k, v, hk2, rfl, hblk, hown, hown0, hBq, haft⟩ := hrel
        obtain ⟨A2, cp2, rfl, _, _⟩ := own_slice hown
        by_cases hlt2 : k < s2.size
        · have c0 : wr.cell? ⟨w.heap.size + 1, 1, none⟩ = some (.slice A2 k cp2) := by rw [hblk.cell]; rfl
          have f0 := hblk.frozen 1
          have iL := hblk.is_le
          have hlt' : (k : Int) < (s2.size : Int) := by omega
          have HB := Lib.hid (bits_take_succ s2 k hlt2)
          go_wp2_with fail
          go_region_law (refine step_append_gen wr.drew rfl (.tmp 31) (.tmp 36) 22 rfl B2 4 _ 1 Try.underlying22 boolInfo rfl (.slice A2 k cp2) k _ _ (by simp [Act.eval]) hown.drew (by simpa using hBq) (by simp [Act.eval]) rfl (by omega) (by omega) ?_; intro v1 w1 hown1 hg1; obtain ⟨A1, cp1, rfl, _, _⟩ := own_slice hown1; have hb1 := hblk.drew.grown hg1 (own_ne hown (by omega)); have c1 : w1.cell? ⟨w.heap.size + 1, 1, none⟩ = some (.slice A2 k cp2) := (by rw [hb1.cell]; rfl); have f1 := hb1.frozen 1; have haft1 := after_grown_ (w0 := w.alloc (.cells #[.slice none 0 0, .slice none 0 0] 24)) hown.drew (by rw [size_alloc_]; omega) hg1)
          all_goals
            go_wp2_with fail
            go_roundw
            case rel => exact ⟨k + 1, _, by omega, by go_num, hb1.set_ 1 _, by rw [HB.out]; exact ownsRow_setCell_below hown1 (by show w.heap.size + 1 < _; omega) _,
              ownsRow_setCell_below (hown0.drew.kept hg1 (own_apart HL.out hown)) (by show w.heap.size + 1 < _; omega) _, by rw [size_set_]; exact Nat.le_trans hBq hg1.size, inferInstance⟩
            case measure => simp [intOf]; omega
        · obtain rfl : k = s2.size := by omega
          rw [List.take_of_length_le (by rw [bits_length]; exact Nat.le_refl _)] at hown
          have c0 : wr.cell? ⟨w.heap.size + 1, 0, none⟩ = some (.slice A0 s1.size cp0) := by rw [hblk.cell]; rfl
          have c1 : wr.cell? ⟨w.heap.size + 1, 1, none⟩ = some (.slice A2 s2.size cp2) := by rw [hblk.cell]; rfl
          have r0 := (Blk.new w 24 #[.slice none 0 0, .slice none 0 0]).after (w' := wr)
          have d0 : wr.cell? ⟨w.heap.size, 0, none⟩ = some (.slice none 0 0) := by rw [r0.cell]; rfl
          have d1 : wr.cell? ⟨w.heap.size, 1, none⟩ = some (.slice none 0 0) := by rw [r0.cell]; rfl
          have g0 := r0.frozen 0
          have g1 := r0.frozen 1
          have iL := r0.is_le
          go_wp2_with fail
          have haw : After w wr := ⟨((Below.refl _ _).alloc (Nat.le_refl _) _).trans (haft.below.mono (by rw [size_alloc_]; omega))⟩
          have hl1 : (bits s1).length = s1.size := bits_length s1
          have hl2 : (bits s2).length = s2.size := bits_length s2
          have r2 := (r0.set_ 0 (.slice A0 s1.size cp0)).set_ 1 (.slice A2 s2.size cp2)
          have k0 : ((wr.setCell ⟨w.heap.size, 0, none⟩ (.slice A0 s1.size cp0)).setCell ⟨w.heap.size, 1, none⟩ (.slice A2 s2.size cp2)).cell? ⟨w.heap.size, 0, none⟩ = some (.slice A0 s1.size cp0) := by rw [r2.cell]; rfl
          have k1 : ((wr.setCell ⟨w.heap.size, 0, none⟩ (.slice A0 s1.size cp0)).setCell ⟨w.heap.size, 1, none⟩ (.slice A2 s2.size cp2)).cell? ⟨w.heap.size, 1, none⟩ = some (.slice A2 s2.size cp2) := by rw [r2.cell]; rfl
          have p0 := ownsRow_setCell_below (ownsRow_setCell_below hown0 (a := ⟨w.heap.size, 0, none⟩) (by show w.heap.size < _; omega) (.slice A0 s1.size cp0)) (a := ⟨w.heap.size, 1, none⟩) (by show w.heap.size < _; omega) (.slice A2 s2.size cp2)
          have p2 := ownsRow_setCell_below (ownsRow_setCell_below hown (a := ⟨w.heap.size, 0, none⟩) (by show w.heap.size < _; omega) (.slice A0 s1.size cp0)) (a := ⟨w.heap.size, 1, none⟩) (by show w.heap.size < _; omega) (.slice A2 s2.size cp2)
          obtain ⟨X0, y0, e0, q0⟩ := RB.of_own_n p0 hl1.symm (by omega)
          obtain ⟨X2, y2, e2, q2⟩ := RB.of_own_n p2 hl2.symm (by omega)
          exact bodyPost_ret (v := .agg #[.slice A0 s1.size cp0, .slice A2 s2.size cp2]) (by simp [results, Try.results18, go_sem, k0, k1]) rfl ⟨X0, y0, X2, y2, by rw [← e0, ← e2], ⟨q0, q2⟩, After.is_more _ _⟩
end Go.Proofs.Ytjbpelkdciphnaa
