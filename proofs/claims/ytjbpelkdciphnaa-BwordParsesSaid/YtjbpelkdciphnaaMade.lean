/-
  Contract: bword.made, for any function value.
-/
import Derived.Test.YtjbpelkdciphnaaNormal
import Derived.Shelf.Abstract
import Derived.Deep.DrawnRows
set_option linter.unusedVariables false
namespace Go.Proofs.Ytjbpelkdciphnaa
open Go.RowKit Go.BigFrame
attribute [local go_sem ↓] Go.wp_at_zero Go.wp_at_succ

/-- the normal form, if it fits, and the error -/
def Fits (F : Nat → Bool) : Prop := (W.nf F).1.length + (W.nf F).2.length ≤ 64
open Classical in
noncomputable def fitW (F : Nat → Bool) : (List Bool × List Bool) × Int := if Fits F then (W.nf F, 0) else (([], []), 3)
theorem fitW_yes {F : Nat → Bool} (h : Fits F) : fitW F = (W.nf F, 0) := by unfold fitW; rw [if_pos h]
theorem fitW_no {F : Nat → Bool} (h : ¬ Fits F) : fitW F = (([], []), 3) := by unfold fitW; rw [if_neg h]

/-! ### what has changed: 'only block row, and new memory' -/
theorem grow_trans {w x y : World} {row row' : Option Nat} (a : w.grownBy x row) (b : x.grownBy y row') (hr : ∀ k, row' = some k → row = some k ∨ w.heap.size ≤ k) : w.grownBy y row :=
  ⟨b.os.trans a.os, b.tape.trans a.tape, b.output.trans a.output, Nat.le_trans a.size b.size, fun k hk hne => (b.block k (Nat.lt_of_lt_of_le hk a.size) (fun e => by
    rcases hr k e.symm with h | h
    · exact hne h.symm
    · omega)).trans (a.block k hk hne)⟩
theorem grow_set {w x : World} {row : Option Nat} (a : w.grownBy x row) {b : Nat} (hb : w.heap.size ≤ b) (i : Nat) (v : Value) : w.grownBy (x.setCell ⟨b, i, none⟩ v) row :=
  ⟨a.os, a.tape, a.output, by rw [size_set_]; exact a.size, fun k hk hne => (Below.heap_setCell x ⟨b, i, none⟩ v k (by show k ≠ b; omega)).trans (a.block k hk hne)⟩
theorem grow_after {w x : World} {row : Option Nat} (a : After w x) : w.grownBy x row := ⟨a.below.os, a.below.tape, a.below.output, a.below.size, fun k hk _ => a.below.block k hk⟩
theorem below_grow {U V : World} {row : Option Nat} (h : U.grownBy V row) {B : Nat} (hB : B ≤ U.heap.size) (hr : ∀ k, row = some k → B ≤ k) : Below B U V :=
  ⟨h.os, h.tape, h.output, h.size, fun k hk => h.block k (by omega) (fun e => by have := hr k e.symm; omega)⟩
theorem after_grow {w x : World} (a : w.grownBy x none) : After w x := ⟨⟨a.os, a.tape, a.output, a.size, fun k hk => a.block k hk (by simp)⟩⟩
theorem RB.of_tab {w : World} {v : Value} {n B N : Nat} {e : TypeId} {F : Nat → Bool} (h : w.ownsRow B e 1 v n (bv (W.tab F N n))) (hn : n ≤ 1000000) : ∃ A c, v = .slice A n c ∧ RB w A c (W.tab F N n) ∧ From B A := by
  have h2 : w.ownsRow B e 1 v (W.tab F N n).length (bv (W.tab F N n)) := by rw [W.tab_length]; exact h
  obtain ⟨A, c, rfl, x⟩ := RB.of_own h2 (by rw [W.tab_length]; omega)
  rw [W.tab_length]
  exact ⟨A, c, rfl, x, From.of_own h2⟩
theorem RB.nil (w : World) : RB w none 0 [] := ⟨Reads.none_, Nat.le_refl _, by omega, by simp⟩
theorem bv_tab_succ (F : Nat → Bool) (N k : Nat) : bv (W.tab F N (k + 1)) = bv (W.tab F N k) ++ [.bool (F (N + k))] := by rw [W.tab_succ]; simp [bv]

theorem own_apart2 {w : World} {row : Option Nat} {B : Nat} {e : TypeId} {size n : Nat} {v : Value} {xs : List Value} (hr : ∀ k, row = some k → k < B) (hown : w.ownsRow B e size v n xs) : v.ownBlock = none ∨ v.ownBlock ≠ row := by
  cases hv : v.ownBlock with
  | none => exact .inl rfl
  | some g =>
    refine .inr fun e => ?_
    have h1 := hr g e.symm
    have h2 := (hown.lt g hv).1
    omega
theorem RB.grown {w w' : World} {A c l} (x : RB w A c l) {row : Option Nat} (hg : w.grownBy w' row) (h : ∀ ad, A = some ad → some ad.block ≠ row) : RB w' A c l := by
  refine ⟨⟨x.reads.1, fun hn => ?_⟩, x.le, x.cap, x.len⟩
  obtain ⟨ad, e, hlt, hc⟩ := x.reads.2 hn
  exact ⟨ad, e, Nat.lt_of_lt_of_le hlt hg.size, fun j u hu => (World.cell?_of_block (hg.block _ (by rw [block_of_add]; exact hlt) (by rw [block_of_add]; exact h ad e))).trans (hc j u hu)⟩
/-- made's memory in a round: its result, its word, a finished row, the row under way -/
structure MSt (w : World) (row : Option Nat) (T e : TypeId) (St : World → Prop) (Ah : Option Addr) (ch : Nat) (lh : List Bool) (B : Nat) (cs : Array Value) (v : Value) (n : Nat) (xs : List Value) (wr : World) : Prop where
  b1 : Blk wr (w.heap.size + 1) T cs
  b0 : Blk wr w.heap.size T #[.slice none 0 0, .slice none 0 0]
  own : wr.ownsRow B e 1 v n xs
  base : w.heap.size + 2 ≤ B ∧ B ≤ wr.heap.size
  hd : RB wr Ah ch lh
  hda : ∀ ad, Ah = some ad → w.heap.size + 2 ≤ ad.block ∧ ad.block < B
  st : St wr
  g : w.grownBy wr row
section
variable {w wr w2 w1 : World} {row : Option Nat} {T e : TypeId} {St St' : World → Prop} {Ah : Option Addr} {ch : Nat} {lh : List Bool} {B : Nat} {cs : Array Value} {v : Value} {n : Nat} {xs : List Value}
theorem MSt.call (h : MSt w row T e St Ah ch lh B cs v n xs wr) (hr : ∀ k, row = some k → k < w.heap.size) (hg : wr.drew.grownBy w2 row) (hs : St' w2) : MSt w row T e St' Ah ch lh B cs v n xs w2 :=
  ⟨h.b1.drew.grown hg (fun e => by have := hr _ e.symm; omega), h.b0.drew.grown hg (fun e => by have := hr _ e.symm; omega), h.own.drew.kept hg (own_apart2 (fun k hk => by have := hr k hk; have := h.base.1; omega) h.own),
    ⟨h.base.1, Nat.le_trans h.base.2 hg.size⟩, RB.grown (w := wr.drew) (h.hd.here wr.drew) hg (fun ad e e2 => by have := hr _ e2.symm; have := (h.hda ad e).1; omega), h.hda, hs, grow_trans h.g (show wr.grownBy w2 row from ⟨hg.os, hg.tape, hg.output, hg.size, hg.block⟩) (fun _ h => .inl h)⟩
theorem MSt.app (h : MSt w row T e St Ah ch lh B cs v n xs w2) (hk : ∀ U V, St U → Below w.heap.size U V → St V) {v' : Value} {n' : Nat} {xs' : List Value} (hown : w1.ownsRow B e 1 v' n' xs') (hg : w2.grownBy w1 v.ownBlock) : MSt w row T e St Ah ch lh B cs v' n' xs' w1 := by
  have hlt : ∀ k, v.ownBlock = some k → B ≤ k := fun k hk => (h.own.lt k hk).1
  have hb := h.base
  have hz := h.g.size
  exact ⟨h.b1.grown hg (fun e => by have := hlt _ e.symm; omega), h.b0.grown hg (fun e => by have := hlt _ e.symm; omega), hown, ⟨h.base.1, Nat.le_trans h.base.2 hg.size⟩, h.hd.grown hg (fun ad e e2 => by have := hlt _ e2.symm; have := (h.hda ad e).2; omega), h.hda,
    hk _ _ h.st (below_grow hg hz (fun k hk => by have := hlt k hk; omega)), grow_trans h.g hg (fun k hk => .inr (by have := hlt k hk; omega))⟩
theorem MSt.set_ (h : MSt w row T e St Ah ch lh B cs v n xs w2) (hk : ∀ U V, St U → Below w.heap.size U V → St V) (i : Nat) (u : Value) : MSt w row T e St Ah ch lh B (cs.setIfInBounds i u) v n xs (w2.setCell ⟨w.heap.size + 1, i, none⟩ u) := by
  have hb := h.base
  refine ⟨h.b1.set_ i u, h.b0.far (by show w.heap.size ≠ w.heap.size + 1; omega) u, ownsRow_setCell_below h.own (by show w.heap.size + 1 < _; omega) u, ⟨hb.1, by rw [size_set_]; exact hb.2⟩, h.hd.set_ (B := w.heap.size + 2) (fun ad e => (h.hda ad e).1) (by omega) i u, h.hda,
    hk _ _ h.st (Below.setCell (Below.refl _ _) (p := ⟨w.heap.size + 1, i, none⟩) (by show w.heap.size ≤ w.heap.size + 1; omega) u), grow_set h.g (by omega) i u⟩
theorem MSt.size (h : MSt w row T e St Ah ch lh B cs v n xs wr) : w.heap.size + 2 ≤ wr.heap.size := Nat.le_trans h.base.1 h.base.2
end

set_option maxHeartbeats 3200000 in
theorem made_any (fid : Nat) (caps : Array Value) (he : ∀ (args : Array Value) (w : World), (callFunc fid args).run Try.prog w = .ok (.enter fid args) w) (F : Nat → Bool) (St : Nat → World → Prop) (row : Option Nat) (w : World) (head loop : Nat) (hl : 0 < loop) (hb : head + loop ≤ 100000) (hper : W.Per F head loop)
    (hrow : ∀ k, row = some k → k < w.heap.size) (h0 : St 0 w) (hkeep : ∀ i U V, St i U → Below w.heap.size U V → St i V)
    (hcall : ∀ (i : Nat) U, i < head + loop → St i U → w.grownBy U row → Calls Try.prog fid (#[.int .i64 (i : Nat)] ++ caps) U fun e w' => e = .returned (.bool (F i)) ∧ St (i + 1) w' ∧ U.grownBy w' row) :
    Calls Try.prog 41 #[.int .i64 head, .int .i64 loop, .func (.func fid) #[] caps] w fun e w' => ∃ A c B d, e = .returned (.tuple #[.agg #[.slice A (fitW F).1.1.length c, .slice B (fitW F).1.2.length d], .int .i64 (fitW F).2]) ∧
      RW w' A c B d (fitW F).1.1 (fitW F).1.2 ∧ From w.heap.size A ∧ From w.heap.size B ∧ w.grownBy w' row := by
  have HC : Hid (∀ (i : Nat) U, i < head + loop → St i U → w.grownBy U row → Calls Try.prog fid (#[.int .i64 (i : Nat)] ++ caps) U fun e w' => e = .returned (.bool (F i)) ∧ St (i + 1) w' ∧ U.grownBy w' row) := hcall
  have HC2 : Hid (∀ (i : Nat) U, i < loop → St (head + i) U → w.grownBy U row → Calls Try.prog fid (#[.int .i64 ((head : Int) + (i : Nat))] ++ caps) U fun e w' => e = .returned (.bool (F (head + i))) ∧ St (head + (i + 1)) w' ∧ U.grownBy w' row) := fun i U hi hs hg => by
    have := hcall (head + i) U (by omega) hs hg
    rw [Int.natCast_add] at this
    exact this
  have HK : Hid (∀ i U V, St i U → Below w.heap.size U V → St i V) := hkeep
  have HR : Hid (∀ k, row = some k → k < w.heap.size) := hrow
  have H0 : Hid (St 0 w) := h0
  have HP : Hid (W.Per F head loop) := hper
  clear hcall hkeep hrow h0 hper
  go_enter Try.func41, Try.ntmps41
  go_wp2_with fail
  go_loopw [13] (fun i wr => ∃ (k : Nat) (v : Value), k ≤ head ∧ i = .int .i64 k ∧ Hid (MSt w row 24 4 (St k) none 0 [] (w.heap.size + 2) #[v, .slice none 0 0] v k (bv (W.tab F 0 k)) wr)) (fun i _ => head - (intOf i).toNat)
  case atStart =>
    refine ⟨0, .slice none 0 0, by omega, rfl, ⟨?_, (Blk.new w _ _).alloc _, World.ownsRow_nil _ _ _ _, ⟨Nat.le_refl _, by simp⟩, ⟨Reads.none_, Nat.le_refl _, by omega, by simp⟩, (fun ad h => by cases h), HK.out 0 _ _ H0.out (((Below.refl _ _).alloc (Nat.le_refl _) _).alloc (by simp) _), grow_after inferInstance⟩⟩
    have := Blk.new (w.alloc (.cells #[.slice none 0 0, .slice none 0 0] 24)) 24 #[.slice none 0 0, .slice none 0 0]
    rwa [size_alloc_] at this
  case round =>
    obtain ⟨k, v, hk, rfl, HM⟩ := hrel
    obtain ⟨A0, cp0, rfl, _, _⟩ := own_slice HM.out.own
    by_cases hlt : k < head
    · have c0 : wr.cell? ⟨w.heap.size + 1, 0, none⟩ = some (.slice A0 k cp0) := by rw [HM.out.b1.cell]; rfl
      have hltI : (k : Int) < (head : Int) := by omega
      have iL := HM.out.b1.is_le
      have hd1 : w.grownBy wr.drew row := by have := HM.out.g; exact ⟨this.os, this.tape, this.output, this.size, this.block⟩
      have HCk := Lib.hid (HC.out k wr.drew (by omega) (HK.out k wr wr.drew HM.out.st (Below.drew (Below.refl _ _))) hd1)
      clear hd1
      go_wp2_with fail
      go_region_law
        (first
          | (refine step_append_gen _ (by rfl) (.tmp 17) (.tmp 21) 22 (by rfl) (w.heap.size + 2) 4 _ 1 Try.underlying22 boolInfo (by rfl) (.slice A0 k cp0) k _ _ (by rfl) hm2.out.own hm2.out.size (by rfl) (by rfl) (by omega) (by omega) ?_; intro v1 w1 hown1 hg1; obtain ⟨A1, cp1, rfl, _, _⟩ := own_slice hown1; have hm1 := Lib.hid (hm2.out.app (HK.out _) hown1 hg1); have c3 : w1.cell? ⟨w.heap.size + 1, 0, none⟩ = some (.slice A0 k cp0) := (by rw [hm1.out.b1.cell]; rfl); have f3 := hm1.out.b1.frozen 0; have l3 := hm1.out.b1.is_le; clear hown1 hg1)
          | (go_simp; go_at_fn fid; refine HCk.out.mono ?_; rintro e w2 ⟨rfl, hs2, hg2⟩; have hm2 := Lib.hid (HM.out.call HR.out hg2 hs2); have c2 : w2.cell? ⟨w.heap.size + 1, 0, none⟩ = some (.slice A0 k cp0) := (by rw [hm2.out.b1.cell]; rfl); have l2 := hm2.out.b1.is_le; clear hs2 hg2))
      all_goals
        go_wp2_with fail
        go_roundw
        case rel => exact ⟨k + 1, _, by omega, by go_num, by have := hm1.out.set_ (HK.out _) 0 (.slice A1 (k + 1) cp1); rw [bv_tab_succ, Nat.zero_add]; exact this⟩
        case measure => simp [intOf]; omega
    · obtain rfl : k = head := by omega
      obtain ⟨wo, rfl⟩ : ∃ wo : World, wo = wr := ⟨_, rfl⟩
      obtain ⟨X0, y0, e0, x0, n0⟩ := RB.of_tab HM.out.own (by omega)
      cases e0
      have HX : Hid (MSt w row 24 4 (St (k + 0)) A0 cp0 (W.tab F 0 k) wo.heap.size #[.slice A0 k cp0, .slice none 0 0] (.slice none 0 0) 0 (bv (W.tab F k 0)) wo) :=
        ⟨HM.out.b1, HM.out.b0, World.ownsRow_nil _ _ _ _, ⟨HM.out.size, Nat.le_refl _⟩, x0, (fun ad e => ⟨n0 ad e, by subst e; exact (HM.out.own.lt ad.block rfl).2⟩), HM.out.st, HM.out.g⟩
      obtain ⟨B2, hB2⟩ : ∃ B2, wo.heap.size = B2 := ⟨_, rfl⟩
      rw [hB2] at HX
      clear x0 n0 HM HC hB2
      go_wp2_with fail
      go_loopw [26] (fun i wq => ∃ (j : Nat) (v : Value), j ≤ loop ∧ i = .int .i64 j ∧ Hid (MSt w row 24 4 (St (k + j)) A0 cp0 (W.tab F 0 k) B2 #[.slice A0 k cp0, v] v j (bv (W.tab F k j)) wq)) (fun i _ => loop - (intOf i).toNat)
      case atStart => exact ⟨0, .slice none 0 0, by omega, rfl, HX⟩
      case round =>
        clear HX
        obtain ⟨j, v, hj, rfl, HM⟩ := hrel
        obtain ⟨A2, cp2, rfl, _, _⟩ := own_slice HM.out.own
        by_cases hlt2 : j < loop
        · have c1 : wr.cell? ⟨w.heap.size + 1, 1, none⟩ = some (.slice A2 j cp2) := by rw [HM.out.b1.cell]; rfl
          have hltI : (j : Int) < (loop : Int) := by omega
          have iL := HM.out.b1.is_le
          have hd1 : w.grownBy wr.drew row := by have := HM.out.g; exact ⟨this.os, this.tape, this.output, this.size, this.block⟩
          have HCk : Hid (Calls Try.prog fid (#[.int .i64 (IntKind.i64.wrap ((k : Int) + (j : Int)))] ++ caps) wr.drew fun e w' => e = .returned (.bool (F (k + j))) ∧ St (k + (j + 1)) w' ∧ wr.drew.grownBy w' row) := by
            rw [IntWalk.i64_in _ (by omega)]
            exact HC2.out j wr.drew (by omega) (HK.out _ wr wr.drew HM.out.st (Below.drew (Below.refl _ _))) hd1
          clear hd1
          go_wp2_with fail
          have tok : True := trivial
          go_region_law (first
            | (have _t := tok; go_simp; go_at_fn fid; refine HCk.out.mono ?_; rintro e w2 ⟨rfl, hs2, hg2⟩; have hm2 := Lib.hid (HM.out.call HR.out hg2 hs2); have c2 : w2.cell? ⟨w.heap.size + 1, 1, none⟩ = some (.slice A2 j cp2) := (by rw [hm2.out.b1.cell]; rfl); have l2 := hm2.out.b1.is_le; clear hs2 hg2; clear _t tok)
            | (refine step_append_gen _ (by rfl) (.tmp 30) (.tmp 36) 22 (by rfl) B2 4 _ 1 Try.underlying22 boolInfo (by rfl) (.slice A2 j cp2) j _ _ (by rfl) hm2.out.own hm2.out.base.2 (by rfl) (by rfl) (by omega) (by omega) ?_; intro v1 w1 hown1 hg1; obtain ⟨A1, cp1, rfl, _, _⟩ := own_slice hown1; have hm1 := Lib.hid (hm2.out.app (HK.out _) hown1 hg1); have c3 : w1.cell? ⟨w.heap.size + 1, 1, none⟩ = some (.slice A2 j cp2) := (by rw [hm1.out.b1.cell]; rfl); have f3 := hm1.out.b1.frozen 1; have l3 := hm1.out.b1.is_le; clear hown1 hg1))
          all_goals
            go_wp2_with fail
            go_roundw
            case rel => exact ⟨j + 1, _, by omega, by go_num, by have := hm1.out.set_ (HK.out _) 1 (.slice A1 (j + 1) cp1); rw [bv_tab_succ]; exact this⟩
            case measure => simp [intOf]; omega
        · obtain rfl : j = loop := by omega
          obtain ⟨wq, rfl⟩ : ∃ wq : World, wq = wr := ⟨_, rfl⟩
          obtain ⟨X2, y2, e2, x2, n2⟩ := RB.of_tab HM.out.own (by omega)
          cases e2
          have HN : Hid (Calls Try.prog 51 #[.agg #[.slice A0 k cp0, .slice A2 j cp2]] wq fun e w' => ∃ A' c' B' d', e = .returned (.agg #[.slice A' (W.nf F).1.length c', .slice B' (W.nf F).2.length d']) ∧
              RW w' A' c' B' d' (W.nf F).1 (W.nf F).2 ∧ From wq.heap.size A' ∧ From wq.heap.size B' ∧ ∃ y, w' = wq.more y) := by
            have := normal_any (w0 := wq) ⟨HM.out.hd, x2⟩ wq (by rw [W.tab_length]; omega) (by rw [W.tab_length]; omega) (by rw [W.tab_length]; omega)
            rwa [W.tab_length, W.tab_length, show W.letter (W.tab F 0 k) (W.tab F k j) = F from funext (W.letter_tab hl HP.out)] at this
          have c0 : wq.cell? ⟨w.heap.size + 1, 0, none⟩ = some (.slice A0 k cp0) := by rw [HM.out.b1.cell]; rfl
          have c1 : wq.cell? ⟨w.heap.size + 1, 1, none⟩ = some (.slice A2 j cp2) := by rw [HM.out.b1.cell]; rfl
          have f0 := HM.out.b1.frozen 0
          have f1 := HM.out.b1.frozen 1
          have iL := HM.out.b1.is_le
          clear x2 n2
          go_wp2_with fail
          refine HN.out.mono ?_
          rintro e w' ⟨A5, c5, B5, d5, rfl, x5, n5, m5, y5, rfl⟩
          have X5 := Lib.hid x5
          clear x5
          go_wp2_with fail
          have hz := HM.out.size
          have hpos : 0 < (W.nf F).2.length := (W.nf_nf hl HP.out).pos
          have x6 := Lib.hid (show RW (((wq.more y5).setCell ⟨w.heap.size + 1, 0, none⟩ (.slice A5 (W.nf F).1.length c5)).setCell ⟨w.heap.size + 1, 1, none⟩ (.slice B5 (W.nf F).2.length d5)) A5 c5 B5 d5 (W.nf F).1 (W.nf F).2 from
            ⟨(X5.out.head.set_ n5 (by omega) 0 _).set_ n5 (by omega) 1 _, (X5.out.loop.set_ m5 (by omega) 0 _).set_ m5 (by omega) 1 _⟩)
          have b6 := Lib.hid (show Blk (((wq.more y5).setCell ⟨w.heap.size + 1, 0, none⟩ (.slice A5 (W.nf F).1.length c5)).setCell ⟨w.heap.size + 1, 1, none⟩ (.slice B5 (W.nf F).2.length d5)) (w.heap.size + 1) 24 #[.slice A5 (W.nf F).1.length c5, .slice B5 (W.nf F).2.length d5] from
            ((HM.out.b1.more y5).set_ 0 _).set_ 1 _)
          have z6 := Lib.hid (show Blk (((wq.more y5).setCell ⟨w.heap.size + 1, 0, none⟩ (.slice A5 (W.nf F).1.length c5)).setCell ⟨w.heap.size + 1, 1, none⟩ (.slice B5 (W.nf F).2.length d5)) w.heap.size 24 #[.slice none 0 0, .slice none 0 0] from
            ((HM.out.b0.more y5).far (by show w.heap.size ≠ w.heap.size + 1; omega) _).far (by show w.heap.size ≠ w.heap.size + 1; omega) _)
          have g6 := Lib.hid (grow_set (grow_set (grow_trans HM.out.g (grow_after (row := none) (w := wq) (x := wq.more y5) inferInstance) (fun _ h => by cases h)) (b := w.heap.size + 1) (by omega) 0 (.slice A5 (W.nf F).1.length c5)) (b := w.heap.size + 1) (by omega) 1 (.slice B5 (W.nf F).2.length d5))
          obtain ⟨W5, hW5⟩ : ∃ W5, ((wq.more y5).setCell ⟨w.heap.size + 1, 0, none⟩ (.slice A5 (W.nf F).1.length c5)).setCell ⟨w.heap.size + 1, 1, none⟩ (.slice B5 (W.nf F).2.length d5) = W5 := ⟨_, rfl⟩
          rw [hW5] at x6 b6 z6 g6 ⊢
          clear hW5 X5 HN c0 c1 f0 f1 iL
          by_cases hfit : Fits F
          · have hv := Lib.hid (checkI_0 (h := (W.nf F).1) (l := (W.nf F).2) ⟨hpos, hfit⟩)
            have HF := Lib.hid (fitW_yes hfit)
            replace hfit := Lib.hid hfit
            refine (check_val x6.out _ hv.out).mono ?_
            rintro e w' ⟨rfl, y6, rfl⟩
            replace x6 := Lib.hid (x6.out.here (W5.more y6))
            replace b6 := Lib.hid (b6.out.more y6)
            replace z6 := Lib.hid (z6.out.more y6)
            replace g6 := Lib.hid (grow_trans g6.out (grow_after (row := none) (w := W5) (x := W5.more y6) inferInstance) (fun _ h => by cases h))
            obtain ⟨W6, hW6⟩ : ∃ W6, W5.more y6 = W6 := ⟨_, rfl⟩
            rw [hW6] at x6 b6 z6 g6 ⊢
            clear hW6
            have c0 : W6.cell? ⟨w.heap.size + 1, 0, none⟩ = some (.slice A5 (W.nf F).1.length c5) := by rw [b6.out.cell]; rfl
            have c1 : W6.cell? ⟨w.heap.size + 1, 1, none⟩ = some (.slice B5 (W.nf F).2.length d5) := by rw [b6.out.cell]; rfl
            have d0 : W6.cell? ⟨w.heap.size, 0, none⟩ = some (.slice none 0 0) := by rw [z6.out.cell]; rfl
            have d1 : W6.cell? ⟨w.heap.size, 1, none⟩ = some (.slice none 0 0) := by rw [z6.out.cell]; rfl
            have f0 := z6.out.frozen 0
            have f1 := z6.out.frozen 1
            have l6 := z6.out.is_le
            go_wp2_with fail
            have r2 := (z6.out.set_ 0 (.slice A5 (W.nf F).1.length c5)).set_ 1 (.slice B5 (W.nf F).2.length d5)
            have k0 : ((W6.setCell ⟨w.heap.size, 0, none⟩ (.slice A5 (W.nf F).1.length c5)).setCell ⟨w.heap.size, 1, none⟩ (.slice B5 (W.nf F).2.length d5)).cell? ⟨w.heap.size, 0, none⟩ = some (.slice A5 (W.nf F).1.length c5) := by rw [r2.cell]; rfl
            have k1 : ((W6.setCell ⟨w.heap.size, 0, none⟩ (.slice A5 (W.nf F).1.length c5)).setCell ⟨w.heap.size, 1, none⟩ (.slice B5 (W.nf F).2.length d5)).cell? ⟨w.heap.size, 1, none⟩ = some (.slice B5 (W.nf F).2.length d5) := by rw [r2.cell]; rfl
            refine bodyPost_ret (v := .tuple #[.agg #[.slice A5 (W.nf F).1.length c5, .slice B5 (W.nf F).2.length d5], .int .i64 0]) (by simp [results, Try.results41, go_sem, k0, k1]) rfl ⟨A5, c5, B5, d5, by rw [HF.out], ?_, n5.mono (by omega), m5.mono (by omega), grow_set (grow_set g6.out (Nat.le_refl _) 0 _) (Nat.le_refl _) 1 _⟩
            rw [HF.out]
            exact ⟨(x6.out.head.set_ n5 (by omega) 0 _).set_ n5 (by omega) 1 _, (x6.out.loop.set_ m5 (by omega) 0 _).set_ m5 (by omega) 1 _⟩
          · have hv := Lib.hid (checkI_3 (h := (W.nf F).1) (l := (W.nf F).2) hpos (by unfold Fits at hfit; omega))
            have HF := Lib.hid (fitW_no hfit)
            replace hfit := Lib.hid hfit
            refine (check_val x6.out _ hv.out).mono ?_
            rintro e w' ⟨rfl, y6, rfl⟩
            replace z6 := Lib.hid (z6.out.more y6)
            replace g6 := Lib.hid (grow_trans g6.out (grow_after (row := none) (w := W5) (x := W5.more y6) inferInstance) (fun _ h => by cases h))
            clear x6 b6
            obtain ⟨W6, hW6⟩ : ∃ W6, W5.more y6 = W6 := ⟨_, rfl⟩
            rw [hW6] at z6 g6 ⊢
            clear hW6
            have d0 : W6.cell? ⟨w.heap.size, 0, none⟩ = some (.slice none 0 0) := by rw [z6.out.cell]; rfl
            have d1 : W6.cell? ⟨w.heap.size, 1, none⟩ = some (.slice none 0 0) := by rw [z6.out.cell]; rfl
            have f0 := z6.out.frozen 0
            have f1 := z6.out.frozen 1
            have l6 := z6.out.is_le
            go_wp2_with fail
            have r2 := (z6.out.set_ 0 (.slice none 0 0)).set_ 1 (.slice none 0 0)
            have k0 : ((W6.setCell ⟨w.heap.size, 0, none⟩ (.slice none 0 0)).setCell ⟨w.heap.size, 1, none⟩ (.slice none 0 0)).cell? ⟨w.heap.size, 0, none⟩ = some (.slice none 0 0) := by rw [r2.cell]; rfl
            have k1 : ((W6.setCell ⟨w.heap.size, 0, none⟩ (.slice none 0 0)).setCell ⟨w.heap.size, 1, none⟩ (.slice none 0 0)).cell? ⟨w.heap.size, 1, none⟩ = some (.slice none 0 0) := by rw [r2.cell]; rfl
            refine bodyPost_ret (v := .tuple #[.agg #[.slice none 0 0, .slice none 0 0], .int .i64 3]) (by simp [results, Try.results41, go_sem, k0, k1]) rfl ⟨none, 0, none, 0, by rw [HF.out]; rfl, ?_, (fun ad h => by cases h), (fun ad h => by cases h), grow_set (grow_set g6.out (Nat.le_refl _) 0 _) (Nat.le_refl _) 1 _⟩
            rw [HF.out]
            exact ⟨RB.nil _, RB.nil _⟩
end Go.Proofs.Ytjbpelkdciphnaa
