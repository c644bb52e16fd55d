/-
  Contracts for Put: nums and list in a state with one more block.
-/
import Derived.Test.YtgmojjdojcmnaaaDoorIGet
import Derived.Lib.AppendStr
import Derived.ArgAppend
import Derived.Lib.AppendZeros
import Derived.Lib.SlBytesConst
import Derived.LoopN
set_option linter.unusedVariables false
set_option linter.unusedSimpArgs false
namespace Go.Proofs.YtgmojjdojcmnaaaDoor
open Go.RowKit Go.BigFrame

theorem own_type_ne {w : World} {base : Nat} {e t : TypeId} {size n : Nat} {v : Value} {xs : List Value} {g : Nat} {cs : Array Value} (h : w.ownsRow base e size v n xs) (hb : Blk w g t cs) (ht : t ≠ e) : v.ownBlock ≠ some g := by
  intro e1
  rcases h.2 with ⟨h1, _⟩ | ⟨g', cap, cur, hv, _, hh, _⟩
  · rw [h1] at e1; cases e1
  · rw [hv] at e1
    injection e1 with e1
    subst e1
    unfold Blk at hb
    rw [hh] at hb
    injection hb with hb
    injection hb with _ h3 _
    exact ht h3.symm
theorem own_base {w : World} {base base' : Nat} {e : TypeId} {size n : Nat} {v : Value} {xs : List Value} (h : w.ownsRow base e size v n xs) (hb : base' ≤ base) : w.ownsRow base' e size v n xs := by
  refine ⟨h.1, ?_⟩
  rcases h.2 with h2 | ⟨g, cap, cur, hv, hbg, h3⟩
  · exact .inl h2
  · exact .inr ⟨g, cap, cur, hv, Nat.le_trans hb hbg, h3⟩
/-- a place behind a pointer, beside a block of another kind; all behind world B0 -/
structure PSt (B0 V : World) (gp : Nat) (bs : List UInt8) (gr : Nat) (t : TypeId) (cs : Array Value) : Prop where
  pl : ∃ B r, PIs V B gp bs r ∧ B0.heap.size ≤ B
  aft : After B0 V
  blk : Blk V gr t cs
  ty : t ≠ 5
  ne : gr ≠ gp
theorem PIs.rge {w : World} {B g bs r} (h : PIs w B g bs r) : ∀ j, r = some j → B ≤ j := by
  obtain ⟨v, _, ho, hv⟩ := h.row
  intro j hj
  exact (ho.lt j (by rw [hv, hj])).1
theorem PIs.tne {w : World} {B g bs r} (h : PIs w B g bs r) {k : Nat} {t : TypeId} {cs : Array Value} (hb : Blk w k t cs) (ht : t ≠ 5) : r ≠ some k := by
  obtain ⟨v, _, ho, hv⟩ := h.row
  rw [← hv]
  exact own_type_ne ho hb ht
theorem Fr.blkr {w w' : World} {g : Nat} {r : Option Nat} (h : Fr w w' g r) {k : Nat} {t : TypeId} {cs : Array Value} (hb : Blk w k t cs) (hk : k ≠ g) (hr : some k ≠ r) : Blk w' k t cs := (h.block k hb.lt hk hr).trans hb
theorem PSt.out {B0 V V' : World} {gp : Nat} {bs bs' : List UInt8} {gr : Nat} {t : TypeId} {cs : Array Value} {B : Nat} {r r' : Option Nat} (h : PSt B0 V gp bs gr t cs) (hp : PIs V B gp bs r) (hB : B0.heap.size ≤ B) (hp' : PIs V' B gp bs' r') (hf : Fr V V' gp r) : PSt B0 V' gp bs' gr t cs := by
  refine ⟨⟨B, r', hp', hB⟩, hf.after h.aft (Nat.le_trans hB hp.base) (fun j hj => Nat.le_trans hB (hp.rge j hj)), hf.blkr h.blk h.ne (hp.tne h.blk h.ty).symm, h.ty, h.ne⟩
theorem PIs.alloc {w : World} {B g bs r} (h : PIs w B g bs r) (o : Obj) : PIs (w.alloc o) B g bs r := by
  obtain ⟨v, hb, ho, hv⟩ := h.row
  exact ⟨h.base, ⟨v, hb.alloc o, ho.alloc o, hv⟩, h.apart⟩
theorem PSt.alloc {B0 V : World} {gp : Nat} {bs : List UInt8} {gr : Nat} {t : TypeId} {cs : Array Value} (h : PSt B0 V gp bs gr t cs) (o : Obj) : PSt B0 (V.alloc o) gp bs gr t cs := by
  obtain ⟨B, r, hp, hB⟩ := h.pl
  have := h.aft
  exact ⟨⟨B, r, hp.alloc o, hB⟩, inferInstance, h.blk.alloc o, h.ty, h.ne⟩
theorem PIs.lt {w : World} {B g bs r} (h : PIs w B g bs r) : g < w.heap.size ∧ ∀ j, r = some j → j < w.heap.size := by
  obtain ⟨v, hb, ho, hv⟩ := h.row
  exact ⟨hb.lt, fun j hj => (ho.lt j (by rw [hv, hj])).2⟩

set_option maxHeartbeats 800000 in
theorem nums_nil (w : World) (g : Nat) (A : Option Addr) (c : Nat) : Calls Tryd.prog 32 #[.pointer (some ⟨g, 0, none⟩), .slice A 0 c] w fun e w' => e = .returned (.tuple #[]) ∧ w' = w := by
  go_enter Tryd.func32, Tryd.ntmps32
  go_wp2_with fail
  refine wp_loop_rounds 1 ?_
  rw [rounds_succ]
  go_wp2_with fail
  go_end0
  exact ⟨rfl, rfl⟩
/-- numbers of a literal -/
theorem nums_lit {B0 V : World} {gp : Nat} {bs : List UInt8} {gr : Nat} {t : TypeId} {cs : Array Value} (h : PSt B0 V gp bs gr t cs) (l : List Int) (hn : bs.length + 4 * l.length ≤ 140737488355328) :
    Calls Tryd.prog 32 #[.pointer (some ⟨gp, 0, none⟩), .slice (some ⟨V.heap.size, 0, none⟩) l.length l.length] (V.alloc (.cells (iv l).toArray 3)) fun e w' => e = .returned (.tuple #[]) ∧ PSt B0 w' gp (bs ++ l.flatMap enc) gr t cs := by
  obtain ⟨B, r, hp, hB⟩ := h.pl
  have x : RI (V.alloc (.cells (iv l).toArray 3)) (some ⟨V.heap.size, 0, none⟩) l.length l := by
    refine ⟨⟨by simp [iv], fun _ => ⟨_, rfl, by rw [size_alloc_]; exact Nat.lt_succ_self _, fun j u hu => ?_⟩⟩, Nat.le_refl _, by omega, by omega⟩
    rw [Addr.add_lit, (Blk.new V 3 (iv l).toArray).cell, ← hu]; simp
  refine (nums_any _ (hp.alloc _) x (fun ad e => ?_) hn).mono ?_
  · injection e with e
    subst e
    have := hp.lt
    exact ⟨by show V.heap.size ≠ gp; omega, fun e2 => by have := this.2 _ e2.symm; exact Nat.lt_irrefl _ this⟩
  · rintro e w' ⟨rfl, r', hp', hf, _⟩
    exact ⟨rfl, (h.alloc _).out (hp.alloc _) hB hp' hf⟩
/-- numbers of an argument -/
theorem nums_arg {B0 V : World} {gp : Nat} {bs : List UInt8} {gr : Nat} {t : TypeId} {cs : Array Value} (h : PSt B0 V gp bs gr t cs) {A c l} (x : RI B0 A c l) (hn : bs.length + 4 * l.length ≤ 140737488355328) :
    Calls Tryd.prog 32 #[.pointer (some ⟨gp, 0, none⟩), .slice A l.length c] V fun e w' => e = .returned (.tuple #[]) ∧ PSt B0 w' gp (bs ++ l.flatMap enc) gr t cs := by
  have ha := h.aft
  obtain ⟨B, r, hp, hB⟩ := h.pl
  rcases Nat.eq_zero_or_pos l.length with h0 | h0
  · have hl : l = [] := List.eq_nil_of_length_eq_zero h0
    subst hl
    refine (nums_nil V gp A c).mono ?_
    rintro e w' ⟨rfl, rfl⟩
    exact ⟨rfl, by simpa using h⟩
  · obtain ⟨ad, e, hb, _⟩ := x.reads.2 h0
    refine (nums_any V hp (x.here V) (fun ad' e' => ?_) hn).mono ?_
    · rw [e] at e'; injection e' with e'; subst e'
      have := hp.base
      exact ⟨by omega, fun e2 => by have := hp.rge _ e2.symm; omega⟩
    · rintro e w' ⟨rfl, r', hp', hf, _⟩
      exact ⟨rfl, h.out hp hB hp' hf⟩
set_option maxHeartbeats 800000 in
theorem list_arg {B0 V : World} {gp : Nat} {bs : List UInt8} {gr : Nat} {t : TypeId} {cs : Array Value} (h : PSt B0 V gp bs gr t cs) {A c l} (x : RI B0 A c l) (hn : bs.length + 4 * l.length + 4 ≤ 140737488355328) :
    Calls Tryd.prog 31 #[.pointer (some ⟨gp, 0, none⟩), .slice A l.length c] V fun e w' => e = .returned (.tuple #[]) ∧ PSt B0 w' gp (bs ++ encL l) gr t cs := by
  have HL := Lib.hid (nums_lit h [(l.length : Int)] (by simp only [List.length_cons, List.length_nil]; omega))
  have HX := Lib.hid x
  have hlen := x.len
  clear h x
  go_enter Tryd.func31, Tryd.ntmps31
  go_wp2_with fail
  refine HL.out.mono ?_
  rintro e w2 ⟨rfl, h2⟩
  have HA := Lib.hid (nums_arg h2 HX.out (by rw [List.length_append, encs_length]; simp only [List.length_cons, List.length_nil]; omega))
  clear h2 HL
  go_wp2_with fail
  refine HA.out.mono ?_
  rintro e w3 ⟨rfl, h3⟩
  have e1 : bs ++ [(l.length : Int)].flatMap enc ++ l.flatMap enc = bs ++ encL l := by unfold encL; simp
  rw [e1] at h3
  go_wp2_with fail
  go_end0
  exact ⟨rfl, h3⟩

/-- the place before anything was appended: its bytes are a constant's -/
structure PS0 (B0 V : World) (gp g0 : Nat) (gr : Nat) (t : TypeId) (cs : Array Value) : Prop where
  b0 : B0.heap.size ≤ g0
  lt : g0 < gp
  aft : After B0 V
  pb : Blk V gp 45 #[.slice (some ⟨g0, 0, none⟩) 4 4, .int .i64 0]
  cells : ∀ j u, (yv [83, 89, 78, 49])[j]? = some u → V.cell? ⟨g0, j, none⟩ = some u
  blk : Blk V gr t cs
  ty : t ≠ 5
  ne : gr ≠ gp
set_option maxRecDepth 100000 in
set_option maxHeartbeats 1600000 in
theorem nums_first {B0 V : World} {gp g0 gr : Nat} {t : TypeId} {cs : Array Value} (h : PS0 B0 V gp g0 gr t cs) (n : Int) :
    Calls Tryd.prog 32 #[.pointer (some ⟨gp, 0, none⟩), .slice (some ⟨V.heap.size, 0, none⟩) 1 1] (V.alloc (.cells #[.int .i64 n] 3)) fun e w' => e = .returned (.tuple #[]) ∧ PSt B0 w' gp ([83, 89, 78, 49] ++ enc n) gr t cs := by
  obtain ⟨i0, hi, hz0, hz1, hz2⟩ := info_parts byteInfo
  have hgl := h.pb.is_le.le
  obtain ⟨g9, hg9⟩ : ∃ g9, V.heap.size = g9 := ⟨_, rfl⟩
  obtain ⟨W1, hW1, z1, c1, p1, r1, a1, s1⟩ : ∃ W1, V.alloc (.cells #[.int .i64 n] 3) = W1 ∧ Hid (Blk W1 g9 3 #[.int .i64 n]) ∧ Hid (∀ j u, (yv [83, 89, 78, 49])[j]? = some u → W1.cell? ⟨g0, j, none⟩ = some u) ∧ Hid (Blk W1 gp 45 #[.slice (some ⟨g0, 0, none⟩) 4 4, .int .i64 0]) ∧ Hid (Blk W1 gr t cs) ∧ After B0 W1 ∧ W1.heap.size = g9 + 1 := by
    have := h.aft
    refine ⟨_, rfl, by rw [← hg9]; exact Blk.new _ _ _, fun j u hu => ?_, h.pb.alloc _, h.blk.alloc _, inferInstance, by rw [size_alloc_, hg9]⟩
    exact (World.cell?_alloc_lt V _ _ (show g0 < V.heap.size by have := h.lt; omega)).trans (h.cells j u hu)
  rw [hW1]
  have e0 : W1.cell? ⟨g9, 0, none⟩ = some (.int .i64 n) := by rw [z1.out.cell]; rfl
  have el := z1.out.is_le
  have q0 : W1.cell? ⟨gp, 0, none⟩ = some (.slice (some ⟨g0, 0, none⟩) 4 4) := by rw [p1.out.cell]; rfl
  have ql := p1.out.is_le
  have HN := Lib.hid h.ne
  have HT := Lib.hid h.ty
  have HL := Lib.hid h.lt
  have HB := Lib.hid h.b0
  obtain ⟨W2, hW2, c2, p2, r2, a2, s2, y2⟩ : ∃ W2, W1.alloc (.cells #[.int .u8 (n % 256), .int .u8 (n % 4294967296 / 256 % 256), .int .u8 (n % 4294967296 / 65536 % 256), .int .u8 (n % 4294967296 / 16777216)] 5) = W2 ∧ Hid (∀ j u, (yv [83, 89, 78, 49])[j]? = some u → W2.cell? ((⟨g0, 0, none⟩ : Addr).add j) = some u) ∧ Hid (Blk W2 gp 45 #[.slice (some ⟨g0, 0, none⟩) 4 4, .int .i64 0]) ∧ Hid (Blk W2 gr t cs) ∧ After B0 W2 ∧ W2.heap.size = W1.heap.size + 1 ∧ Hid (∀ j u, (yv (enc n))[j]? = some u → W2.cell? ((⟨g9 + 1, 0, none⟩ : Addr).add j) = some u) := by
    refine ⟨_, rfl, fun j u hu => ?_, p1.out.alloc _, r1.out.alloc _, inferInstance, size_alloc_ _ _, fun j u hu => ?_⟩
    · rw [Addr.add_lit, Nat.zero_add]
      exact (World.cell?_alloc_lt W1 _ _ (show g0 < W1.heap.size by have := HL.out; omega)).trans (c1.out j u hu)
    · rw [Addr.add_lit, Nat.zero_add, ← s1, (Blk.new W1 5 _).cell, ← hu, enc_spell1]; simp
  have hrun := run_append_arg_grows (P := Tryd.prog) (w := W2) 22 22 5 i0 (.int .u8 0) 1 1 Tryd.underlying22 hi hz0 hz1 hz2 rfl (by omega) ⟨g0, 0, none⟩ 4 4 (yv [83, 89, 78, 49]) rfl c2.out ⟨g9 + 1, 0, none⟩ 4 4 (yv (enc n)) rfl y2.out (by omega) (by unfold maxLen; omega) (by omega)
  obtain ⟨v3, w3, hr3, ho3, hgr3⟩ := hrun
  have HR := Lib.hid hr3
  have HO := Lib.hid ho3
  obtain ⟨A3, c3, rfl, _, _⟩ := own_slice ho3
  have p3 := Lib.hid (p2.out.grown hgr3 (by simp))
  have r3 := Lib.hid (r2.out.grown hgr3 (by simp))
  have a3 : After B0 w3 := ⟨a2.below.grown hgr3 a2.below.size (fun k hk => by cases hk)⟩
  have u0 : w3.cell? ⟨gp, 0, none⟩ = some (.slice (some ⟨g0, 0, none⟩) 4 4) := by rw [p3.out.cell]; rfl
  have uf := p3.out.frozen 0
  have ul := p3.out.is_le
  have hsz : W1.heap.size + 1 = W2.heap.size := s2.symm
  clear h hr3 ho3 hgr3
  go_enter Tryd.func32, Tryd.ntmps32
  go_wp2_with fail
  refine wp_loop_rounds 2 ?_
  rw [rounds_succ]
  go_wp2_with (at_builtin; go_loud ((try rw [hW2]); refine Lib.wpList_append_run _ rfl (.tmp 19) (.tmp 31) 22 22 rfl (.slice (some ⟨g0, 0, none⟩) 4 4) (.slice (some ⟨g9 + 1, 0, none⟩) 4 4) rfl rfl _ _ HR.out ?_))
  go_wp2_with fail
  rw [rounds_succ]
  go_wp2_with fail
  go_end0
  refine ⟨rfl, ?_⟩
  have hne : (Value.slice A3 (4 + 4) c3).ownBlock ≠ some gp := own_type_ne HO.out p3.out (by decide)
  have hb0 := HB.out
  have hl0 := HL.out
  refine ⟨⟨B0.heap.size, _, ⟨by omega, ⟨_, p3.out.set_ 0 _, ?_, rfl⟩, hne⟩, Nat.le_refl _⟩, ⟨a3.below.setCell (p := ⟨gp, 0, none⟩) (by show B0.heap.size ≤ gp; omega) _⟩, r3.out.far (p := ⟨gp, 0, none⟩) HN.out _, HT.out, HN.out⟩
  have e5 : yv ([83, 89, 78, 49] ++ enc n) = yv [83, 89, 78, 49] ++ yv (enc n) := yv_append _ _
  have e6 : ([83, 89, 78, 49] ++ enc n : List UInt8).length = 4 + 4 := rfl
  have hh := own_far (g := gp) (i := 0) (u := .slice A3 (4 + 4) c3) (own_base HO.out a2.below.size) hne
  rw [← e5] at hh
  exact hh
set_option maxHeartbeats 800000 in
theorem list_first {B0 V : World} {gp g0 gr : Nat} {t : TypeId} {cs : Array Value} (h : PS0 B0 V gp g0 gr t cs) {A c l} (x : RI B0 A c l) (hn : 4 * l.length + 8 ≤ 140737488355328) :
    Calls Tryd.prog 31 #[.pointer (some ⟨gp, 0, none⟩), .slice A l.length c] V fun e w' => e = .returned (.tuple #[]) ∧ PSt B0 w' gp ([83, 89, 78, 49] ++ encL l) gr t cs := by
  have HL := Lib.hid (nums_first h (l.length : Int))
  have HX := Lib.hid x
  have hlen := x.len
  clear h x
  go_enter Tryd.func31, Tryd.ntmps31
  go_wp2_with fail
  refine HL.out.mono ?_
  rintro e w2 ⟨rfl, h2⟩
  have HA := Lib.hid (nums_arg h2 HX.out (by rw [List.length_append, enc_length]; simp only [List.length_cons, List.length_nil]; omega))
  clear h2 HL
  go_wp2_with fail
  refine HA.out.mono ?_
  rintro e w3 ⟨rfl, h3⟩
  have e1 : [83, 89, 78, 49] ++ enc (l.length : Int) ++ l.flatMap enc = [83, 89, 78, 49] ++ encL l := by unfold encL; rw [List.append_assoc]
  rw [e1] at h3
  go_wp2_with fail
  go_end0
  exact ⟨rfl, h3⟩
end Go.Proofs.YtgmojjdojcmnaaaDoor
