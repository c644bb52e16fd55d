/-
  Facts for Get: rows of routines of the call's own; the checksum's bytes.
-/
import Derived.Test.YtgmojjdojcmnaaaDoorIRtn
set_option linter.unusedVariables false
set_option linter.unusedSimpArgs false
namespace Go.Proofs.YtgmojjdojcmnaaaDoor
open Go.RowKit Go.BigFrame

/-- a routine with the places of its lists -/
structure Ra where
  t : ByteArray
  A1 : Option Addr
  c1 : Nat
  A2 : Option Addr
  c2 : Nat
  A3 : Option Addr
  c3 : Nat
  A4 : Option Addr
  c4 : Nat
  r : Rtn
def Ra.cells (a : Ra) : List Value := [.string a.t, .slice a.A1 a.r.ins.length a.c1, .slice a.A2 a.r.outs.length a.c2, .int .i64 a.r.regs, .slice a.A3 a.r.init.length a.c3, .slice a.A4 a.r.code.length a.c4]
theorem Ra.cells_len (a : Ra) : a.cells.length = 6 := rfl
/-- it lies in w, from lo on, beside the row r -/
def Good (w : World) (lo : Nat) (r : Option Nat) (A : Option Addr) : Prop := ∀ ad, A = some ad → lo ≤ ad.block ∧ ad.block < w.heap.size ∧ some ad.block ≠ r
structure RaIn (w : World) (lo : Nat) (r : Option Nat) (a : Ra) : Prop where
  rt : RRt w a.t a.A1 a.c1 a.A2 a.c2 a.A3 a.c3 a.A4 a.c4 a.r
  g1 : Good w lo r a.A1
  g2 : Good w lo r a.A2
  g3 : Good w lo r a.A3
  g4 : Good w lo r a.A4
section
variable {w w' : World} {lo : Nat} {r r' : Option Nat}
theorem RI.stay {A c l} (x : RI w A c l) (hs : w.heap.size ≤ w'.heap.size) (hA : ∀ ad, A = some ad → w'.heap[ad.block]? = w.heap[ad.block]?) : RI w' A c l :=
  ⟨⟨x.reads.1, fun hn => by
    obtain ⟨ad, e, hb, hc⟩ := x.reads.2 hn
    exact ⟨ad, e, Nat.lt_of_lt_of_le hb hs, fun j u hu => by
      rw [← hc j u hu]
      exact World.cell?_of_block (w := w) (by rw [block_of_add]; exact hA ad e)⟩⟩, x.le, x.cap, x.len⟩
theorem RC.stay {A c l} (x : RC w A c l) (hs : w.heap.size ≤ w'.heap.size) (hA : ∀ ad, A = some ad → w'.heap[ad.block]? = w.heap[ad.block]?) : RC w' A c l := by
  refine ⟨?_, x.le, x.cap, x.len⟩
  rcases x.cells with e | ⟨b, p, e, hlt, hc⟩
  · exact .inl e
  · exact .inr ⟨b, p, e, Nat.lt_of_lt_of_le hlt hs, fun i y hy => (hc i y hy).keep fun j => World.cell?_of_block (w := w) (show w'.heap[b]? = w.heap[b]? from hA ⟨b, p, none⟩ e)⟩
/-- what is Good stays where only blocks below lo, the row and new ones change -/
theorem Good.stay {A : Option Addr} (h : Good w lo r A) (hs : w.heap.size ≤ w'.heap.size) (hr : r' = r ∨ ∃ k, r' = some k ∧ w.heap.size ≤ k) : Good w' lo r' A := fun ad e => by
  obtain ⟨h1, h2, h3⟩ := h ad e
  refine ⟨h1, by omega, fun e2 => ?_⟩
  rcases hr with hr | ⟨k, hr, hk⟩
  · exact h3 (by rw [← hr]; exact e2)
  · rw [hr] at e2; injection e2 with e2; omega
theorem RaIn.stay {a : Ra} (h : RaIn w lo r a) (hs : w.heap.size ≤ w'.heap.size) (hk : ∀ b, lo ≤ b → b < w.heap.size → some b ≠ r → w'.heap[b]? = w.heap[b]?) (hr : r' = r ∨ ∃ k, r' = some k ∧ w.heap.size ≤ k) : RaIn w' lo r' a :=
  ⟨⟨h.rt.name, h.rt.size, h.rt.ins.stay hs fun ad e => hk _ (h.g1 ad e).1 (h.g1 ad e).2.1 (h.g1 ad e).2.2, h.rt.outs.stay hs fun ad e => hk _ (h.g2 ad e).1 (h.g2 ad e).2.1 (h.g2 ad e).2.2,
    h.rt.init.stay hs fun ad e => hk _ (h.g3 ad e).1 (h.g3 ad e).2.1 (h.g3 ad e).2.2, h.rt.code.stay hs fun ad e => hk _ (h.g4 ad e).1 (h.g4 ad e).2.1 (h.g4 ad e).2.2⟩,
   h.g1.stay hs hr, h.g2.stay hs hr, h.g3.stay hs hr, h.g4.stay hs hr⟩
end
theorem RRs.of_own {w : World} {base : Nat} {e : TypeId} {A : Option Addr} {c : Nat} {l : List Ra} (h : w.ownsRow base e 6 (.slice A l.length c) l.length (l.flatMap Ra.cells)) (hl : l.length ≤ 140737488355328) (ha : ∀ a ∈ l, RRt w a.t a.A1 a.c1 a.A2 a.c2 a.A3 a.c3 a.A4 a.c4 a.r) : RRs w A c (l.map Ra.r) := by
  obtain ⟨A', c', e', h1, h2⟩ := own_slice h
  injection e' with _ _ e3
  subst e3
  refine ⟨?_, by rw [List.length_map]; exact h1, h2, by rw [List.length_map]; exact hl⟩
  rcases Nat.eq_zero_or_pos l.length with h0 | h0
  · exact .inl (by rw [List.eq_nil_of_length_eq_zero h0]; rfl)
  · obtain ⟨g, c1, e1, hg, hc⟩ := own_at h h0
    injection e1 with eA _ _
    refine .inr ⟨g, 0, eA, hg, fun i x hx => ?_⟩
    rw [List.getElem?_map] at hx
    obtain ⟨a, hx1, rfl⟩ := Option.map_eq_some_iff.1 hx
    have hget := flat_get Ra.cells 6 Ra.cells_len l i a hx1
    refine ⟨a.t, a.A1, a.c1, a.A2, a.c2, a.A3, a.c3, a.A4, a.c4, ⟨hc _ _ ?_, hc _ _ ?_, hc _ _ ?_, hc _ _ ?_, hc _ _ ?_, hc _ _ ?_⟩, ha a (List.mem_of_getElem? hx1)⟩
    · rw [Nat.zero_add]; exact (hget 0 (by omega)).trans rfl
    · rw [Nat.zero_add]; exact (hget 1 (by omega)).trans rfl
    · rw [Nat.zero_add]; exact (hget 2 (by omega)).trans rfl
    · rw [Nat.zero_add]; exact (hget 3 (by omega)).trans rfl
    · rw [Nat.zero_add]; exact (hget 4 (by omega)).trans rfl
    · rw [Nat.zero_add]; exact (hget 5 (by omega)).trans rfl
theorem Ra.one {a : Ra} : ∀ u ∈ a.cells, u.oneCell' = true := by
  intro u hu
  simp only [Ra.cells, List.mem_cons, List.not_mem_nil, or_false] at hu
  rcases hu with rfl | rfl | rfl | rfl | rfl | rfl <;> rfl

/-! ### the checksum's bytes -/
def num4 (a b c d : UInt8) : Nat := a.toNat + 256 * b.toNat + 65536 * c.toNat + 16777216 * d.toNat
theorem num4_lt (a b c d : UInt8) : num4 a b c d < 4294967296 := by
  have h0 := a.toNat_lt; have h1 := b.toNat_lt; have h2 := c.toNat_lt; have h3 := d.toNat_lt
  unfold num4; omega
theorem dec_mod (a b c d : UInt8) : dec a b c d % 4294967296 = (num4 a b c d : Nat) := by
  have h := num4_lt a b c d
  rw [dec_eq a b c d _ rfl]
  unfold num4 at h
  unfold num4
  split <;> omega
theorem u8_eq (k : Nat) (x : UInt8) (h : k % 256 = x.toNat) : UInt8.ofNat k = x := by
  apply UInt8.toNat.inj
  rw [UInt8.toNat_ofNat']; exact h
theorem enc_num4 (a b c d : UInt8) (n : Int) (h : n % 4294967296 = (num4 a b c d : Nat)) : enc n = [a, b, c, d] := by
  have h0 := a.toNat_lt; have h1 := b.toNat_lt; have h2 := c.toNat_lt; have h3 := d.toNat_lt
  have hu : u32 n = num4 a b c d := by unfold u32; omega
  unfold enc
  rw [hu]
  unfold num4
  rw [u8_eq _ a (by omega), u8_eq _ b (by omega), u8_eq _ c (by omega), u8_eq _ d (by omega)]
theorem num4_enc (n : Int) : num4 (UInt8.ofNat (u32 n)) (UInt8.ofNat (u32 n / 256)) (UInt8.ofNat (u32 n / 65536)) (UInt8.ofNat (u32 n / 16777216)) = u32 n := by
  have h : u32 n < 4294967296 := by unfold u32; omega
  unfold num4
  simp only [UInt8.toNat_ofNat']
  omega
/-- the stored checksum is right exactly if its bytes are -/
theorem sum_iff (s : Nat) (hs : s < 4294967296) (a b c d : UInt8) : dec a b c d % 4294967296 = (s : Nat) ↔ enc s = [a, b, c, d] := by
  rw [dec_mod]
  constructor
  · intro h
    exact enc_num4 a b c d _ (by omega)
  · intro h
    have h2 := num4_enc (s : Int)
    unfold enc at h
    injection h with e0 h; injection h with e1 h; injection h with e2 h; injection h with e3 h
    rw [e0, e1, e2, e3] at h2
    rw [h2, u32i]; omega

/-! ### a round of Get's loop -/
theorem ra_call {V v1 : World} {g lo : Nat} {row : Option Nat} {acc : List Ra} (hacc : ∀ a ∈ acc, RaIn V lo row a) (hf : Fr V v1 g none) (hg : g < lo) (hlo : lo ≤ V.heap.size) (hrow : ∀ k, row = some k → k < V.heap.size)
    {t A1 c1 A2 c2 A3 c3 A4 c4 r} (h : RtnP V v1 t A1 c1 A2 c2 A3 c3 A4 c4 r) : ∀ a ∈ acc ++ [⟨t, A1, c1, A2, c2, A3, c3, A4, c4, r⟩], RaIn v1 lo row a := by
  intro a ha
  rcases List.mem_append.1 ha with ha | ha
  · exact (hacc a ha).stay hf.size (fun b h1 h2 _ => hf.block b h2 (by omega) (by simp)) (.inl rfl)
  · rw [List.mem_singleton] at ha
    subst ha
    have key : ∀ A : Option Addr, (∀ ad, A = some ad → V.heap.size ≤ ad.block ∧ ad.block < v1.heap.size) → Good v1 lo row A := fun A hA ad e => by
      obtain ⟨h1, h2⟩ := hA ad e
      exact ⟨by omega, h2, fun e2 => by have := hrow _ e2.symm; omega⟩
    exact ⟨h.rt, key _ h.b1, key _ h.b2, key _ h.b3, key _ h.b4⟩
theorem ra_app {v1 v6 : World} {lo : Nat} {row row' : Option Nat} {o : Obj} {acc : List Ra} (hacc : ∀ a ∈ acc, RaIn v1 lo row a) (hg : (v1.alloc o).grownBy v6 row) (hr : row' = row ∨ row' = some (v1.alloc o).heap.size) : ∀ a ∈ acc, RaIn v6 lo row' a := by
  intro a ha
  have hs := hg.size
  rw [size_alloc_] at hs
  refine (hacc a ha).stay (by omega) (fun b h1 h2 h3 => (hg.block b (by rw [size_alloc_]; omega) h3).trans (Below.heap_alloc v1 o b h2)) ?_
  rcases hr with hr | hr
  · exact .inl hr
  · rw [size_alloc_] at hr; exact .inr ⟨_, hr, by omega⟩
theorem ra_set {w : World} {lo : Nat} {row : Option Nat} {acc : List Ra} (hacc : ∀ a ∈ acc, RaIn w lo row a) {g : Nat} (hg : g < lo) (i : Nat) (v : Value) : ∀ a ∈ acc, RaIn (w.setCell ⟨g, i, none⟩ v) lo row a := by
  intro a ha
  exact (hacc a ha).stay (by rw [size_set_]; exact Nat.le_refl _) (fun b h1 h2 _ => Below.heap_setCell w ⟨g, i, none⟩ v b (by show b ≠ g; omega)) (.inl rfl)
theorem imgS_eq (s : St) : ∀ en s1 m s2 T, allS s = (en, s1) → manyS s1 = (m, s2) → rtsF m.toNat [] s2 = T → imgS s = (⟨en, T.1⟩, T.2) := by
  intro en s1 m s2 T h0 h1 h2
  unfold imgS
  simp only [h0, h1, h2]
theorem own_after {w w' : World} {base : Nat} {e : TypeId} {size n : Nat} {v : Value} {xs : List Value} (h : w.ownsRow base e size v n xs) (a : After w w') : w'.ownsRow base e size v n xs :=
  h.kept (row := none) ⟨a.below.os, a.below.tape, a.below.output, a.below.size, fun k hk _ => a.below.block k hk⟩ (by cases hv : v.ownBlock with | none => exact .inl rfl | some k => exact .inr (by simp))
end Go.Proofs.YtgmojjdojcmnaaaDoor
