/-
  Contracts: slices.Clone and slices.Equal at []bool.
-/
import Derived.Test.YtglfocldoaigiaaBw1
import Derived.Test.YtglfocldoaigiaaAny
set_option linter.unusedVariables false
namespace Go.Proofs.Ytglfocldoaigiaa
open Go.RowKit Go.BigFrame

/-- a slice's cells lie from block B on -/
def From (B : Nat) (A : Option Addr) : Prop := ∀ ad, A = some ad → B ≤ ad.block
theorem From.of_own {w : World} {B : Nat} {e : TypeId} {size n m c : Nat} {A : Option Addr} {xs : List Value} (h : w.ownsRow B e size (.slice A m c) n xs) : From B A := by
  rintro ad rfl
  exact (h.lt ad.block rfl).1
theorem From.mono {B C : Nat} {A : Option Addr} (h : From B A) (hc : C ≤ B) : From C A := fun ad e => Nat.le_trans hc (h ad e)
theorem RB.set_ {w : World} {A c l} (x : RB w A c l) {B b : Nat} (h : From B A) (hb : b < B) (i : Nat) (v : Value) : RB (w.setCell ⟨b, i, none⟩ v) A c l := by
  refine ⟨⟨x.reads.1, fun hn => ?_⟩, x.le, x.cap, x.len⟩
  obtain ⟨ad, e, hlt, hc⟩ := x.reads.2 hn
  refine ⟨ad, e, by rw [size_set_]; exact hlt, fun j u hu => (World.cell?_setCell_other w _ _ v fun e2 => ?_).trans (hc j u hu)⟩
  have h1 := congrArg Addr.block e2
  rw [block_of_add] at h1
  have h2 := h ad e
  have h3 : b = ad.block := by first | exact h1 | exact h1.symm
  omega
theorem RI.set_ {w : World} {A c l} (x : RI w A c l) {B b : Nat} (h : From B A) (hb : b < B) (i : Nat) (v : Value) : RI (w.setCell ⟨b, i, none⟩ v) A c l := by
  refine ⟨⟨x.reads.1, fun hn => ?_⟩, x.le, x.cap, x.len⟩
  obtain ⟨ad, e, hlt, hc⟩ := x.reads.2 hn
  refine ⟨ad, e, by rw [size_set_]; exact hlt, fun j u hu => (World.cell?_setCell_other w _ _ v fun e2 => ?_).trans (hc j u hu)⟩
  have h1 := congrArg Addr.block e2
  rw [block_of_add] at h1
  have h2 := h ad e
  have h3 : b = ad.block := by first | exact h1 | exact h1.symm
  omega
theorem frame_set {w : World} {b i k : Nat} {v : Value} (h : k ≠ b) : (w.setCell ⟨b, i, none⟩ v).heap[k]? = w.heap[k]? := Below.heap_setCell w ⟨b, i, none⟩ v k h
theorem frame_alloc {w : World} {o : Obj} {k : Nat} (h : k < w.heap.size) : (w.alloc o).heap[k]? = w.heap[k]? := Below.heap_alloc w o k h
theorem frame_more {w y : World} {k : Nat} (h : k < w.heap.size) : (w.more y).heap[k]? = w.heap[k]? := (more_below w y).block k h
theorem frame_drew {w : World} {k : Nat} : w.drew.heap[k]? = w.heap[k]? := rfl
theorem Blk.new1 (w : World) (o : Obj) (t : TypeId) (cs : Array Value) : Blk ((w.alloc o).alloc (.cells cs t)) (w.heap.size + 1) t cs := by
  have := Blk.new (w.alloc o) t cs; rwa [size_alloc_] at this
theorem Blk.set0 {w : World} {g : Nat} {t : TypeId} {a b u : Value} (h : Blk w g t #[a, b]) : Blk (w.setCell ⟨g, 0, none⟩ u) g t #[u, b] := h.set_ 0 u
theorem Blk.set1 {w : World} {g : Nat} {t : TypeId} {a b u : Value} (h : Blk w g t #[a, b]) : Blk (w.setCell ⟨g, 1, none⟩ u) g t #[a, u] := h.set_ 1 u
theorem Blk.far2 {w : World} {g b i : Nat} {t : TypeId} {cs : Array Value} {u : Value} (h : Blk w g t cs) (hp : g ≠ b) : Blk (w.setCell ⟨b, i, none⟩ u) g t cs := h.far hp u
theorem after_after {w0 w1 w2 : World} (a : After w0 w1) (b : After w1 w2) : After w0 w2 := ⟨a.below.trans (b.below.mono a.below.size)⟩
theorem boolInfo : (Try.prog.info? 4).map (fun i => (i.zero, i.size, i.bytes)) = some (some (.bool false), 1, 1) := by kernel_rfl

set_option maxHeartbeats 800000 in
theorem clone_bools {w0 : World} {A c l} (x : RB w0 A c l) (w : World) [After w0 w] (hl : l.length ≤ 1000000) :
    Calls Try.prog 73 #[.slice A l.length c] w fun e w' => ∃ A' c', e = .returned (.slice A' l.length c') ∧ RB w' A' c' l ∧ From w.heap.size A' ∧ ∃ y, w' = w.more y := by
  replace x := x.here w
  obtain ⟨i0, hi0, hz0, hz1, hz2⟩ := info_parts boolInfo
  cases A with
  | none =>
    have h0 : l = [] := by
      cases l with
      | nil => rfl
      | cons a b => obtain ⟨ad, h, _⟩ := x.reads.2 (by simp); cases h
    subst h0
    have hnil := fun (u : World) => Lib.run_eql_slice_nil (P := Try.prog) u 22 4 none 0 c 0 0 Try.underlying22
    go_enter Try.func73, Try.ntmps73
    go_wp2
    go_ret
    exact ⟨none, 0, rfl, ⟨Reads.none_, Nat.le_refl _, by omega, by simp⟩, (fun ad h => by cases h), After.is_more _ _⟩
  | some ad =>
    have hnil := fun (u : World) => Lib.run_eql_slice_nil (P := Try.prog) u 22 4 (some ad) l.length c 0 0 Try.underlying22
    have hr : Reads (w.alloc (.cells #[] 4)) w.heap.size 1 (some ad) l.length (bv l) := x.reads.keep fun p hp => World.cell?_alloc_lt w _ p hp
    have h1 : ∀ u ∈ bv l, u.oneCell' = true := by intro u hu; simp [bv] at hu; rcases hu with ⟨_, rfl⟩ | ⟨_, rfl⟩ <;> rfl
    go_enter Try.func73, Try.ntmps73
    go_wp2_with (at_builtin; refine wpList_append_any _ rfl (.tmp 5) (.tmp 6) 22 rfl w.heap.size 4 i0 _ 1 1 Try.underlying22 hi0 hz0 hz1 hz2 rfl (by omega) (.slice (some ⟨w.heap.size, 0, none⟩) 0 0) 0 [] rfl (World.ownsRow_made _ #[] 0 (Nat.le_refl _) (by decide) (by decide)) w.heap.size (some ad) l.length c (bv l) rfl hr h1 (by unfold maxLen; omega) (by omega) (by simp) ?_; intro v1 w1 hown1 hg1 _)
    go_ret
    have hown2 : w1.ownsRow w.heap.size 4 1 v1 l.length (bv l) := by simpa using hown1
    obtain ⟨A', c', rfl, hx⟩ := RB.of_own hown2 (by omega)
    have haft : After w w1 := ⟨((Below.refl _ _).alloc (Nat.le_refl _) _).grown hg1 (by simp) (fun k hk => by simp [Value.ownBlock] at hk; omega)⟩
    exact ⟨A', c', rfl, hx, From.of_own hown2, After.is_more _ _⟩

theorem take_eq_succ {l l' : List Bool} {k : Nat} (h1 : k < l.length) (h2 : k < l'.length) (e : l.take k = l'.take k) (e2 : l.getD k false = l'.getD k false) : l.take (k + 1) = l'.take (k + 1) := by
  rw [List.take_succ_eq_append_getElem h1, List.take_succ_eq_append_getElem h2, e]
  simp [List.getD_eq_getElem?_getD, h1, h2] at e2
  rw [e2]

set_option maxHeartbeats 800000 in
theorem equal_bools {w0 : World} {A c l A' c' l'} (x : RB w0 A c l) (x' : RB w0 A' c' l') (w : World) [After w0 w] :
    Calls Try.prog 67 #[.slice A l.length c, .slice A' l'.length c'] w fun e w' => e = .returned (.bool (l == l')) ∧ ∃ y, w' = w.more y := by
  replace x := x.here w
  replace x' := x'.here w
  have b1 := x.len; have b2 := x'.len
  by_cases hl : l.length = l'.length
  · have hle := hl
    have t1 : (((l.length : Nat) : Int) != ((l'.length : Nat) : Int)) = false := by rw [bne_eq_false_iff_eq]; omega
    replace hl := Lib.hid hl
    clear hle
    go_enter Try.func67, Try.ntmps67
    go_wp2
    go_loopw [13] (fun i wr => ∃ k : Nat, k ≤ l.length ∧ i = .int .i64 k ∧ Hid (l.take k = l'.take k) ∧ After w wr) (fun i _ => l.length - (intOf i).toNat)
    case atStart => exact ⟨0, by omega, rfl, rfl, inferInstance⟩
    case round =>
      obtain ⟨k, hk, rfl, HT, haft⟩ := hrel
      obtain ⟨z, rfl⟩ := After.is_more w wr
      by_cases hlt : k < l.length
      · have hlt' : k < l'.length := by have := hl.out; omega
        obtain ⟨ad, b, rfl, hbk, hc, HB⟩ := x.bit hlt
        obtain ⟨ad', b', rfl, hbk', hc', HB'⟩ := x'.bit hlt'
        have i1 : (0 : Int) ≤ (k : Int) := by omega
        have i2 : (k : Int) < (l.length : Int) := by omega
        have i3 : (k : Int) < (l'.length : Int) := by omega
        by_cases hbb : b = b'
        · subst hbb
          have t2 : (b != b) = false := by simp
          go_wp2
          go_quiet (fail)
          go_wp2
          go_roundw
          case rel => exact ⟨k + 1, by omega, by go_num, take_eq_succ hlt hlt' HT.out (HB.out.trans HB'.out.symm), inferInstance⟩
          case measure => simp [intOf]; omega
        · have t2 : (b == b') = false := by simpa using hbb
          replace hbb := Lib.hid hbb
          go_wp2
          go_quiet (fail)
          go_wp2
          go_ret
          refine ⟨ret_bool ?_, After.is_more _ _⟩
          symm
          rw [beq_eq_false_iff_ne]
          intro e
          rw [e] at HB
          exact hbb.out (HB.out.symm.trans HB'.out)
      · have : k = l.length := by omega
        subst this
        go_wp2
        go_ret
        refine ⟨ret_bool ?_, After.is_more _ _⟩
        have := HT.out
        rw [List.take_length, hl.out, List.take_length] at this
        rw [this]; simp
  · have t1 : (((l.length : Nat) : Int) != ((l'.length : Nat) : Int)) = true := by rw [bne_iff_ne]; omega
    replace hl := Lib.hid hl
    go_enter Try.func67, Try.ntmps67
    go_wp2
    go_ret
    refine ⟨ret_bool ?_, After.is_more _ _⟩
    symm
    rw [beq_eq_false_iff_ne]
    intro e
    exact hl.out (by rw [e])
end Go.Proofs.Ytglfocldoaigiaa
