/-
  Contracts: the program's Size, Count, Stateless, Check: loops over Each.
-/
import Derived.Test.YtdghfhnkacfahaaEEach
set_option linter.unusedVariables false
set_option linter.unusedSimpArgs false
namespace Go.Proofs.Ytdghfhnkacfahaa
open Go.RowKit Go.Shelf
attribute [local go_sem] Oper.semAt_some

set_option maxRecDepth 100000 in
set_option maxHeartbeats 4000000 in
theorem size_in (F : Fence) (hd : F.depth = none) (n : Nat) (h1 : F.fn 36) (ha : F.fn 16) (hc : F.fn 39) (hf : F.fn 40) (hro : F.round = none) (hn : 3 ≤ n)
    {k o t v : Int} {s : ByteArray} {A : Option Addr} {c : Nat} {xs : List Tx} {w0 : World} (x : RX w0 (.mk k o t v s A c xs)) (w : World) (aft : After w0 w) :
    CallsIn F n Try.prog 36 #[.agg #[.int .i64 k, .int .i64 o, .int .i64 t, .int .i64 v, .string s, .slice A xs.length c]] w fun e w' => e = .returned (.int .i64 (szW (Tx.mk k o t v s A c xs))) ∧ After w w' := by
  have hn1 : 1 ≤ n := by omega
  have hdd : ∀ i : Nat, (F.depth.isSome = true → 1 ≤ i) := fun i h => by rw [hd] at h; cases h
  refine callsIn_of_wp_marks Try.func36 rfl h1 ?_ hro
  simp only [Try.ntmps36, List.size_toArray, List.length_cons, List.length_nil, Nat.reduceAdd, Nat.reduceSub, Array.replicate_succ, Array.replicate_zero, List.push_toArray, List.append_toArray, List.nil_append, List.cons_append]
  gi_wp2_with fail
  refine (eachv_in F (n - 1) ha hro k o t v s A c xs _).mono ?_
  rintro e w' ⟨rfl, rfl⟩
  gi_wp2_with fail
  obtain ⟨N, hNs⟩ : ∃ N, (Tx.mk k o t v s A c xs).size = N := ⟨_, rfl⟩
  obtain ⟨U, hU, hUs, bU, bE, kU⟩ : ∃ U, (((w.alloc (.cells #[.int .i64 k, .int .i64 o, .int .i64 t, .int .i64 v, .string s, .slice A xs.length c] 25)).alloc (.cells #[.int .i64 0] 3)).alloc (.cells #[.int .i64 k, .int .i64 o, .int .i64 t, .int .i64 v, .string s, .slice A xs.length c] 25)) = U ∧ U.heap.size = w.heap.size + 3 ∧ Blk U (w.heap.size + 1) 3 #[.int .i64 0] ∧ Blk U (w.heap.size + 2) 25 #[.int .i64 k, .int .i64 o, .int .i64 t, .int .i64 v, .string s, .slice A xs.length c] ∧ After w U := by
    refine ⟨_, rfl, by simp, (Blk.new1 w _ _ _).alloc _, ?_, inferInstance⟩
    have := Blk.new1 (w.alloc (.cells #[.int .i64 k, .int .i64 o, .int .i64 t, .int .i64 v, .string s, .slice A xs.length c] 25)) (.cells #[.int .i64 0] 3) 25 #[.int .i64 k, .int .i64 o, .int .i64 t, .int .i64 v, .string s, .slice A xs.length c]
    rw [size_alloc_] at this; exact this
  have hseq := each_stops F hd (n - 1) hc hf hro (w.heap.size + 2) (w.heap.size + 2) w0 k o t v s A c xs x U (after_after aft kU) (by omega) bE
  have hn0 := aft.below.size
  rw [hNs] at hseq
  rw [hU]
  clear hU
  refine wpIn_rangeFunc_ownF hro hn1 (gf := 39) (lb := #[.pointer (some ⟨w.heap.size + 2, 0, none⟩)]) rfl hc (enters_of Try.func39 (by kernel_rfl) rfl) hseq KpE.trans (KpE.turn (by omega)) (Below.refl _ _) (fun _ => rfl)
    (fun pre W => Blk W (w.heap.size + 1) 3 #[.int .i64 (szN pre.length)] ∧ Below w.heap.size w W) (fun _ _ _ => False)
    (fun s A B row hs hg hr => ⟨hs.1.grown hg (fun e => by have := (hr _ e.symm).1; omega), hs.2.grown hg hs.2.size (fun k e => by have := (hr _ e).1; omega)⟩)
    (fun _ _ _ _ _ hs _ _ => hs) ⟨by rw [List.length_nil, szN_zero]; exact bU, kU.below⟩
    (fun x => { tmps := #[.agg #[.int .i64 k, .int .i64 o, .int .i64 t, .int .i64 v, .string s, .slice A xs.length c], .pointer (some ⟨w.heap.size, 0, none⟩), .int .i64 0, .pointer (some ⟨w.heap.size + 1, 0, none⟩), .agg #[.int .i64 k, .int .i64 o, .int .i64 t, .int .i64 v, .string s, .slice A xs.length c], .func (.func 39) #[] #[.pointer (some ⟨w.heap.size + 2, 0, none⟩)], x.1.val, undef, undef, undef], defers := [] }) ?assign ?body ?done ?stop
  case assign =>
    intro l x W K hK
    gi_wp2
    exact hK
  case body =>
    rintro l pre x W ⟨hb, hB⟩ hlt
    obtain ⟨z, hz⟩ : ∃ z, szN pre.length = z := ⟨_, rfl⟩
    rw [hz] at hb
    have c0 : W.cell? ⟨w.heap.size + 1, 0, none⟩ = some (.int .i64 z) := by rw [hb.cell]; rfl
    have f0 := hb.frozen 0
    gi_wp2
    refine ⟨KeepsOthers.setCell _ _ _, KpE.set (by omega) (by omega) 0 _, ?_, hB.setCell (p := ⟨w.heap.size + 1, 0, none⟩) (by show w.heap.size ≤ w.heap.size + 1; omega) _⟩
    have := hb.set_ 0 (.int .i64 (wrap64 (z + 1)))
    rw [List.length_append, List.length_singleton, ← szN_succ, hz]
    simpa using this
  case done =>
    rintro D ys W hD hys ⟨hb, hB⟩ hK
    have hyl : ys.length = N := by have := congrArg List.length hys; rw [List.length_map, Tx.list_length, hNs] at this; exact this
    rw [hyl] at hb
    have c0 : W.cell? ⟨w.heap.size + 1, 0, none⟩ = some (.int .i64 (szN N)) := by rw [hb.cell]; rfl
    gi_wp2
    refine ⟨by simp, .inl ⟨_, _, rfl, run_takeDeferred hK, ?_⟩⟩
    exact ⟨_, results_tmp rfl _ _ _, by unfold szW; rw [hNs]; rfl, ⟨hB.trans (belowK_b (w := w) (Nat.le_refl _) W D _ _ (by omega) hK rfl rfl)⟩⟩
  case stop =>
    rintro D c pre W _ _ h _
    exact h.elim
theorem size_any {k o t v : Int} {s : ByteArray} {A : Option Addr} {c : Nat} {xs : List Tx} {w0 : World} (x : RX w0 (.mk k o t v s A c xs)) (w : World) (aft : After w0 w) :
    Calls Try.prog 36 #[.agg #[.int .i64 k, .int .i64 o, .int .i64 t, .int .i64 v, .string s, .slice A xs.length c]] w fun e w' => e = .returned (.int .i64 (szW (Tx.mk k o t v s A c xs))) ∧ After w w' :=
  (callsIn_wide (n := 3)).1 (size_in _ rfl 3 trivial trivial trivial trivial rfl (by decide) x w aft)
end Go.Proofs.Ytdghfhnkacfahaa
