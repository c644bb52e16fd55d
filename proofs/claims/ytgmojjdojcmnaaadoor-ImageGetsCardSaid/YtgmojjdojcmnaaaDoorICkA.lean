/-
  Contracts: asm's known, fields, operands, within, called.
-/
import Derived.Test.YtgmojjdojcmnaaaDoorIGet
set_option linter.unusedVariables false
set_option linter.unusedSimpArgs false
namespace Go.Proofs.YtgmojjdojcmnaaaDoor
open Go.RowKit Go.BigFrame

theorem after_put6 {w0 w : World} (h : After w0 w) {g : Nat} (hg : w0.heap.size ≤ g) (v0 v1 v2 v3 v4 v5 : Value) : After w0 (put6 w g v0 v1 v2 v3 v4 v5) := (fr_put6 w g v0 v1 v2 v3 v4 v5).aft h hg

set_option maxRecDepth 100000 in
set_option maxHeartbeats 1600000 in
theorem known_1 (w0 w : World) (hO : Ops w0) (hw : After w0 w) : Calls Tryd.prog 59 #[.int .i64 1] w fun e w' => e = .returned (.tuple #[.agg #[.string ⟨#[108, 111, 97, 100]⟩, .int .i64 1, .int .i64 3, .int .i64 0, .int .i64 0, .int .i64 0], .bool true]) ∧ After w w' := by
  have hw' := hO.here w
  have hl : Le 1 w := ⟨hw'.lt⟩
  have q0 : w.cell? ⟨0, 6, none⟩ = some (.string ⟨#[108, 111, 97, 100]⟩) := hw'.cell 6 _ rfl
  have q1 : w.cell? ⟨0, 7, none⟩ = some (.int .i64 1) := hw'.cell 7 _ rfl
  have q2 : w.cell? ⟨0, 8, none⟩ = some (.int .i64 3) := hw'.cell 8 _ rfl
  have q3 : w.cell? ⟨0, 9, none⟩ = some (.int .i64 0) := hw'.cell 9 _ rfl
  have q4 : w.cell? ⟨0, 10, none⟩ = some (.int .i64 0) := hw'.cell 10 _ rfl
  have q5 : w.cell? ⟨0, 11, none⟩ = some (.int .i64 0) := hw'.cell 11 _ rfl
  have P6 := Lib.hid (put6_blk (Blk.new w 87 #[.string ⟨#[]⟩, .int .i64 0, .int .i64 0, .int .i64 0, .int .i64 0, .int .i64 0]) (.string ⟨#[108, 111, 97, 100]⟩) (.int .i64 1) (.int .i64 3) (.int .i64 0) (.int .i64 0) (.int .i64 0))
  have kk : ∀ j v, (#[.string ⟨#[108, 111, 97, 100]⟩, .int .i64 1, .int .i64 3, .int .i64 0, .int .i64 0, .int .i64 0] : Array Value)[j]? = some v → (put6 (w.alloc (.cells #[.string ⟨#[]⟩, .int .i64 0, .int .i64 0, .int .i64 0, .int .i64 0, .int .i64 0] 87)) w.heap.size (.string ⟨#[108, 111, 97, 100]⟩) (.int .i64 1) (.int .i64 3) (.int .i64 0) (.int .i64 0) (.int .i64 0)).cell? ⟨w.heap.size, j, none⟩ = some v := fun j v hv => by rw [P6.out.cell]; exact hv
  have m0 := kk 0 _ rfl
  have m1 := kk 1 _ rfl
  have m2 := kk 2 _ rfl
  have m3 := kk 3 _ rfl
  have m4 := kk 4 _ rfl
  have m5 := kk 5 _ rfl
  clear kk
  simp only [put6] at m0 m1 m2 m3 m4 m5
  go_enter Tryd.func59, Tryd.ntmps59
  go_wp2_with fail
  refine bodyPost_ret (v := .tuple #[.agg #[.string ⟨#[108, 111, 97, 100]⟩, .int .i64 1, .int .i64 3, .int .i64 0, .int .i64 0, .int .i64 0], .bool true]) (by simp [results, Tryd.results59, go_sem, m0, m1, m2, m3, m4, m5]) rfl ⟨rfl, inferInstance⟩

set_option maxRecDepth 100000 in
set_option maxHeartbeats 1600000 in
theorem known_2 (w0 w : World) (hO : Ops w0) (hw : After w0 w) : Calls Tryd.prog 59 #[.int .i64 2] w fun e w' => e = .returned (.tuple #[.agg #[.string ⟨#[109, 111, 118, 101]⟩, .int .i64 1, .int .i64 1, .int .i64 0, .int .i64 0, .int .i64 0], .bool true]) ∧ After w w' := by
  have hw' := hO.here w
  have hl : Le 1 w := ⟨hw'.lt⟩
  have q0 : w.cell? ⟨0, 12, none⟩ = some (.string ⟨#[109, 111, 118, 101]⟩) := hw'.cell 12 _ rfl
  have q1 : w.cell? ⟨0, 13, none⟩ = some (.int .i64 1) := hw'.cell 13 _ rfl
  have q2 : w.cell? ⟨0, 14, none⟩ = some (.int .i64 1) := hw'.cell 14 _ rfl
  have q3 : w.cell? ⟨0, 15, none⟩ = some (.int .i64 0) := hw'.cell 15 _ rfl
  have q4 : w.cell? ⟨0, 16, none⟩ = some (.int .i64 0) := hw'.cell 16 _ rfl
  have q5 : w.cell? ⟨0, 17, none⟩ = some (.int .i64 0) := hw'.cell 17 _ rfl
  have P6 := Lib.hid (put6_blk (Blk.new w 87 #[.string ⟨#[]⟩, .int .i64 0, .int .i64 0, .int .i64 0, .int .i64 0, .int .i64 0]) (.string ⟨#[109, 111, 118, 101]⟩) (.int .i64 1) (.int .i64 1) (.int .i64 0) (.int .i64 0) (.int .i64 0))
  have kk : ∀ j v, (#[.string ⟨#[109, 111, 118, 101]⟩, .int .i64 1, .int .i64 1, .int .i64 0, .int .i64 0, .int .i64 0] : Array Value)[j]? = some v → (put6 (w.alloc (.cells #[.string ⟨#[]⟩, .int .i64 0, .int .i64 0, .int .i64 0, .int .i64 0, .int .i64 0] 87)) w.heap.size (.string ⟨#[109, 111, 118, 101]⟩) (.int .i64 1) (.int .i64 1) (.int .i64 0) (.int .i64 0) (.int .i64 0)).cell? ⟨w.heap.size, j, none⟩ = some v := fun j v hv => by rw [P6.out.cell]; exact hv
  have m0 := kk 0 _ rfl
  have m1 := kk 1 _ rfl
  have m2 := kk 2 _ rfl
  have m3 := kk 3 _ rfl
  have m4 := kk 4 _ rfl
  have m5 := kk 5 _ rfl
  clear kk
  simp only [put6] at m0 m1 m2 m3 m4 m5
  go_enter Tryd.func59, Tryd.ntmps59
  go_wp2_with fail
  refine bodyPost_ret (v := .tuple #[.agg #[.string ⟨#[109, 111, 118, 101]⟩, .int .i64 1, .int .i64 1, .int .i64 0, .int .i64 0, .int .i64 0], .bool true]) (by simp [results, Tryd.results59, go_sem, m0, m1, m2, m3, m4, m5]) rfl ⟨rfl, inferInstance⟩

set_option maxRecDepth 100000 in
set_option maxHeartbeats 1600000 in
theorem known_3 (w0 w : World) (hO : Ops w0) (hw : After w0 w) : Calls Tryd.prog 59 #[.int .i64 3] w fun e w' => e = .returned (.tuple #[.agg #[.string ⟨#[114, 101, 97, 100]⟩, .int .i64 1, .int .i64 2, .int .i64 0, .int .i64 0, .int .i64 0], .bool true]) ∧ After w w' := by
  have hw' := hO.here w
  have hl : Le 1 w := ⟨hw'.lt⟩
  have q0 : w.cell? ⟨0, 18, none⟩ = some (.string ⟨#[114, 101, 97, 100]⟩) := hw'.cell 18 _ rfl
  have q1 : w.cell? ⟨0, 19, none⟩ = some (.int .i64 1) := hw'.cell 19 _ rfl
  have q2 : w.cell? ⟨0, 20, none⟩ = some (.int .i64 2) := hw'.cell 20 _ rfl
  have q3 : w.cell? ⟨0, 21, none⟩ = some (.int .i64 0) := hw'.cell 21 _ rfl
  have q4 : w.cell? ⟨0, 22, none⟩ = some (.int .i64 0) := hw'.cell 22 _ rfl
  have q5 : w.cell? ⟨0, 23, none⟩ = some (.int .i64 0) := hw'.cell 23 _ rfl
  have P6 := Lib.hid (put6_blk (Blk.new w 87 #[.string ⟨#[]⟩, .int .i64 0, .int .i64 0, .int .i64 0, .int .i64 0, .int .i64 0]) (.string ⟨#[114, 101, 97, 100]⟩) (.int .i64 1) (.int .i64 2) (.int .i64 0) (.int .i64 0) (.int .i64 0))
  have kk : ∀ j v, (#[.string ⟨#[114, 101, 97, 100]⟩, .int .i64 1, .int .i64 2, .int .i64 0, .int .i64 0, .int .i64 0] : Array Value)[j]? = some v → (put6 (w.alloc (.cells #[.string ⟨#[]⟩, .int .i64 0, .int .i64 0, .int .i64 0, .int .i64 0, .int .i64 0] 87)) w.heap.size (.string ⟨#[114, 101, 97, 100]⟩) (.int .i64 1) (.int .i64 2) (.int .i64 0) (.int .i64 0) (.int .i64 0)).cell? ⟨w.heap.size, j, none⟩ = some v := fun j v hv => by rw [P6.out.cell]; exact hv
  have m0 := kk 0 _ rfl
  have m1 := kk 1 _ rfl
  have m2 := kk 2 _ rfl
  have m3 := kk 3 _ rfl
  have m4 := kk 4 _ rfl
  have m5 := kk 5 _ rfl
  clear kk
  simp only [put6] at m0 m1 m2 m3 m4 m5
  go_enter Tryd.func59, Tryd.ntmps59
  go_wp2_with fail
  refine bodyPost_ret (v := .tuple #[.agg #[.string ⟨#[114, 101, 97, 100]⟩, .int .i64 1, .int .i64 2, .int .i64 0, .int .i64 0, .int .i64 0], .bool true]) (by simp [results, Tryd.results59, go_sem, m0, m1, m2, m3, m4, m5]) rfl ⟨rfl, inferInstance⟩

set_option maxRecDepth 100000 in
set_option maxHeartbeats 1600000 in
theorem known_4 (w0 w : World) (hO : Ops w0) (hw : After w0 w) : Calls Tryd.prog 59 #[.int .i64 4] w fun e w' => e = .returned (.tuple #[.agg #[.string ⟨#[119, 114, 105, 116, 101]⟩, .int .i64 2, .int .i64 1, .int .i64 0, .int .i64 0, .int .i64 0], .bool true]) ∧ After w w' := by
  have hw' := hO.here w
  have hl : Le 1 w := ⟨hw'.lt⟩
  have q0 : w.cell? ⟨0, 24, none⟩ = some (.string ⟨#[119, 114, 105, 116, 101]⟩) := hw'.cell 24 _ rfl
  have q1 : w.cell? ⟨0, 25, none⟩ = some (.int .i64 2) := hw'.cell 25 _ rfl
  have q2 : w.cell? ⟨0, 26, none⟩ = some (.int .i64 1) := hw'.cell 26 _ rfl
  have q3 : w.cell? ⟨0, 27, none⟩ = some (.int .i64 0) := hw'.cell 27 _ rfl
  have q4 : w.cell? ⟨0, 28, none⟩ = some (.int .i64 0) := hw'.cell 28 _ rfl
  have q5 : w.cell? ⟨0, 29, none⟩ = some (.int .i64 0) := hw'.cell 29 _ rfl
  have P6 := Lib.hid (put6_blk (Blk.new w 87 #[.string ⟨#[]⟩, .int .i64 0, .int .i64 0, .int .i64 0, .int .i64 0, .int .i64 0]) (.string ⟨#[119, 114, 105, 116, 101]⟩) (.int .i64 2) (.int .i64 1) (.int .i64 0) (.int .i64 0) (.int .i64 0))
  have kk : ∀ j v, (#[.string ⟨#[119, 114, 105, 116, 101]⟩, .int .i64 2, .int .i64 1, .int .i64 0, .int .i64 0, .int .i64 0] : Array Value)[j]? = some v → (put6 (w.alloc (.cells #[.string ⟨#[]⟩, .int .i64 0, .int .i64 0, .int .i64 0, .int .i64 0, .int .i64 0] 87)) w.heap.size (.string ⟨#[119, 114, 105, 116, 101]⟩) (.int .i64 2) (.int .i64 1) (.int .i64 0) (.int .i64 0) (.int .i64 0)).cell? ⟨w.heap.size, j, none⟩ = some v := fun j v hv => by rw [P6.out.cell]; exact hv
  have m0 := kk 0 _ rfl
  have m1 := kk 1 _ rfl
  have m2 := kk 2 _ rfl
  have m3 := kk 3 _ rfl
  have m4 := kk 4 _ rfl
  have m5 := kk 5 _ rfl
  clear kk
  simp only [put6] at m0 m1 m2 m3 m4 m5
  go_enter Tryd.func59, Tryd.ntmps59
  go_wp2_with fail
  refine bodyPost_ret (v := .tuple #[.agg #[.string ⟨#[119, 114, 105, 116, 101]⟩, .int .i64 2, .int .i64 1, .int .i64 0, .int .i64 0, .int .i64 0], .bool true]) (by simp [results, Tryd.results59, go_sem, m0, m1, m2, m3, m4, m5]) rfl ⟨rfl, inferInstance⟩

set_option maxRecDepth 100000 in
set_option maxHeartbeats 1600000 in
theorem known_5 (w0 w : World) (hO : Ops w0) (hw : After w0 w) : Calls Tryd.prog 59 #[.int .i64 5] w fun e w' => e = .returned (.tuple #[.agg #[.string ⟨#[117, 110, 97, 114, 121]⟩, .int .i64 1, .int .i64 1, .int .i64 5, .int .i64 0, .int .i64 1], .bool true]) ∧ After w w' := by
  have hw' := hO.here w
  have hl : Le 1 w := ⟨hw'.lt⟩
  have q0 : w.cell? ⟨0, 30, none⟩ = some (.string ⟨#[117, 110, 97, 114, 121]⟩) := hw'.cell 30 _ rfl
  have q1 : w.cell? ⟨0, 31, none⟩ = some (.int .i64 1) := hw'.cell 31 _ rfl
  have q2 : w.cell? ⟨0, 32, none⟩ = some (.int .i64 1) := hw'.cell 32 _ rfl
  have q3 : w.cell? ⟨0, 33, none⟩ = some (.int .i64 5) := hw'.cell 33 _ rfl
  have q4 : w.cell? ⟨0, 34, none⟩ = some (.int .i64 0) := hw'.cell 34 _ rfl
  have q5 : w.cell? ⟨0, 35, none⟩ = some (.int .i64 1) := hw'.cell 35 _ rfl
  have P6 := Lib.hid (put6_blk (Blk.new w 87 #[.string ⟨#[]⟩, .int .i64 0, .int .i64 0, .int .i64 0, .int .i64 0, .int .i64 0]) (.string ⟨#[117, 110, 97, 114, 121]⟩) (.int .i64 1) (.int .i64 1) (.int .i64 5) (.int .i64 0) (.int .i64 1))
  have kk : ∀ j v, (#[.string ⟨#[117, 110, 97, 114, 121]⟩, .int .i64 1, .int .i64 1, .int .i64 5, .int .i64 0, .int .i64 1] : Array Value)[j]? = some v → (put6 (w.alloc (.cells #[.string ⟨#[]⟩, .int .i64 0, .int .i64 0, .int .i64 0, .int .i64 0, .int .i64 0] 87)) w.heap.size (.string ⟨#[117, 110, 97, 114, 121]⟩) (.int .i64 1) (.int .i64 1) (.int .i64 5) (.int .i64 0) (.int .i64 1)).cell? ⟨w.heap.size, j, none⟩ = some v := fun j v hv => by rw [P6.out.cell]; exact hv
  have m0 := kk 0 _ rfl
  have m1 := kk 1 _ rfl
  have m2 := kk 2 _ rfl
  have m3 := kk 3 _ rfl
  have m4 := kk 4 _ rfl
  have m5 := kk 5 _ rfl
  clear kk
  simp only [put6] at m0 m1 m2 m3 m4 m5
  go_enter Tryd.func59, Tryd.ntmps59
  go_wp2_with fail
  refine bodyPost_ret (v := .tuple #[.agg #[.string ⟨#[117, 110, 97, 114, 121]⟩, .int .i64 1, .int .i64 1, .int .i64 5, .int .i64 0, .int .i64 1], .bool true]) (by simp [results, Tryd.results59, go_sem, m0, m1, m2, m3, m4, m5]) rfl ⟨rfl, inferInstance⟩

set_option maxRecDepth 100000 in
set_option maxHeartbeats 1600000 in
theorem known_6 (w0 w : World) (hO : Ops w0) (hw : After w0 w) : Calls Tryd.prog 59 #[.int .i64 6] w fun e w' => e = .returned (.tuple #[.agg #[.string ⟨#[97, 112, 112, 108, 121]⟩, .int .i64 1, .int .i64 1, .int .i64 1, .int .i64 5, .int .i64 2], .bool true]) ∧ After w w' := by
  have hw' := hO.here w
  have hl : Le 1 w := ⟨hw'.lt⟩
  have q0 : w.cell? ⟨0, 36, none⟩ = some (.string ⟨#[97, 112, 112, 108, 121]⟩) := hw'.cell 36 _ rfl
  have q1 : w.cell? ⟨0, 37, none⟩ = some (.int .i64 1) := hw'.cell 37 _ rfl
  have q2 : w.cell? ⟨0, 38, none⟩ = some (.int .i64 1) := hw'.cell 38 _ rfl
  have q3 : w.cell? ⟨0, 39, none⟩ = some (.int .i64 1) := hw'.cell 39 _ rfl
  have q4 : w.cell? ⟨0, 40, none⟩ = some (.int .i64 5) := hw'.cell 40 _ rfl
  have q5 : w.cell? ⟨0, 41, none⟩ = some (.int .i64 2) := hw'.cell 41 _ rfl
  have P6 := Lib.hid (put6_blk (Blk.new w 87 #[.string ⟨#[]⟩, .int .i64 0, .int .i64 0, .int .i64 0, .int .i64 0, .int .i64 0]) (.string ⟨#[97, 112, 112, 108, 121]⟩) (.int .i64 1) (.int .i64 1) (.int .i64 1) (.int .i64 5) (.int .i64 2))
  have kk : ∀ j v, (#[.string ⟨#[97, 112, 112, 108, 121]⟩, .int .i64 1, .int .i64 1, .int .i64 1, .int .i64 5, .int .i64 2] : Array Value)[j]? = some v → (put6 (w.alloc (.cells #[.string ⟨#[]⟩, .int .i64 0, .int .i64 0, .int .i64 0, .int .i64 0, .int .i64 0] 87)) w.heap.size (.string ⟨#[97, 112, 112, 108, 121]⟩) (.int .i64 1) (.int .i64 1) (.int .i64 1) (.int .i64 5) (.int .i64 2)).cell? ⟨w.heap.size, j, none⟩ = some v := fun j v hv => by rw [P6.out.cell]; exact hv
  have m0 := kk 0 _ rfl
  have m1 := kk 1 _ rfl
  have m2 := kk 2 _ rfl
  have m3 := kk 3 _ rfl
  have m4 := kk 4 _ rfl
  have m5 := kk 5 _ rfl
  clear kk
  simp only [put6] at m0 m1 m2 m3 m4 m5
  go_enter Tryd.func59, Tryd.ntmps59
  go_wp2_with fail
  refine bodyPost_ret (v := .tuple #[.agg #[.string ⟨#[97, 112, 112, 108, 121]⟩, .int .i64 1, .int .i64 1, .int .i64 1, .int .i64 5, .int .i64 2], .bool true]) (by simp [results, Tryd.results59, go_sem, m0, m1, m2, m3, m4, m5]) rfl ⟨rfl, inferInstance⟩

set_option maxRecDepth 100000 in
set_option maxHeartbeats 1600000 in
theorem known_7 (w0 w : World) (hO : Ops w0) (hw : After w0 w) : Calls Tryd.prog 59 #[.int .i64 7] w fun e w' => e = .returned (.tuple #[.agg #[.string ⟨#[106, 117, 109, 112]⟩, .int .i64 0, .int .i64 4, .int .i64 0, .int .i64 0, .int .i64 0], .bool true]) ∧ After w w' := by
  have hw' := hO.here w
  have hl : Le 1 w := ⟨hw'.lt⟩
  have q0 : w.cell? ⟨0, 42, none⟩ = some (.string ⟨#[106, 117, 109, 112]⟩) := hw'.cell 42 _ rfl
  have q1 : w.cell? ⟨0, 43, none⟩ = some (.int .i64 0) := hw'.cell 43 _ rfl
  have q2 : w.cell? ⟨0, 44, none⟩ = some (.int .i64 4) := hw'.cell 44 _ rfl
  have q3 : w.cell? ⟨0, 45, none⟩ = some (.int .i64 0) := hw'.cell 45 _ rfl
  have q4 : w.cell? ⟨0, 46, none⟩ = some (.int .i64 0) := hw'.cell 46 _ rfl
  have q5 : w.cell? ⟨0, 47, none⟩ = some (.int .i64 0) := hw'.cell 47 _ rfl
  have P6 := Lib.hid (put6_blk (Blk.new w 87 #[.string ⟨#[]⟩, .int .i64 0, .int .i64 0, .int .i64 0, .int .i64 0, .int .i64 0]) (.string ⟨#[106, 117, 109, 112]⟩) (.int .i64 0) (.int .i64 4) (.int .i64 0) (.int .i64 0) (.int .i64 0))
  have kk : ∀ j v, (#[.string ⟨#[106, 117, 109, 112]⟩, .int .i64 0, .int .i64 4, .int .i64 0, .int .i64 0, .int .i64 0] : Array Value)[j]? = some v → (put6 (w.alloc (.cells #[.string ⟨#[]⟩, .int .i64 0, .int .i64 0, .int .i64 0, .int .i64 0, .int .i64 0] 87)) w.heap.size (.string ⟨#[106, 117, 109, 112]⟩) (.int .i64 0) (.int .i64 4) (.int .i64 0) (.int .i64 0) (.int .i64 0)).cell? ⟨w.heap.size, j, none⟩ = some v := fun j v hv => by rw [P6.out.cell]; exact hv
  have m0 := kk 0 _ rfl
  have m1 := kk 1 _ rfl
  have m2 := kk 2 _ rfl
  have m3 := kk 3 _ rfl
  have m4 := kk 4 _ rfl
  have m5 := kk 5 _ rfl
  clear kk
  simp only [put6] at m0 m1 m2 m3 m4 m5
  go_enter Tryd.func59, Tryd.ntmps59
  go_wp2_with fail
  refine bodyPost_ret (v := .tuple #[.agg #[.string ⟨#[106, 117, 109, 112]⟩, .int .i64 0, .int .i64 4, .int .i64 0, .int .i64 0, .int .i64 0], .bool true]) (by simp [results, Tryd.results59, go_sem, m0, m1, m2, m3, m4, m5]) rfl ⟨rfl, inferInstance⟩

set_option maxRecDepth 100000 in
set_option maxHeartbeats 1600000 in
theorem known_8 (w0 w : World) (hO : Ops w0) (hw : After w0 w) : Calls Tryd.prog 59 #[.int .i64 8] w fun e w' => e = .returned (.tuple #[.agg #[.string ⟨#[122, 101, 114, 111]⟩, .int .i64 1, .int .i64 4, .int .i64 0, .int .i64 0, .int .i64 0], .bool true]) ∧ After w w' := by
  have hw' := hO.here w
  have hl : Le 1 w := ⟨hw'.lt⟩
  have q0 : w.cell? ⟨0, 48, none⟩ = some (.string ⟨#[122, 101, 114, 111]⟩) := hw'.cell 48 _ rfl
  have q1 : w.cell? ⟨0, 49, none⟩ = some (.int .i64 1) := hw'.cell 49 _ rfl
  have q2 : w.cell? ⟨0, 50, none⟩ = some (.int .i64 4) := hw'.cell 50 _ rfl
  have q3 : w.cell? ⟨0, 51, none⟩ = some (.int .i64 0) := hw'.cell 51 _ rfl
  have q4 : w.cell? ⟨0, 52, none⟩ = some (.int .i64 0) := hw'.cell 52 _ rfl
  have q5 : w.cell? ⟨0, 53, none⟩ = some (.int .i64 0) := hw'.cell 53 _ rfl
  have P6 := Lib.hid (put6_blk (Blk.new w 87 #[.string ⟨#[]⟩, .int .i64 0, .int .i64 0, .int .i64 0, .int .i64 0, .int .i64 0]) (.string ⟨#[122, 101, 114, 111]⟩) (.int .i64 1) (.int .i64 4) (.int .i64 0) (.int .i64 0) (.int .i64 0))
  have kk : ∀ j v, (#[.string ⟨#[122, 101, 114, 111]⟩, .int .i64 1, .int .i64 4, .int .i64 0, .int .i64 0, .int .i64 0] : Array Value)[j]? = some v → (put6 (w.alloc (.cells #[.string ⟨#[]⟩, .int .i64 0, .int .i64 0, .int .i64 0, .int .i64 0, .int .i64 0] 87)) w.heap.size (.string ⟨#[122, 101, 114, 111]⟩) (.int .i64 1) (.int .i64 4) (.int .i64 0) (.int .i64 0) (.int .i64 0)).cell? ⟨w.heap.size, j, none⟩ = some v := fun j v hv => by rw [P6.out.cell]; exact hv
  have m0 := kk 0 _ rfl
  have m1 := kk 1 _ rfl
  have m2 := kk 2 _ rfl
  have m3 := kk 3 _ rfl
  have m4 := kk 4 _ rfl
  have m5 := kk 5 _ rfl
  clear kk
  simp only [put6] at m0 m1 m2 m3 m4 m5
  go_enter Tryd.func59, Tryd.ntmps59
  go_wp2_with fail
  refine bodyPost_ret (v := .tuple #[.agg #[.string ⟨#[122, 101, 114, 111]⟩, .int .i64 1, .int .i64 4, .int .i64 0, .int .i64 0, .int .i64 0], .bool true]) (by simp [results, Tryd.results59, go_sem, m0, m1, m2, m3, m4, m5]) rfl ⟨rfl, inferInstance⟩

set_option maxRecDepth 100000 in
set_option maxHeartbeats 1600000 in
theorem known_9 (w0 w : World) (hO : Ops w0) (hw : After w0 w) : Calls Tryd.prog 59 #[.int .i64 9] w fun e w' => e = .returned (.tuple #[.agg #[.string ⟨#[99, 97, 108, 108]⟩, .int .i64 6, .int .i64 7, .int .i64 8, .int .i64 9, .int .i64 0], .bool true]) ∧ After w w' := by
  have hw' := hO.here w
  have hl : Le 1 w := ⟨hw'.lt⟩
  have q0 : w.cell? ⟨0, 54, none⟩ = some (.string ⟨#[99, 97, 108, 108]⟩) := hw'.cell 54 _ rfl
  have q1 : w.cell? ⟨0, 55, none⟩ = some (.int .i64 6) := hw'.cell 55 _ rfl
  have q2 : w.cell? ⟨0, 56, none⟩ = some (.int .i64 7) := hw'.cell 56 _ rfl
  have q3 : w.cell? ⟨0, 57, none⟩ = some (.int .i64 8) := hw'.cell 57 _ rfl
  have q4 : w.cell? ⟨0, 58, none⟩ = some (.int .i64 9) := hw'.cell 58 _ rfl
  have q5 : w.cell? ⟨0, 59, none⟩ = some (.int .i64 0) := hw'.cell 59 _ rfl
  have P6 := Lib.hid (put6_blk (Blk.new w 87 #[.string ⟨#[]⟩, .int .i64 0, .int .i64 0, .int .i64 0, .int .i64 0, .int .i64 0]) (.string ⟨#[99, 97, 108, 108]⟩) (.int .i64 6) (.int .i64 7) (.int .i64 8) (.int .i64 9) (.int .i64 0))
  have kk : ∀ j v, (#[.string ⟨#[99, 97, 108, 108]⟩, .int .i64 6, .int .i64 7, .int .i64 8, .int .i64 9, .int .i64 0] : Array Value)[j]? = some v → (put6 (w.alloc (.cells #[.string ⟨#[]⟩, .int .i64 0, .int .i64 0, .int .i64 0, .int .i64 0, .int .i64 0] 87)) w.heap.size (.string ⟨#[99, 97, 108, 108]⟩) (.int .i64 6) (.int .i64 7) (.int .i64 8) (.int .i64 9) (.int .i64 0)).cell? ⟨w.heap.size, j, none⟩ = some v := fun j v hv => by rw [P6.out.cell]; exact hv
  have m0 := kk 0 _ rfl
  have m1 := kk 1 _ rfl
  have m2 := kk 2 _ rfl
  have m3 := kk 3 _ rfl
  have m4 := kk 4 _ rfl
  have m5 := kk 5 _ rfl
  clear kk
  simp only [put6] at m0 m1 m2 m3 m4 m5
  go_enter Tryd.func59, Tryd.ntmps59
  go_wp2_with fail
  refine bodyPost_ret (v := .tuple #[.agg #[.string ⟨#[99, 97, 108, 108]⟩, .int .i64 6, .int .i64 7, .int .i64 8, .int .i64 9, .int .i64 0], .bool true]) (by simp [results, Tryd.results59, go_sem, m0, m1, m2, m3, m4, m5]) rfl ⟨rfl, inferInstance⟩

set_option maxRecDepth 100000 in
set_option maxHeartbeats 1600000 in
theorem known_10 (w0 w : World) (hO : Ops w0) (hw : After w0 w) : Calls Tryd.prog 59 #[.int .i64 10] w fun e w' => e = .returned (.tuple #[.agg #[.string ⟨#[114, 101, 115, 101, 116]⟩, .int .i64 6, .int .i64 7, .int .i64 0, .int .i64 0, .int .i64 0], .bool true]) ∧ After w w' := by
  have hw' := hO.here w
  have hl : Le 1 w := ⟨hw'.lt⟩
  have q0 : w.cell? ⟨0, 60, none⟩ = some (.string ⟨#[114, 101, 115, 101, 116]⟩) := hw'.cell 60 _ rfl
  have q1 : w.cell? ⟨0, 61, none⟩ = some (.int .i64 6) := hw'.cell 61 _ rfl
  have q2 : w.cell? ⟨0, 62, none⟩ = some (.int .i64 7) := hw'.cell 62 _ rfl
  have q3 : w.cell? ⟨0, 63, none⟩ = some (.int .i64 0) := hw'.cell 63 _ rfl
  have q4 : w.cell? ⟨0, 64, none⟩ = some (.int .i64 0) := hw'.cell 64 _ rfl
  have q5 : w.cell? ⟨0, 65, none⟩ = some (.int .i64 0) := hw'.cell 65 _ rfl
  have P6 := Lib.hid (put6_blk (Blk.new w 87 #[.string ⟨#[]⟩, .int .i64 0, .int .i64 0, .int .i64 0, .int .i64 0, .int .i64 0]) (.string ⟨#[114, 101, 115, 101, 116]⟩) (.int .i64 6) (.int .i64 7) (.int .i64 0) (.int .i64 0) (.int .i64 0))
  have kk : ∀ j v, (#[.string ⟨#[114, 101, 115, 101, 116]⟩, .int .i64 6, .int .i64 7, .int .i64 0, .int .i64 0, .int .i64 0] : Array Value)[j]? = some v → (put6 (w.alloc (.cells #[.string ⟨#[]⟩, .int .i64 0, .int .i64 0, .int .i64 0, .int .i64 0, .int .i64 0] 87)) w.heap.size (.string ⟨#[114, 101, 115, 101, 116]⟩) (.int .i64 6) (.int .i64 7) (.int .i64 0) (.int .i64 0) (.int .i64 0)).cell? ⟨w.heap.size, j, none⟩ = some v := fun j v hv => by rw [P6.out.cell]; exact hv
  have m0 := kk 0 _ rfl
  have m1 := kk 1 _ rfl
  have m2 := kk 2 _ rfl
  have m3 := kk 3 _ rfl
  have m4 := kk 4 _ rfl
  have m5 := kk 5 _ rfl
  clear kk
  simp only [put6] at m0 m1 m2 m3 m4 m5
  go_enter Tryd.func59, Tryd.ntmps59
  go_wp2_with fail
  refine bodyPost_ret (v := .tuple #[.agg #[.string ⟨#[114, 101, 115, 101, 116]⟩, .int .i64 6, .int .i64 7, .int .i64 0, .int .i64 0, .int .i64 0], .bool true]) (by simp [results, Tryd.results59, go_sem, m0, m1, m2, m3, m4, m5]) rfl ⟨rfl, inferInstance⟩

set_option maxRecDepth 100000 in
set_option maxHeartbeats 1600000 in
theorem known_bad (w : World) (n : Int) (h : n < 1 ∨ 10 < n) : Calls Tryd.prog 59 #[.int .i64 n] w fun e w' => e = .returned (.tuple #[.agg #[.string ⟨#[]⟩, .int .i64 0, .int .i64 0, .int .i64 0, .int .i64 0, .int .i64 0], .bool false]) ∧ After w w' := by
  have P6 := Lib.hid (put6_blk (Blk.new w 87 #[.string ⟨#[]⟩, .int .i64 0, .int .i64 0, .int .i64 0, .int .i64 0, .int .i64 0]) (.string ⟨#[]⟩) (.int .i64 0) (.int .i64 0) (.int .i64 0) (.int .i64 0) (.int .i64 0))
  have kk : ∀ j v, (#[.string ⟨#[]⟩, .int .i64 0, .int .i64 0, .int .i64 0, .int .i64 0, .int .i64 0] : Array Value)[j]? = some v → (put6 (w.alloc (.cells #[.string ⟨#[]⟩, .int .i64 0, .int .i64 0, .int .i64 0, .int .i64 0, .int .i64 0] 87)) w.heap.size (.string ⟨#[]⟩) (.int .i64 0) (.int .i64 0) (.int .i64 0) (.int .i64 0) (.int .i64 0)).cell? ⟨w.heap.size, j, none⟩ = some v := fun j v hv => by rw [P6.out.cell]; exact hv
  have m0 := kk 0 _ rfl
  have m1 := kk 1 _ rfl
  have m2 := kk 2 _ rfl
  have m3 := kk 3 _ rfl
  have m4 := kk 4 _ rfl
  have m5 := kk 5 _ rfl
  clear kk
  simp only [put6] at m0 m1 m2 m3 m4 m5
  rcases h with h | h
  · go_enter Tryd.func59, Tryd.ntmps59
    go_wp2_with fail
    refine bodyPost_ret (v := .tuple #[.agg #[.string ⟨#[]⟩, .int .i64 0, .int .i64 0, .int .i64 0, .int .i64 0, .int .i64 0], .bool false]) (by simp [results, Tryd.results59, go_sem, m0, m1, m2, m3, m4, m5]) rfl ⟨rfl, inferInstance⟩
  · have h1 : ¬ (n < 1) := by omega
    go_enter Tryd.func59, Tryd.ntmps59
    go_wp2_with fail
    refine bodyPost_ret (v := .tuple #[.agg #[.string ⟨#[]⟩, .int .i64 0, .int .i64 0, .int .i64 0, .int .i64 0, .int .i64 0], .bool false]) (by simp [results, Tryd.results59, go_sem, m0, m1, m2, m3, m4, m5]) rfl ⟨rfl, inferInstance⟩

def put4 (w : World) (g : Nat) (v0 v1 v2 v3 : Value) : World := (((w.setCell ⟨g, 0, none⟩ v0).setCell ⟨g, 1, none⟩ v1).setCell ⟨g, 2, none⟩ v2).setCell ⟨g, 3, none⟩ v3
theorem lit4 (a0 a1 a2 a3 v0 v1 v2 v3 : Value) : ((((#[a0, a1, a2, a3] : Array Value).setIfInBounds 0 v0).setIfInBounds 1 v1).setIfInBounds 2 v2).setIfInBounds 3 v3 = #[v0, v1, v2, v3] := by simp
theorem put4_blk {w : World} {g : Nat} {t : TypeId} {a0 a1 a2 a3 : Value} (h : Blk w g t #[a0, a1, a2, a3]) (v0 v1 v2 v3 : Value) : Blk (put4 w g v0 v1 v2 v3) g t #[v0, v1, v2, v3] := by
  rw [← lit4 a0 a1 a2 a3]
  exact (((h.set_ 0 v0).set_ 1 v1).set_ 2 v2).set_ 3 v3
set_option maxRecDepth 100000 in
set_option maxHeartbeats 1600000 in
theorem fields_any (w : World) (o a b c d : Int) : Calls Tryd.prog 60 #[.agg #[.int .i64 o, .int .i64 a, .int .i64 b, .int .i64 c, .int .i64 d]] w fun e w' => e = .returned (.agg #[.int .i64 a, .int .i64 b, .int .i64 c, .int .i64 d]) ∧ After w w' := by
  obtain ⟨g0, hg0⟩ : ∃ g0, w.heap.size = g0 := ⟨_, rfl⟩
  go_enter Tryd.func60, Tryd.ntmps60
  go_wp2_with fail
  have P6 := Blk.new1 w (.cells #[.int .i64 o, .int .i64 a, .int .i64 b, .int .i64 c, .int .i64 d] 61) 85 #[.int .i64 a, .int .i64 b, .int .i64 c, .int .i64 d]
  rw [hg0] at P6
  have m0 := (P6.cell 0).trans rfl
  have m1 := (P6.cell 1).trans rfl
  have m2 := (P6.cell 2).trans rfl
  have m3 := (P6.cell 3).trans rfl
  refine bodyPost_ret (v := .agg #[.int .i64 a, .int .i64 b, .int .i64 c, .int .i64 d]) (by simp [results, Tryd.results60, go_sem, m0, m1, m2, m3]) rfl ⟨rfl, inferInstance⟩

def opnI (x : Int) : Int := if x = 1 ∨ x = 2 then 1 else if 3 ≤ x ∧ x ≤ 16 then 2 else 0
theorem operands_any (w : World) (x : Int) : Calls Tryd.prog 61 #[.int .i64 x] w fun e w' => e = .returned (.int .i64 (opnI x)) ∧ w' = w := by
  by_cases h1 : x = 1
  · subst h1
    go_enter Tryd.func61, Tryd.ntmps61
    go_wp2_with fail
    go_ret
    exact ⟨rfl, rfl⟩
  by_cases h2 : x = 2
  · subst h2
    go_enter Tryd.func61, Tryd.ntmps61
    go_wp2_with fail
    go_ret
    exact ⟨rfl, rfl⟩
  have b1 : (x == 1) = false := by simpa using h1
  have b2 : (x == 2) = false := by simpa using h2
  by_cases h3 : 3 ≤ x
  · by_cases h4 : x ≤ 16
    · have e : opnI x = 2 := by unfold opnI; rw [if_neg (by omega), if_pos (by omega)]
      rw [e]
      go_enter Tryd.func61, Tryd.ntmps61
      go_wp2_with fail
      go_ret
      exact ⟨rfl, rfl⟩
    · have e : opnI x = 0 := by unfold opnI; rw [if_neg (by omega), if_neg (by omega)]
      rw [e]
      go_enter Tryd.func61, Tryd.ntmps61
      go_wp2_with fail
      go_ret
      exact ⟨rfl, rfl⟩
  · have e : opnI x = 0 := by unfold opnI; rw [if_neg (by omega), if_neg (by omega)]
    rw [e]
    go_enter Tryd.func61, Tryd.ntmps61
    go_wp2_with fail
    go_ret
    exact ⟨rfl, rfl⟩

theorem within_any (w : World) (x n m : Int) (hm : m ≤ 9223372036854775807) : Calls Tryd.prog 62 #[.int .i64 x, .int .i64 n, .int .i64 m] w fun e w' => e = .returned (.bool (withinB x n m)) ∧ w' = w := by
  by_cases h1 : 0 ≤ x
  · by_cases h2 : x ≤ m
    · have hw1 : IntKind.i64.wrap (m - x) = m - x := IntWalk.i64_in _ (by omega)
      by_cases h3 : n ≤ m - x
      all_goals
        go_enter Tryd.func62, Tryd.ntmps62
        go_wp2_with fail
        go_ret
        exact ⟨ret_bool (by unfold withinB; simp; omega), rfl⟩
    · go_enter Tryd.func62, Tryd.ntmps62
      go_wp2_with fail
      go_ret
      exact ⟨ret_bool (by unfold withinB; simp; omega), rfl⟩
  · go_enter Tryd.func62, Tryd.ntmps62
    go_wp2_with fail
    go_ret
    exact ⟨ret_bool (by unfold withinB; simp; omega), rfl⟩
end Go.Proofs.YtgmojjdojcmnaaaDoor
