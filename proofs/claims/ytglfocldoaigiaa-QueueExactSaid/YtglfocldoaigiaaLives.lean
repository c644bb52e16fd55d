/-
  The law's own check lives() of layer 32.
-/
import Derived.Test.YtglfocldoaigiaaQueue3
import Derived.Test.YtglfocldoaigiaaNeed3
import Derived.Test.YtglfocldoaigiaaLaw31a
namespace Go.Proofs.Ytglfocldoaigiaa
open Go.RowKit Go.BigFrame

/-- a pop of a queue that is new since w0, in worlds w0.more -/
theorem pop_c {w0 w : World} [After w0 w] {g room x xs peak r} (h : QIs w 77 g room (x :: xs) peak r) (hg : w0.heap.size ≤ g) (hr : ∀ k, r = some k → w0.heap.size ≤ k) :
    Calls Try.prog 37 #[.pointer (some ⟨g, 0, none⟩)] w fun e w' => e = .returned (.tuple #[.int .i64 x, .int .i64 0]) ∧ ∃ y, w' = w0.more y ∧ QIs (w0.more y) 77 g room xs peak r := by
  refine (pop_some h).mono ?_
  rintro e w' ⟨rfl, hq, hf⟩
  have := hf.is_after hg hr
  obtain ⟨y, rfl⟩ := After.is_more w0 w'
  exact ⟨rfl, y, rfl, hq⟩

theorem ri_one (w : World) (a : Int) : RI (w.alloc (.cells #[.int .i64 a] 3)) (some ⟨w.heap.size, 0, none⟩) 1 [a] := by
  refine ⟨⟨by simp [iv], fun _ => ⟨_, rfl, by simp, fun j u hu => ?_⟩⟩, by simp, by decide, by simp⟩
  match j, hu with
  | 0, hu => simp [iv] at hu; subst hu; simp [Addr.add]
theorem rw_one (w : World) : RW (w.alloc (.cells #[.bool true] 4)) none 0 (some ⟨w.heap.size, 0, none⟩) 1 [] [true] := by
  refine ⟨⟨Reads.none_, by simp, by decide, by simp⟩, ⟨⟨by simp [bv], fun _ => ⟨_, rfl, by simp, fun j u hu => ?_⟩⟩, by simp, by decide, by simp⟩⟩
  match j, hu with
  | 0, hu => simp [bv] at hu; subst hu; simp [Addr.add]

theorem lives_need {w0 : World} {B} (x : RW w0 none 0 B 1 [] [true]) (w : World) [After w0 w] (fa ta init : Nat) (first : Bool) (a e : Int) (hb : okArgs [] [true] fa ta init) (he : needV [] [true] fa ta init first = (a, e)) :
    Calls Try.prog 26 #[.agg #[.slice none 0 0, .slice B 1 1], .int .i64 (fa : Nat), .int .i64 (ta : Nat), .int .i64 (init : Nat), .bool first] w fun e' w' => e' = .returned (.tuple #[.int .i64 a, .int .i64 e]) ∧ ∃ y, w' = w.more y := by
  have := need_ok x w fa ta init first hb
  rwa [he] at this
theorem lives_need' {w0 : World} {B} (x : RW w0 none 0 B 1 [] [true]) (w : World) (_ : After w0 w) (fa ta init : Nat) (first : Bool) (a e : Int) (hb : okArgs [] [true] fa ta init) (he : needV [] [true] fa ta init first = (a, e)) :
    Calls Try.prog 26 #[.agg #[.slice none 0 0, .slice B 1 1], .int .i64 (fa : Nat), .int .i64 (ta : Nat), .int .i64 (init : Nat), .bool first] w fun e' w' => e' = .returned (.tuple #[.int .i64 a, .int .i64 e]) ∧ ∃ y, w' = w.more y := lives_need x w fa ta init first a e hb he
theorem okb : Valid [] [true] := ⟨by decide, by decide⟩
theorem need1 : needV [] [true] (0 : Nat) (2 : Nat) (0 : Nat) false = (2, 0) := needV_some (n := 2) (m := 2) false ⟨okb, by decide, by decide, by decide, by decide, by decide, by decide⟩ 4 (by decide) (by decide +kernel)
theorem need2 : needV [] [true] (0 : Nat) (2 : Nat) (0 : Nat) true = (3, 0) := needV_some (n := 2) (m := 3) true ⟨okb, by decide, by decide, by decide, by decide, by decide, by decide⟩ 4 (by decide) (by decide +kernel)
theorem need3 : needV [] [true] (0 : Nat) (0 : Nat) (0 : Nat) false = (0, 20) := needV_none false ⟨okb, by decide, by decide, by decide, by decide, by decide, by decide⟩ 4 (by decide) (by decide +kernel)

set_option maxRecDepth 100000 in
set_option maxHeartbeats 1600000 in
theorem lives_any (w : World) : Calls Try.prog 25 #[] w fun e w' => e = .returned (.bool true) ∧ ∃ y, w' = w.more y := by
  have x1 := Lib.hid (fun u : World => ri_one u 5)
  have x2 := Lib.hid (fun u : World => rw_one u)
  have n1 := Lib.hid need1
  have n2 := Lib.hid need2
  have n3 := Lib.hid need3
  have o1 : Hid (okArgs [] [true] (0 : Nat) (2 : Nat) (0 : Nat)) := ⟨okb, by decide, by decide, by decide, by decide, by decide, by decide⟩
  have o2 : Hid (okArgs [] [true] (0 : Nat) (0 : Nat) (0 : Nat)) := ⟨okb, by decide, by decide, by decide, by decide, by decide, by decide⟩
  go_enter Try.func25, Try.ntmps25
  go_wp2_with fail
  refine (new_ok (x1.out w) _ 1 (by decide) (by decide) (by decide)).mono ?_
  rintro e w' ⟨g, r, rfl, hq, hg, hr, y1, rfl⟩
  replace hg : w.heap.size ≤ g := Nat.le_trans (by simp) hg
  replace hr : ∀ k, r = some k → w.heap.size ≤ k := fun k hk => Nat.le_trans (by simp) (hr k hk)
  have HR := Lib.hid hr
  have HQ := Lib.hid hq
  clear hq hr
  go_wp2_with fail
  refine (push_full HQ.out 6 (by simp)).mono ?_
  rintro e w' ⟨rfl, y2, rfl⟩
  replace HQ := Lib.hid (HQ.out.more y2)
  go_wp2_with fail
  refine (pop_c (w0 := w) HQ.out hg HR.out).mono ?_
  rintro e w' ⟨rfl, y3, rfl, hq⟩
  replace HQ := Lib.hid hq
  clear hq
  go_wp2_with fail
  refine (pop_empty HQ.out).mono ?_
  rintro e w' ⟨rfl, rfl⟩
  go_wp2_with fail
  refine (lives_need' (x2.out (w.more y3)) _ inferInstance 0 2 0 false 2 0 o1.out n1.out).mono ?_
  rintro e w' ⟨rfl, y4, rfl⟩
  go_wp2_with fail
  refine (lives_need' (x2.out (w.more y3)) _ inferInstance 0 2 0 true 3 0 o1.out n2.out).mono ?_
  rintro e w' ⟨rfl, y5, rfl⟩
  go_wp2_with fail
  refine (lives_need' (x2.out (w.more y3)) _ inferInstance 0 0 0 false 0 20 o2.out n3.out).mono ?_
  rintro e w' ⟨rfl, y6, rfl⟩
  go_wp2_with fail
  have HK : ∀ U : World, After (w.more y3) U → Calls Try.prog 31 #[.pointer (some ⟨g, 0, none⟩)] U fun e w' => e = .returned (.int .i64 1) ∧ U = w' := fun U _ => peak_any HQ.out.after
  refine (HK _ inferInstance).mono ?_
  rintro e w' ⟨rfl, rfl⟩
  go_wp2_with fail
  go_ret
  exact ⟨rfl, After.is_more _ _⟩
end Go.Proofs.Ytglfocldoaigiaa
