/-
  Append of one value to a row that is held from an offset on (a queue's row).
-/
import Derived.Test.YtglfocldoaigiaaQueue3
import Derived.ArgAppend
namespace Go.Proofs.Ytglfocldoaigiaa
open Go.RowKit Go.BigFrame

theorem run_append_q {P : Program} (w : World) (t ty e : TypeId) (i : TypeInfo) (z : Value) (bytes : Nat) (ht : P.underlying t = some (.slice e)) (hi : P.info? e = some i) (hz : i.zero = some z) (hsize : i.size = 1) (hby : i.bytes = bytes) (hzs : z.cells.size = 1)
    (v : Value) (xs : List Value) (r : Option Nat) (h : QRow w e v xs r) (a : Addr) (u : Value) (hc : w.cell? a = some u) (h1 : u.oneCell' = true)
    (h63 : xs.length + 1 ≤ maxLen) (hbytes : (xs.length + 1) * bytes ≤ 140737488355328) :
    ∃ v' w' r', (Builtin.append_ #[t, t] ty #[v, .slice (some a) 1 1]).run P w = .ok v' w' ∧ QRow w' e v' (xs ++ [u]) r' ∧ w.grownBy w' r ∧ (∀ k, r' = some k → r = some k ∨ w.heap.size ≤ k) := by
  have hnews : ∀ j x, [u][j]? = some x → w.cell? (a.add j) = some x := by
    intro j x hx
    match j, hx with
    | 0, hx =>
      simp at hx; subst hx
      have : a.add 0 = a := by cases a; simp [Addr.add]
      rw [this]; exact hc
  rcases h with ⟨rfl, rfl, rfl⟩ | ⟨g, o, cap, cur, rfl, rfl, hh, hle, hm, hsz, hcur⟩
  · obtain ⟨v', w', hrun, h2, h3, _, h5⟩ := run_append_own_at (P := P) w w.heap.size t ty e i z 1 bytes ht hi hz hsize hby hzs (by decide) (.slice none 0 0) 0 [] (World.ownsRow_nil w _ e 1) a 1 1 [u] (by simp) hnews (by simpa using h1) (by simpa using h63) (by simpa using hbytes) (Nat.le_refl _)
    obtain ⟨r', hq, hlt⟩ := QRow.of_own h2
    exact ⟨v', w', r', hrun, by simpa using hq, by simpa [Value.ownBlock] using h3, fun k hk => .inr (hlt k hk).1⟩
  · by_cases hroom : xs.length + 1 ≤ cap
    · have hcell := fun j => cell_of_row w g j cur e (0, 0) hh
      have hrun := run_append_room_cells (P := P) (w := w) t ty e i ht hi g o xs.length cap a 1 1 [u] (by simp [hsize]) hnews (by simpa using h1) hroom
        (fun j hj => by
          simp at hj; subst hj
          rw [hsize, hcell]
          simp; omega)
        (fun j hj => by simp [World.frozen?, hh])
      rw [hsize, Nat.mul_one] at hrun
      have hw : w.setCells g (o + xs.length) [u] = w.setCell ⟨g, o + xs.length, none⟩ u := rfl
      rw [hw] at hrun
      have hf := Frame2.set (w := w) g (o + xs.length) u none
      refine ⟨_, _, some g, hrun, .inr ⟨g, o, cap, cur.setIfInBounds (o + xs.length) u, rfl, by simp, ?_, by simpa using hroom, hm, by simpa using hsz, fun j hj => ?_⟩, ⟨hf.os, hf.tape, hf.output, hf.size, fun k hk hne => hf.block k hk (fun e => hne (by rw [e])) (by simp)⟩, fun k hk => .inl hk⟩
      · simp [World.setCell, Array.getElem?_modify, hh]
      · rw [Array.getElem?_setIfInBounds]
        by_cases hj' : j < xs.length
        · rw [if_neg (by omega), hcur j hj', List.getElem?_append_left hj']
        · have hj2 : j = xs.length := by simp at hj; omega
          subst hj2
          rw [if_pos rfl, if_pos (by omega)]
          simp
    · have hcap : cap = xs.length := by omega
      obtain ⟨v', w', hrun, h2, h3⟩ := run_append_arg_grows (P := P) (w := w) t ty e i z 1 bytes ht hi hz hsize hby hzs (by decide) ⟨g, o, none⟩ xs.length cap xs (by simp)
        (fun j x hx => by
          have hj : j < xs.length := (List.getElem?_eq_some_iff.1 hx).1
          have : (⟨g, o, none⟩ : Addr).add j = ⟨g, o + j, none⟩ := Addr.add_lit ..
          rw [this, cell_of_row w g (o + j) cur e (0, 0) hh, hcur j hj, hx])
        a 1 1 [u] (by simp) hnews (by omega) h63 hbytes
      obtain ⟨r', hq, hlt⟩ := QRow.of_own (xs := xs ++ [u]) h2
      exact ⟨v', w', r', hrun, hq, ⟨h3.os, h3.tape, h3.output, h3.size, fun k hk _ => h3.block k hk (by simp)⟩, fun k hk => .inr (hlt k hk).1⟩

theorem wpList_append_q {P : Program} (w : World) {ops : Array Oper} {rest : List Oper} {o : Oper} {a : Act} {Q : Exit → Act → World → Prop} (hgd : o.guard = none) (s x : Operand) (t : TypeId)
    (ho : o.op = .call { callee := .builtin .append, args := #[s, x], argTypes := #[t, t] })
    (e : TypeId) (i : TypeInfo) (z : Value) (bytes : Nat) (ht : P.underlying t = some (.slice e)) (hi : P.info? e = some i) (hz : i.zero = some z) (hsize : i.size = 1) (hby : i.bytes = bytes) (hzs : z.cells.size = 1)
    (v : Value) (xs : List Value) (r : Option Nat) (hs : a.eval s = v) (h : QRow w e v xs r) (ad : Addr) (u : Value) (hx : a.eval x = .slice (some ad) 1 1) (hc : w.cell? ad = some u) (h1 : u.oneCell' = true)
    (h63 : xs.length + 1 ≤ maxLen) (hbytes : (xs.length + 1) * bytes ≤ 140737488355328)
    (hk : ∀ v' w' r', QRow w' e v' (xs ++ [u]) r' → w.grownBy w' r → (∀ k, r' = some k → r = some k ∨ w.heap.size ≤ k) → wpList P ops Q rest (a.put o.dst v') w') : wpList P ops Q (o :: rest) a w :=
  wpList_plain hgd fun _ hK => by
    obtain ⟨v', w', r', hrun, h2, h3, h4⟩ := run_append_q (P := P) w t o.type e i z bytes ht hi hz hsize hby hzs v xs r h ad u hc h1 h63 hbytes
    unfold Oper.wp execOp
    simp only [ho, resolve, invoke, builtin, Sem.run_bind, Sem.run_pure, Result.andThen_ok, List.map_toArray, List.map_cons, List.map_nil, hs, hx, hrun]
    exact hK _ _ (hk v' w' r' h2 h3 h4)
end Go.Proofs.Ytglfocldoaigiaa
