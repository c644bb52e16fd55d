/-
  Plain: what the readers make of an encoded image, of its beginnings and of it with more behind.
-/
import Derived.Test.YtgmojjdojcmnaaaDoorIGetF
import Derived.Test.YtgmojjdojcmnaaaDoorIFlipF
set_option linter.unusedVariables false
set_option linter.unusedSimpArgs false
namespace Go.Proofs.YtgmojjdojcmnaaaDoor

/-- f reads x out of the bytes bs; a beginning of them is too short; behind an error it reads nothing -/
structure Rd {α : Type} (f : St → α × St) (x : α) (bs : List UInt8) : Prop where
  ok : ∀ r, f ⟨bs ++ r, 0⟩ = (x, ⟨r, 0⟩)
  end_ : ∀ p q, p ++ q = bs → q ≠ [] → (f ⟨p, 0⟩).2.e = 4
  stuck : ∀ s, s.e ≠ 0 → (f s).2 = s

theorem pre_split {α : Type} {p q a b : List α} (h : p ++ q = a ++ b) : (∃ q', p ++ q' = a ∧ q' ≠ []) ∨ ∃ p', p = a ++ p' ∧ p' ++ q = b := by
  rcases List.append_eq_append_iff.1 h with ⟨a', h1, h2⟩ | ⟨c', h1, h2⟩
  · by_cases ha : a' = []
    · subst ha
      exact .inr ⟨[], by simpa using h1.symm, by simpa using h2⟩
    · exact .inl ⟨a', h1.symm, ha⟩
  · exact .inr ⟨c', h1, h2.symm⟩
theorem Rd.bind {α β : Type} {f : St → α × St} {g : α → St → β × St} {x : α} {y : β} {bs cs : List UInt8} (hf : Rd f x bs) (hg : Rd (g x) y cs) (hs : ∀ v s, s.e ≠ 0 → (g v s).2 = s) :
    Rd (fun s => g (f s).1 (f s).2) y (bs ++ cs) := by
  refine ⟨fun r => ?_, fun p q h hq => ?_, fun s h => ?_⟩
  · simp only [List.append_assoc, hf.ok]
    exact hg.ok r
  · rcases pre_split h with ⟨q', h1, h2⟩ | ⟨p', h1, h2⟩
    · have e := hf.end_ p q' h1 h2
      show (g (f ⟨p, 0⟩).1 (f ⟨p, 0⟩).2).2.e = 4
      rw [hs _ _ (by rw [e]; decide)]
      exact e
    · subst h1
      simp only [hf.ok]
      exact hg.end_ p' q h2 hq
  · have e := hf.stuck s h
    simp only [e]
    exact hs _ _ h
theorem Rd.map {α β : Type} {f : St → α × St} {g : St → β × St} {x : α} {bs : List UInt8} (hf : Rd f x bs) (φ : α → β) (hg : ∀ s, g s = (φ (f s).1, (f s).2)) : Rd g (φ x) bs := by
  refine ⟨fun r => ?_, fun p q h hq => ?_, fun s h => ?_⟩
  · rw [hg, hf.ok]
  · rw [hg]; exact hf.end_ p q h hq
  · rw [hg]; exact hf.stuck s h
theorem Rd.seq {α β : Type} {f : St → α × St} {g : St → β × St} {x : α} {y : β} {bs cs : List UInt8} (hf : Rd f x bs) (hg : Rd g y cs) :
    Rd (fun s => (((f s).1, (g (f s).2).1), (g (f s).2).2)) (x, y) (bs ++ cs) :=
  Rd.bind (g := fun v s => ((v, (g s).1), (g s).2)) hf (hg.map (fun z => (x, z)) fun s => rfl) (fun v s h => hg.stuck s h)

def In32 (n : Int) : Prop := -2147483648 ≤ n ∧ n ≤ 2147483647
theorem numS_stuck (s : St) (h : s.e ≠ 0) : numS s = (0, s) := by unfold numS; rw [if_neg h]
theorem dec_enc {n : Int} (h : In32 n) : dec (UInt8.ofNat (u32 n)) (UInt8.ofNat (u32 n / 256)) (UInt8.ofNat (u32 n / 65536)) (UInt8.ofNat (u32 n / 16777216)) = n := by
  have e := num4_enc n
  unfold num4 at e
  unfold dec
  simp only [e]
  have := u32i n
  unfold In32 at h
  split <;> omega
theorem num_rd {n : Int} (h : In32 n) : Rd numS n (enc n) := by
  refine ⟨fun r => ?_, fun p q hp hq => ?_, fun s hs => by rw [numS_stuck s hs]⟩
  · rw [numS_ok (x0 := UInt8.ofNat (u32 n)) (x1 := UInt8.ofNat (u32 n / 256)) (x2 := UInt8.ofNat (u32 n / 65536)) (x3 := UInt8.ofNat (u32 n / 16777216)) (r := r) rfl rfl, dec_enc h]
  · have hl : p.length < 4 := by
      have h1 := congrArg List.length hp
      rw [List.length_append, enc_length] at h1
      have h2 : 0 < q.length := List.length_pos_iff.2 hq
      omega
    unfold numS
    simp only []
    rw [if_pos trivial, if_pos hl]
theorem many_rd {n : Int} (h0 : 0 ≤ n) (h1 : n ≤ 65536) : Rd manyS n (enc n) := by
  have hn := num_rd (n := n) ⟨by omega, by omega⟩
  refine ⟨fun r => ?_, fun p q hp hq => ?_, fun s hs => ?_⟩
  · unfold manyS
    simp only [hn.ok]
    rw [if_pos trivial, if_neg (by omega)]
  · have e := hn.end_ p q hp hq
    unfold manyS
    simp only []
    rw [if_neg (by rw [e]; decide)]
    exact e
  · unfold manyS
    simp only [numS_stuck s hs]
    rw [if_neg hs]
theorem many_zero {s : St} (h : (manyS s).2.e ≠ 0) : (manyS s).1 = 0 := by
  unfold manyS at h ⊢
  simp only [] at h ⊢
  split
  · rename_i h1
    rw [if_pos h1] at h
    split
    · rfl
    · rename_i h2
      rw [if_neg h2] at h
      exact absurd h1 h
  · rfl
theorem text_rd {l : List UInt8} (h : l.length ≤ 65536) : Rd textS l (enc l.length ++ l) := by
  have hn := many_rd (n := (l.length : Int)) (by omega) (by omega)
  refine ⟨fun r => ?_, fun p q hp hq => ?_, fun s hs => ?_⟩
  · unfold textS
    simp only [List.append_assoc, hn.ok]
    rw [if_neg (by rw [List.length_append]; omega)]
    simp
  · rcases pre_split hp with ⟨q', h1, h2⟩ | ⟨p', h1, h2⟩
    · have e := hn.end_ p q' h1 h2
      have z := many_zero (s := ⟨p, 0⟩) (by rw [e]; decide)
      unfold textS
      simp only [z]
      rw [if_neg (by omega)]
      exact e
    · subst h1
      unfold textS
      simp only [hn.ok]
      have hl : p'.length < l.length := by
        have h3 := congrArg List.length h2
        rw [List.length_append] at h3
        have h4 : 0 < q.length := List.length_pos_iff.2 hq
        omega
      rw [if_pos (by omega)]
      unfold failS
      simp only []
      rw [if_pos trivial]
  · have e := hn.stuck s hs
    have z := many_zero (s := s) (by rw [e]; exact hs)
    unfold textS
    simp only [z, e]
    rw [if_neg (by omega)]
    simp

/-! loops -/
def loopF {α : Type} (f : St → α × St) : Nat → List α → St → List α × St
  | 0, acc, s => (acc, s)
  | n + 1, acc, s => if s.e = 0 then loopF f n (acc ++ [(f s).1]) (f s).2 else (acc, s)
theorem allF_eq : ∀ (n : Nat) (acc : List Int) (s : St), allF n acc s = loopF numS n acc s
  | 0, acc, s => rfl
  | n + 1, acc, s => by rw [allF, loopF, allF_eq]
theorem codeF_eq : ∀ (n : Nat) (acc : List Ins) (s : St), codeF n acc s = loopF insS n acc s
  | 0, acc, s => rfl
  | n + 1, acc, s => by rw [codeF, loopF, codeF_eq]
theorem rtsF_eq : ∀ (n : Nat) (acc : List Rtn) (s : St), rtsF n acc s = loopF rtnS n acc s
  | 0, acc, s => rfl
  | n + 1, acc, s => by rw [rtsF, loopF, rtsF_eq]
theorem loopF_stuck {α : Type} (f : St → α × St) : ∀ (n : Nat) (acc : List α) (s : St), s.e ≠ 0 → (loopF f n acc s).2 = s
  | 0, acc, s, h => rfl
  | n + 1, acc, s, h => by rw [loopF, if_neg h]
theorem loop_rd {α : Type} {f : St → α × St} {en : α → List UInt8} : ∀ (l : List α) (acc : List α), (∀ a ∈ l, Rd f a (en a)) → Rd (loopF f l.length acc) (acc ++ l) (l.flatMap en)
  | [], acc, _ => ⟨fun r => by simp [loopF], fun p q h hq => by simp at h; exact absurd h.2 hq, fun s h => loopF_stuck f _ _ s h⟩
  | a :: l, acc, h => by
    have ha := h a (List.mem_cons_self ..)
    have hl := loop_rd (f := f) (en := en) l (acc ++ [a]) fun b hb => h b (List.mem_cons_of_mem _ hb)
    refine ⟨fun r => ?_, fun p q hp hq => ?_, fun s h => loopF_stuck f _ _ s h⟩
    · rw [List.length_cons, loopF, if_pos rfl, List.flatMap_cons, List.append_assoc, ha.ok]
      simpa using hl.ok r
    · rw [List.length_cons, loopF, if_pos rfl]
      rw [List.flatMap_cons] at hp
      rcases pre_split hp with ⟨q', h1, h2⟩ | ⟨p', h1, h2⟩
      · have e := ha.end_ p q' h1 h2
        rw [loopF_stuck f _ _ _ (by rw [e]; decide)]
        exact e
      · subst h1
        rw [ha.ok]
        exact hl.end_ p' q h2 hq
/-- a count and a loop -/
theorem counted_rd {α : Type} {f : St → α × St} {en : α → List UInt8} (l : List α) (hl : l.length ≤ 65536) (h : ∀ a ∈ l, Rd f a (en a)) :
    Rd (fun s => loopF f (manyS s).1.toNat [] (manyS s).2) l (enc l.length ++ l.flatMap en) :=
  Rd.bind (g := fun v s => loopF f v.toNat [] s) (many_rd (n := (l.length : Int)) (by omega) (by omega)) (by simpa using loop_rd l [] h) (fun v s hs => loopF_stuck f _ _ s hs)
theorem all_rd (l : List Int) (hl : l.length ≤ 65536) (h : ∀ a ∈ l, In32 a) : Rd allS l (encL l) := by
  have e : allS = fun s => loopF numS (manyS s).1.toNat [] (manyS s).2 := by funext s; unfold allS; rw [allF_eq]
  rw [e]
  exact counted_rd l hl fun a ha => num_rd (h a ha)
def InIns (i : Ins) : Prop := In32 i.op ∧ In32 i.a ∧ In32 i.b ∧ In32 i.c ∧ In32 i.d
theorem ins_rd (i : Ins) (h : InIns i) : Rd insS i (encI i) := by
  have h5 := Rd.seq (num_rd h.1) (Rd.seq (num_rd h.2.1) (Rd.seq (num_rd h.2.2.1) (Rd.seq (num_rd h.2.2.2.1) (num_rd h.2.2.2.2))))
  have h6 := h5.map (g := insS) (fun z => (⟨z.1, z.2.1, z.2.2.1, z.2.2.2.1, z.2.2.2.2⟩ : Ins)) (fun s => rfl)
  have e : encI i = enc i.op ++ (enc i.a ++ (enc i.b ++ (enc i.c ++ enc i.d))) := by unfold encI; simp
  rw [e]
  exact h6
theorem code_rd (l : List Ins) (hl : l.length ≤ 65536) (h : ∀ a ∈ l, InIns a) : Rd codeS l (enc l.length ++ l.flatMap encI) := by
  have e : codeS = fun s => loopF insS (manyS s).1.toNat [] (manyS s).2 := by funext s; unfold codeS; rw [codeF_eq]
  rw [e]
  exact counted_rd l hl fun a ha => ins_rd a (h a ha)
structure InRtn (r : Rtn) : Prop where
  name : r.name.length ≤ 65536
  ins : r.ins.length ≤ 65536 ∧ ∀ a ∈ r.ins, In32 a
  outs : r.outs.length ≤ 65536 ∧ ∀ a ∈ r.outs, In32 a
  regs : In32 r.regs
  init : r.init.length ≤ 65536 ∧ ∀ a ∈ r.init, In32 a
  code : r.code.length ≤ 65536 ∧ ∀ a ∈ r.code, InIns a
theorem rtn_rd (r : Rtn) (h : InRtn r) : Rd rtnS r (encR r) := by
  have h5 := Rd.seq (text_rd h.name) (Rd.seq (all_rd _ h.ins.1 h.ins.2) (Rd.seq (all_rd _ h.outs.1 h.outs.2) (Rd.seq (num_rd h.regs) (Rd.seq (all_rd _ h.init.1 h.init.2) (code_rd _ h.code.1 h.code.2)))))
  have h6 := h5.map (g := rtnS) (fun z => (⟨z.1, z.2.1, z.2.2.1, z.2.2.2.1, z.2.2.2.2.1, z.2.2.2.2.2⟩ : Rtn)) (fun s => rfl)
  have e : encR r = (enc r.name.length ++ r.name) ++ (encL r.ins ++ (encL r.outs ++ (enc r.regs ++ (encL r.init ++ (enc r.code.length ++ r.code.flatMap encI))))) := by unfold encR; simp only [List.append_assoc]
  rw [e]
  exact h6
structure InImg (m : Img) : Prop where
  enums : m.enums.length ≤ 65536 ∧ ∀ a ∈ m.enums, In32 a
  rts : m.rts.length ≤ 65536 ∧ ∀ r ∈ m.rts, InRtn r
theorem img_rd (m : Img) (h : InImg m) : Rd imgS m (encL m.enums ++ (enc m.rts.length ++ m.rts.flatMap encR)) := by
  have h5 := Rd.seq (all_rd _ h.enums.1 h.enums.2) (counted_rd (f := rtnS) (en := encR) m.rts h.rts.1 fun a ha => rtn_rd a (h.rts.2 a ha))
  have h6 := h5.map (g := imgS) (fun z => (⟨z.1, z.2⟩ : Img)) (fun s => by unfold imgS; simp only [rtsF_eq])
  exact h6
theorem bodyB_eq (m : Img) : bodyB m = [83, 89, 78, 49] ++ (encL m.enums ++ (enc m.rts.length ++ m.rts.flatMap encR)) := by unfold bodyB; simp only [List.append_assoc]

/-- bytes with their checksum -/
def sealB (l : List UInt8) : List UInt8 := l ++ enc (sumB l)
theorem getV_seal {l : List UInt8} (h : 4 ≤ l.length) (hm : l.take 4 = [83, 89, 78, 49]) :
    getV (sealB l) = (let x := imgS ⟨l.drop 4, 0⟩; let e := if x.2.e = 0 then (if x.2.rest = [] then chk x.1 else 5) else x.2.e; if e = 0 then (x.1, 0) else (⟨[], []⟩, e)) := by
  have hl : (sealB l).length = l.length + 4 := by unfold sealB; rw [List.length_append, enc_length]
  have e1 : (sealB l).take l.length = l := List.take_left' rfl
  have e2 : (sealB l).drop l.length = enc (sumB l) := List.drop_left' rfl
  have e3 : (sealB l).take 4 = [83, 89, 78, 49] := by unfold sealB; rw [List.take_append_of_le_length h]; exact hm
  unfold getV
  rw [if_neg (by omega)]
  simp only [hl, Nat.add_sub_cancel, e1, e2, e3]
  rw [if_neg (by simp), if_neg (by simp)]
theorem getV_put {m : Img} (h : InImg m) (hc : chk m = 0) : getV (putB m) = (m, 0) := by
  have e : putB m = sealB (bodyB m) := rfl
  rw [e, getV_seal (by have := bodyB_len m; omega) (by rw [bodyB_eq]; rfl)]
  have h1 := (img_rd m h).ok []
  rw [List.append_nil] at h1
  have e2 : (bodyB m).drop 4 = encL m.enums ++ (enc m.rts.length ++ m.rts.flatMap encR) := by rw [bodyB_eq]; rfl
  simp only [e2, h1]
  rw [if_pos trivial, if_pos trivial, hc, if_pos rfl]
theorem getV_long {m : Img} (h : InImg m) {more : List UInt8} (hm : more ≠ []) : getV (sealB (bodyB m ++ more)) = (⟨[], []⟩, 5) := by
  rw [getV_seal (by have := bodyB_len m; rw [List.length_append]; omega) (by rw [bodyB_eq]; rfl)]
  have h1 := (img_rd m h).ok more
  have e2 : (bodyB m ++ more).drop 4 = encL m.enums ++ (enc m.rts.length ++ m.rts.flatMap encR) ++ more := by rw [bodyB_eq]; rfl
  simp only [e2, h1]
  rw [if_pos trivial, if_neg hm, if_neg (by decide)]
theorem getV_cut {m : Img} (h : InImg m) {k : Nat} (h4 : 4 ≤ k) (hk : k < (bodyB m).length) : (getV (sealB ((bodyB m).take k))).2 = 4 := by
  have e4 : (bodyB m).take 4 = [83, 89, 78, 49] := by rw [bodyB_eq]; rfl
  rw [getV_seal (by rw [List.length_take]; omega) (by rw [List.take_take, Nat.min_eq_left h4]; exact e4)]
  have e2 : (bodyB m).drop 4 = encL m.enums ++ (enc m.rts.length ++ m.rts.flatMap encR) := by rw [bodyB_eq]; rfl
  have h1 := (img_rd m h).end_ (((bodyB m).take k).drop 4) ((bodyB m).drop k) (by
    rw [← e2]
    have e5 : (bodyB m).take k ++ (bodyB m).drop k = bodyB m := List.take_append_drop ..
    have e6 : ((bodyB m).take k ++ (bodyB m).drop k).drop 4 = ((bodyB m).take k).drop 4 ++ (bodyB m).drop k := by
      rw [List.drop_append_of_le_length (by rw [List.length_take]; omega)]
    rw [← e6, e5]) (by
    intro e
    have h3 := congrArg List.length e
    rw [List.length_drop, List.length_nil] at h3
    omega)
  simp [h1]
end Go.Proofs.YtgmojjdojcmnaaaDoor
