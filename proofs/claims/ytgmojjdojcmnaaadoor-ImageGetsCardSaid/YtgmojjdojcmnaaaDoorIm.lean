/-
  Images as plain data; their bytes; readers of bytes; the checksum. No Go in sight.
-/
namespace Go.Proofs.YtgmojjdojcmnaaaDoor

structure Ins where
  op : Int
  a : Int
  b : Int
  c : Int
  d : Int
deriving DecidableEq, Inhabited
structure Rtn where
  name : List UInt8
  ins : List Int
  outs : List Int
  regs : Int
  init : List Int
  code : List Ins
deriving DecidableEq, Inhabited
structure Img where
  enums : List Int
  rts : List Rtn
deriving DecidableEq, Inhabited

/-! bytes of a number -/
def u32 (n : Int) : Nat := (n % 4294967296).toNat
def enc (n : Int) : List UInt8 := [UInt8.ofNat (u32 n), UInt8.ofNat (u32 n / 256), UInt8.ofNat (u32 n / 65536), UInt8.ofNat (u32 n / 16777216)]
def encL (l : List Int) : List UInt8 := enc l.length ++ l.flatMap enc
def encI (i : Ins) : List UInt8 := [i.op, i.a, i.b, i.c, i.d].flatMap enc
def encR (r : Rtn) : List UInt8 := enc r.name.length ++ r.name ++ encL r.ins ++ encL r.outs ++ enc r.regs ++ encL r.init ++ enc r.code.length ++ r.code.flatMap encI
def bodyB (m : Img) : List UInt8 := [83, 89, 78, 49] ++ encL m.enums ++ enc m.rts.length ++ m.rts.flatMap encR
def sumF (h : Nat) (l : List UInt8) : Nat := l.foldl (fun h c => ((h ^^^ c.toNat) * 16777619) % 4294967296) h
def sumB (l : List UInt8) : Nat := sumF 2166136261 l
def putB (m : Img) : List UInt8 := bodyB m ++ enc (sumB (bodyB m))

/-! readers: what is left, and the first error -/
structure St where
  rest : List UInt8
  e : Int
deriving DecidableEq, Inhabited
def dec (a b c d : UInt8) : Int :=
  let u : Nat := a.toNat + 256 * b.toNat + 65536 * c.toNat + 16777216 * d.toNat
  if u < 2147483648 then u else (u : Int) - 4294967296
def failS (s : St) (e : Int) : St := if s.e = 0 then ⟨s.rest, e⟩ else s
def numS (s : St) : Int × St :=
  if s.e = 0 then (if s.rest.length < 4 then (0, ⟨s.rest, 4⟩) else (dec (s.rest.getD 0 0) (s.rest.getD 1 0) (s.rest.getD 2 0) (s.rest.getD 3 0), ⟨s.rest.drop 4, 0⟩)) else (0, s)
def manyS (s : St) : Int × St :=
  let x := numS s
  if x.2.e = 0 then (if x.1 < 0 ∨ 65536 < x.1 then (0, ⟨x.2.rest, 5⟩) else x) else (0, x.2)
def textS (s : St) : List UInt8 × St :=
  let x := manyS s
  if (x.2.rest.length : Int) < x.1 then ([], failS x.2 4) else (x.2.rest.take x.1.toNat, ⟨x.2.rest.drop x.1.toNat, x.2.e⟩)
def allF : Nat → List Int → St → List Int × St
  | 0, acc, s => (acc, s)
  | n + 1, acc, s => if s.e = 0 then allF n (acc ++ [(numS s).1]) (numS s).2 else (acc, s)
def allS (s : St) : List Int × St := allF (manyS s).1.toNat [] (manyS s).2
def insS (s : St) : Ins × St :=
  let x0 := numS s
  let x1 := numS x0.2
  let x2 := numS x1.2
  let x3 := numS x2.2
  let x4 := numS x3.2
  (⟨x0.1, x1.1, x2.1, x3.1, x4.1⟩, x4.2)
def codeF : Nat → List Ins → St → List Ins × St
  | 0, acc, s => (acc, s)
  | n + 1, acc, s => if s.e = 0 then codeF n (acc ++ [(insS s).1]) (insS s).2 else (acc, s)
def codeS (s : St) : List Ins × St := codeF (manyS s).1.toNat [] (manyS s).2
def rtnS (s : St) : Rtn × St :=
  let x0 := textS s
  let x1 := allS x0.2
  let x2 := allS x1.2
  let x3 := numS x2.2
  let x4 := allS x3.2
  let x5 := codeS x4.2
  (⟨x0.1, x1.1, x2.1, x3.1, x4.1, x5.1⟩, x5.2)
def rtsF : Nat → List Rtn → St → List Rtn × St
  | 0, acc, s => (acc, s)
  | n + 1, acc, s => if s.e = 0 then rtsF n (acc ++ [(rtnS s).1]) (rtnS s).2 else (acc, s)
def imgS (s : St) : Img × St :=
  let x0 := allS s
  let n := manyS x0.2
  let x1 := rtsF n.1.toNat [] n.2
  (⟨x0.1, x1.1⟩, x1.2)

/-! the validation -/
def nameB (s : List UInt8) : Bool := !s.isEmpty && decide (s.length ≤ 40) && s.all (fun c => c == 95 || (decide (48 ≤ c) && decide (c ≤ 57)) || (decide (65 ≤ c) && decide (c ≤ 90)) || (decide (97 ≤ c) && decide (c ≤ 122)))
def withinB (at_ n most : Int) : Bool := decide (0 ≤ at_) && decide (at_ ≤ most) && decide (n ≤ most - at_)
def validB (k : Nat) (t : Int) : Bool := decide (1 ≤ t) && decide (t < 3 + k)
def formB (i : Ins) (at_ code : Int) : Bool :=
  if i.op = 1 then i.c == 0 && i.d == 0 else
  if i.op = 2 then i.c == 0 && i.d == 0 else
  if i.op = 3 then i.c == 0 && i.d == 0 else
  if i.op = 4 then i.c == 0 && i.d == 0 else
  if i.op = 5 then (i.c == 1 || i.c == 2) && i.d == 0 else
  if i.op = 6 then decide (3 ≤ i.d) && decide (i.d ≤ 16) else
  if i.op = 7 then i.a == 0 && (decide (at_ < i.b) && decide (i.b ≤ code)) && i.c == 0 && i.d == 0 else
  if i.op = 8 then (decide (at_ < i.b) && decide (i.b ≤ code)) && i.c == 0 && i.d == 0 else
  if i.op = 9 then true else
  if i.op = 10 then i.c == 0 && i.d == 0 else false
def rangeB (m : Img) (r : Rtn) (k : Nat) (i : Ins) : Bool :=
  let R := fun x => withinB x 1 r.regs
  let M := fun x => withinB x 1 r.init.length
  let y := if 0 ≤ i.a then m.rts.getD i.a.toNat ⟨[], [], [], 0, [], []⟩ else ⟨[], [], [], 0, [], []⟩
  if i.op = 1 then R i.a && (decide (-32768 ≤ i.b) && decide (i.b ≤ 32767)) else
  if i.op = 2 then R i.a && R i.b else
  if i.op = 3 then R i.a && M i.b else
  if i.op = 4 then M i.a && R i.b else
  if i.op = 5 then R i.a && R i.b else
  if i.op = 6 then R i.a && R i.b && R i.c else
  if i.op = 7 then true else
  if i.op = 8 then R i.a else
  if i.op = 9 then (decide (0 ≤ i.a) && decide (i.a < k)) && withinB i.b y.init.length r.init.length && withinB i.c y.ins.length r.regs && withinB i.d y.outs.length r.regs else
  if i.op = 10 then (decide (0 ≤ i.a) && decide (i.a < k)) && withinB i.b y.init.length r.init.length else true
def codeE (m : Img) (r : Rtn) (k : Nat) : Nat → List Ins → Int
  | _, [] => 0
  | at_, i :: l => if formB i at_ r.code.length then (if rangeB m r k i then codeE m r k (at_ + 1) l else 14) else 5
def limB (r : Rtn) : Bool := decide (r.ins.length ≤ 64) && decide (r.outs.length ≤ 64) && decide (r.init.length ≤ 16384) && decide (r.code.length ≤ 32768) && decide (r.regs ≤ 32768)
def inB (v : Int) : Bool := decide (-32768 ≤ v) && decide (v ≤ 32767)
def rtnE (m : Img) (k : Nat) (r : Rtn) : Int :=
  if !nameB r.name then 6 else if !limB r then 3 else if !(r.ins.all (validB m.enums.length) && r.outs.all (validB m.enums.length)) then 10
  else if r.regs < r.ins.length + r.outs.length then 9 else if !r.init.all inB then 14 else codeE m r k 0 r.code
def rtsE (m : Img) : Nat → List Rtn → Int
  | _, [] => 0
  | k, r :: l => if rtnE m k r = 0 then rtsE m (k + 1) l else rtnE m k r
def tagB (n : Int) : Bool := decide (1 ≤ n) && decide (n ≤ 16)
def chk (m : Img) : Int :=
  if 24 < m.enums.length ∨ 96 < m.rts.length then 3 else if !m.enums.all tagB then 14 else if m.rts.length = 0 then 5 else rtsE m 0 m.rts

/-- the image of bytes, or the error -/
def getV (b : List UInt8) : Img × Int :=
  if b.length < 8 then (⟨[], []⟩, 4)
  else
    let n := b.length - 4
    if enc (sumB (b.take n)) ≠ b.drop n then (⟨[], []⟩, 15)
    else if b.take 4 ≠ [83, 89, 78, 49] then (⟨[], []⟩, 5)
    else
      let x := imgS ⟨(b.take n).drop 4, 0⟩
      let e := if x.2.e = 0 then (if x.2.rest = [] then chk x.1 else 5) else x.2.e
      if e = 0 then (x.1, 0) else (⟨[], []⟩, e)
end Go.Proofs.YtgmojjdojcmnaaaDoor
