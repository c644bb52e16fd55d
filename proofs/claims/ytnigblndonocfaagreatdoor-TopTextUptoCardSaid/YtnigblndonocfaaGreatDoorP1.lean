/- A part of the proof. -/
import Derived.Test.YtnigblndonocfaaGreatDoorBase
import Derived.Test.YtnigblndonocfaaGreatDoorShelf
import Derived.Maps.AppendAt
import Derived.RegionTactic
import Derived.OwnWalk
import Derived.Lib.SmallJoins
import Derived.Lib.RabinKarpLaws
set_option linter.unusedVariables false
set_option linter.unusedSimpArgs false
namespace Go.Proofs.YtnigblndonocfaaGreatDoor
set_option maxRecDepth 100000
set_option maxHeartbeats 3200000
open Go.RowKit Go.BigFrame Go.Proofs.Tryz
def iP (w:yM) (g:Nat) (t:TypeId) (cs:Array Value):Prop:=w.heap[g]?=some (.cells cs t (0,0))
section
variable {w w':yM} {g:Nat} {t:TypeId} {cs:Array Value}
theorem iP.lt (h:iP w g t cs):g<w:=by
 rcases Nat.lt_or_ge g w with hlt | hge
 ·exact hlt
 unfold iP at h;rw[Array.getElem?_eq_none hge]at h;cases h
theorem iP.is_le (h:iP w g t cs):Le (g+1) w:=⟨h.lt⟩
theorem iP.cell (h:iP w g t cs) (i:Nat):w.cell? (g,i)=cs[i]?:=cell_of_row w g i cs t (0,0) h
theorem iP.frozen (h:iP w g t cs) (i:Nat):w.frozen? (g,i)=false:=by
 unfold iP at h;simp[World.frozen?,h]
theorem iP.new (w:yM) (t:TypeId) (cs:Array Value):iP (w.alloc (.cells cs t)) w.heap.size t cs:=heap_alloc_new w _
theorem iP.drew (h:iP w g t cs):iP w.drew g t cs:=h
theorem iP.alloc (h:iP w g t cs) (o:Obj):iP (w.alloc o) g t cs:=(Below.heap_alloc w o g h.lt).trans h
theorem iP.jx (h:iP w g t cs) (i:Nat) (u:Value):iP (w.setCell (g,i) u) g t (cs.setIfInBounds i u):=by
 unfold iP at h⊢;simp[World.setCell,Array.getElem?_modify,h]
theorem iP.qU (h:iP w g t cs) {p:Addr} (hp:g≠p.block) (u:Value):iP (w.setCell p u) g t cs:=(Below.heap_setCell w p u g hp).trans h
theorem iP.more (h:iP w g t cs) (y:yM):iP (w.more y) g t cs:=((qB w y).block g h.lt).trans h
theorem iP.after (h:iP w g t cs) [k:ik w w']:iP w' g t cs:=(k.below.block g h.lt).trans h
theorem iP.grown (h:iP w g t cs) {row:Option Nat} (hb:w.grownBy w' row) (hg:some g≠row):iP w' g t cs:=(hb.block g h.lt hg).trans h
end
theorem vm {w0 wr w':yM} [h:ik w0 wr] {B:Nat} {e:TypeId} {size n:Nat} {v:Value} {xs:zO} (hown:wr.ownsRow B e size v n xs) (hB:w0<=B) (hg:wr.grownBy w' v.ownBlock):ik w0 w':=
 ⟨h.below.grown hg h.below.size fun k hk=>Nat.le_trans hB (hown.lt k hk).1⟩
section
open Go.RowKit Go.BigFrame
theorem kp {p:Prop} (h:p:=by kernel_rfl):p:=h
theorem iu {p:Prop} (h:p:=by omega):p:=h
theorem iI {p:Prop} (h:p:=by decide):p:=h
theorem iR {p:Prop} (h:p:=by exact zc):p:=h
theorem iy {p:Prop} (h:p):Hid p:=h
theorem jt {α:Type} (a:α):∃x,a=x:=⟨a,rfl⟩
theorem sC:(∀{α:Type} (l:List α) (i:Nat) (a:α),l.toArray.setIfInBounds i a=(l.set i a).toArray)/\(∀{α:Type} (x:α) (xs:List α) (b:α),(x::xs).set 0 b=b::xs)/\(∀{α:Type} (x:α) (xs:List α) (n:Nat) (b:α),(x::xs).set (n+1) b=x::xs.set n b):=⟨fun l i a=>List.setIfInBounds_toArray l i a,fun _ _ _=>List.set_cons_zero,fun _ _ _ _=>List.set_cons_succ⟩
section
variable {w:yM} {g:Nat} {t:TypeId}
theorem iP.c2 {x0 x1:Value} (h:iP w g t #[x0,x1]):w.cell? g=some x0/\w.cell? (g,1)=some x1:=⟨(h.cell 0).trans rfl,(h.cell 1).trans rfl⟩
theorem iP.c3 {x0 x1 x2:Value} (h:iP w g t #[x0,x1,x2]):w.cell? g=some x0/\w.cell? (g,1)=some x1/\w.cell? (g,2)=some x2:=⟨(h.cell 0).trans rfl,(h.cell 1).trans rfl,(h.cell 2).trans rfl⟩
theorem iP.c4 {x0 x1 x2 x3:Value} (h:iP w g t #[x0,x1,x2,x3]):w.cell? g=some x0/\w.cell? (g,1)=some x1/\w.cell? (g,2)=some x2/\w.cell? (g,3)=some x3:=⟨(h.cell 0).trans rfl,(h.cell 1).trans rfl,(h.cell 2).trans rfl,(h.cell 3).trans rfl⟩
theorem iP.c6 {x0 x1 x2 x3 x4 x5:Value} (h:iP w g t #[x0,x1,x2,x3,x4,x5]):w.cell? g=some x0/\w.cell? (g,1)=some x1/\w.cell? (g,2)=some x2/\w.cell? (g,3)=some x3/\w.cell? (g,4)=some x4/\w.cell? (g,5)=some x5:=⟨(h.cell 0).trans rfl,(h.cell 1).trans rfl,(h.cell 2).trans rfl,(h.cell 3).trans rfl,(h.cell 4).trans rfl,(h.cell 5).trans rfl⟩
theorem iP.c7 {x0 x1 x2 x3 x4 x5 x6:Value} (h:iP w g t #[x0,x1,x2,x3,x4,x5,x6]):w.cell? g=some x0/\w.cell? (g,1)=some x1/\w.cell? (g,2)=some x2/\w.cell? (g,3)=some x3/\w.cell? (g,4)=some x4/\w.cell? (g,5)=some x5/\w.cell? (g,6)=some x6:=⟨(h.cell 0).trans rfl,(h.cell 1).trans rfl,(h.cell 2).trans rfl,(h.cell 3).trans rfl,(h.cell 4).trans rfl,(h.cell 5).trans rfl,(h.cell 6).trans rfl⟩
theorem iP.c8 {x0 x1 x2 x3 x4 x5 x6 x7:Value} (h:iP w g t #[x0,x1,x2,x3,x4,x5,x6,x7]):w.cell? g=some x0/\w.cell? (g,1)=some x1/\w.cell? (g,2)=some x2/\w.cell? (g,3)=some x3/\w.cell? (g,4)=some x4/\w.cell? (g,5)=some x5/\w.cell? (g,6)=some x6/\w.cell? (g,7)=some x7:=⟨(h.cell 0).trans rfl,(h.cell 1).trans rfl,(h.cell 2).trans rfl,(h.cell 3).trans rfl,(h.cell 4).trans rfl,(h.cell 5).trans rfl,(h.cell 6).trans rfl,(h.cell 7).trans rfl⟩
theorem iP.f2 {cs:Array Value} (h:iP w g t cs):w.frozen? g=false/\w.frozen? (g,1)=false:=⟨h.frozen 0,h.frozen 1⟩
theorem iP.f3 {cs:Array Value} (h:iP w g t cs):w.frozen? g=false/\w.frozen? (g,1)=false/\w.frozen? (g,2)=false:=⟨h.frozen 0,h.frozen 1,h.frozen 2⟩
theorem iP.f4 {cs:Array Value} (h:iP w g t cs):w.frozen? g=false/\w.frozen? (g,1)=false/\w.frozen? (g,2)=false/\w.frozen? (g,3)=false:=⟨h.frozen 0,h.frozen 1,h.frozen 2,h.frozen 3⟩
theorem iP.f6 {cs:Array Value} (h:iP w g t cs):w.frozen? g=false/\w.frozen? (g,1)=false/\w.frozen? (g,2)=false/\w.frozen? (g,3)=false/\w.frozen? (g,4)=false/\w.frozen? (g,5)=false:=⟨h.frozen 0,h.frozen 1,h.frozen 2,h.frozen 3,h.frozen 4,h.frozen 5⟩
theorem iP.f7 {cs:Array Value} (h:iP w g t cs):w.frozen? g=false/\w.frozen? (g,1)=false/\w.frozen? (g,2)=false/\w.frozen? (g,3)=false/\w.frozen? (g,4)=false/\w.frozen? (g,5)=false/\w.frozen? (g,6)=false:=⟨h.frozen 0,h.frozen 1,h.frozen 2,h.frozen 3,h.frozen 4,h.frozen 5,h.frozen 6⟩
theorem iP.f8 {cs:Array Value} (h:iP w g t cs):w.frozen? g=false/\w.frozen? (g,1)=false/\w.frozen? (g,2)=false/\w.frozen? (g,3)=false/\w.frozen? (g,4)=false/\w.frozen? (g,5)=false/\w.frozen? (g,6)=false/\w.frozen? (g,7)=false:=⟨h.frozen 0,h.frozen 1,h.frozen 2,h.frozen 3,h.frozen 4,h.frozen 5,h.frozen 6,h.frozen 7⟩
end
end
abbrev iB:=@Lib.hid
abbrev mW:=@Option.bind_eq_some_iff
abbrev oF:=@List.setIfInBounds_toArray
abbrev mo:=@List.length_append
abbrev lp:=@decide_eq_true
abbrev iV:=@if_neg
abbrev jW:=@Nat.le_trans
abbrev py:=@List.length_cons
abbrev oq:=@List.set_cons_succ
abbrev oB:=@List.set_cons_zero
abbrev iG:=@if_pos
abbrev js:=@Nat.le_refl
abbrev kD:=@List.append_assoc
abbrev uW:=@List.mem_cons
abbrev jR:=@bodyPost_ret
abbrev TC:=@List.not_mem_nil
abbrev lP:=@List.cons_append
abbrev om:=@List.mem_of_getElem?
abbrev nG:=@List.mem_cons_self
abbrev mT:=@Bool.and_eq_true
abbrev qn:=@List.getElem?_eq_getElem
abbrev rq:=@List.getElem?_eq_some_iff
abbrev lI:=@Nat.le_of_eq
abbrev wJ:=@List.length_nil
abbrev nY:=@List.length_drop
abbrev mJ:=@List.map_cons
abbrev qj:=@List.mem_cons_of_mem
abbrev nQ:=@congrArg
abbrev pf:=@List.take_length
abbrev t_:=@Nat.zero_add
abbrev oV:=@List.append_nil
abbrev pZ:=@List.flatMap_cons
abbrev pE:=@List.length_map
abbrev rO:=@Nat.lt_of_lt_of_le
abbrev sD:=@List.take_succ_cons
abbrev wk:=@List.getElem?_append_left
abbrev wC:=@List.getD_eq_getElem?_getD
abbrev qu:=@Bool.false_and
abbrev xK:=@List.getElem?_append_right
abbrev yE:=@Bool.false_ne_true
abbrev qT:=@Bool.and_false
abbrev uB:=@List.drop_succ_cons
abbrev sb:=@List.nil_append
abbrev ls:=@Ne.symm
abbrev qa:=@Nat.lt_or_ge
abbrev ry:=@List.tail_cons
abbrev sI:=@Option.some.inj
abbrev rP:=@List.take_zero
abbrev s_:=@List.map_append
abbrev xH:=@List.length_singleton
abbrev sS:=@List.drop_zero
abbrev B_:=@List.eq_nil_of_length_eq_zero
abbrev ue:=@List.mem_append
abbrev vO:=@of_decide_eq_true
abbrev wc:=@Nat.le_succ_of_le
abbrev xL:=@List.mem_map_of_mem
abbrev uG:=@Bool.or_eq_true
abbrev wb:=@Nat.le_of_not_lt
abbrev Bn:=@List.drop_eq_nil_of_le
abbrev yw:=@List.mem_singleton
abbrev tW:=@List.map_nil
abbrev FF:=@Array.getElem?_eq_none
abbrev IX:=@List.take_succ_eq_append_getElem
abbrev Dn:=@List.take_of_length_le
abbrev CZ:=@List.takeWhile_cons
abbrev Dj:=@World.cell?_of_block
abbrev uR:=@Nat.le_succ
abbrev xI:=@Bool.true_and
abbrev Bk:=@List.all_eq_true
abbrev Fw:=@Array.replicate_succ
abbrev EO:=@Array.replicate_zero
abbrev KY:=@Array.getElem?_setIfInBounds
abbrev wB:=@Nat.zero_le
abbrev Fa:=@List.flatMap_append
abbrev FK:=@List.append_toArray
abbrev Gv:=@List.take_append_drop
abbrev yQ:=@List.mem_map
abbrev zH:=@Nat.zero_mul
abbrev Lj:=@List.mem_or_eq_of_mem_set
abbrev FL:=@World.ownsRow_nil
abbrev yr:=@Nat.mul_one
abbrev Fu:=@List.size_toArray
abbrev EY:=@List.push_toArray
abbrev IV:=@List.length_replicate
abbrev Bh:=@List.all_cons
abbrev Cx:=@List.mapM_cons
abbrev Fq:=@List.getElem_mem
abbrev Fi:=@List.length_take
abbrev CL:=@Nat.add_assoc
abbrev IL:=@List.map_congr_left
abbrev MG:=@List.drop_eq_getElem_cons
abbrev LH:=@List.getElem?_eq_none
abbrev CQ:=@Nat.le_of_lt
abbrev IU:=@Bool.not_eq_true'
abbrev JL:=@List.getElem?_map
abbrev Nc:=@Nat.add_sub_cancel_left
abbrev I':=@List.getElem?_set
abbrev He:=@List.all_append
abbrev Gh:=@List.length_set
abbrev L6:=@List.replicate_succ
abbrev xZ:=@List.map_map
abbrev yb:=@Addr.add_lit
abbrev xP:=@Nat.add_zero
theorem xT:(∀{α:Type} (x:α) (xs:List α),(x::xs).length=xs.length+1)/\(∀{α:Type},([]:List α).length=0)/\(∀n:Nat,0+n=n):=⟨fun _ _=>rfl,rfl,Nat.zero_add⟩
theorem la:(∀{α:Type} {a b:α} {l:List α},(a∈b::l)=(a=b\/a∈l))/\(∀{α:Type} {a:α},(a∈([]:List α))=False)/\(∀(p:Prop),(p\/False)=p):=⟨propext List.mem_cons,eq_false List.not_mem_nil,or_false⟩
section
variable {P:Program} (w:yM)
theorem yP (base:Nat) (t ty e:TypeId) (i:TypeInfo) (size:Nat) (ht:P.underlying t=some (.slice e)) (hi:P.info? e=some i)
  (v:Value) (n:Nat) (xs:zO) (hown:w.ownsRow base e size v n xs) (c:Nat):(Builtin.append_ #[t,t] ty #[v,.slice none 0 c]).run P w=.ok v w:=by
 rcases hown.2 with⟨rfl,rfl⟩ | ⟨g,cap,cur,rfl,_,_,hnc,_⟩
 ·simp[Builtin.append_,run_underlying ht,sizeOf,typeInfo,hi,Builtin.lenOf,Builtin.firstCells]
 simp[Builtin.append_,run_underlying ht,sizeOf,typeInfo,hi,Builtin.lenOf,Builtin.firstCells,hnc,storeCells]
theorem CP (base:Nat) (t ty e:TypeId) (i:TypeInfo) (z:Value) (size bytes:Nat) (ht:P.underlying t=some (.slice e)) (hi:P.info? e=some i) (hz:i.zero=some z)
  (hsize:i.size=size) (hby:i.bytes=bytes) (hzs:z.cells.size=size) (hsz:0<size)
  (v:Value) (n:Nat) (xs:zO) (hown:w.ownsRow base e size v n xs)
  (B:Nat) (A:zA) (m c:Nat) (news:zO) (hr:oZ w B size A m news) (h1:∀u∈news,u.oneCell'=true)
  (h63:n+m<=maxLen) (hbytes:(n+m)*bytes<=140737488355328) (hbase:base<=w) :
  ∃v' w',(Builtin.append_ #[t,t] ty #[v,(A,m,c)]).run P w=.ok v' w'/\w'.ownsRow base e size v' (n+m) (xs++news)/\w.grownBy w' v.ownBlock /\
   (v'.ownBlock=v.ownBlock\/v'.ownBlock=some w):=by
 rcases A with _ | U
 ·have hm:m=0:=by
   rcases Nat.eq_zero_or_pos m with I | I
   ·exact I
   obtain⟨U,h,_⟩:=hr.2 I;cases h
  subst hm;have R:=B_ (by simpa using hr.1);subst R;exact⟨v,w,yP w base t ty e i size ht hi v n xs hown c,by simpa using hown,World.grownBy.refl w _,.inl rfl⟩
 have o:∀j u,news[j]?=some u->w.cell? (U.add j)=some u:=by
  intro j u hu;rcases Nat.eq_zero_or_pos m with I | I
  ·subst I
   have R:=B_ (by simpa using hr.1);subst R;simp at hu
  obtain⟨a1,h,_,hc⟩:=hr.2 I;injection h with h
  subst h;exact hc j u hu
 obtain⟨v',w',J,h2,h3,_,h5⟩:=run_append_own_at (P:=P) w base t ty e i z size bytes ht hi hz hsize hby hzs hsz v n xs hown U m c news hr.1 o h1 h63 hbytes hbase;exact⟨v',w',J,h2,h3,h5⟩
theorem jZ {o:Oper} {a:Act} {K:Act->World->Prop} {Q:Exit->Act->World->Prop} (s x:Operand) (t:TypeId)
  (ho:o.op=.call { callee:=.builtin .append,args:=#[s,x],argTypes:=#[t,t] })
  (base:Nat) (e:TypeId) (i:TypeInfo) (z:Value) (size bytes:Nat) (ht:P.underlying t=some (.slice e)) (hi:P.info? e=some i) (hz:i.zero=some z)
  (hsize:i.size=size) (hby:i.bytes=bytes) (hzs:z.cells.size=size) (hsz:0<size)
  (v:Value) (n:Nat) (xs:zO) (hs:a.eval s=v) (hown:w.ownsRow base e size v n xs)
  (B:Nat) (A:zA) (m c:Nat) (news:zO) (hx:a.eval x=.slice A m c) (hr:oZ w B size A m news) (h1:∀u∈news,u.oneCell'=true)
  (h63:n+m<=maxLen) (hbytes:(n+m)*bytes<=140737488355328) (hbase:base<=w.heap.size)
  (h:∀v' w',w'.ownsRow base e size v' (n+m) (xs++news)->w.grownBy w' v.ownBlock->(v'.ownBlock=v.ownBlock\/v'.ownBlock=some w.heap.size)->K (a.put o.dst v') w'):o.wp P a w K Q:=by
 obtain⟨v',w',j,R,J,I⟩:=CP (P:=P) w base t o.type e i z size bytes ht hi hz hsize hby hzs hsz v n xs hown B A m c news hr h1 h63 hbytes hbase;unfold Oper.wp execOp;simp only[ho,resolve,invoke,builtin,Sem.run_bind,Sem.run_pure,Result.andThen_ok,List.map_toArray,mJ,tW,hs,hx,j];exact h v' w' R J I
theorem ka {ops:Array Oper} {rest:List Oper} {o:Oper} {a:Act} {Q:Exit->Act->yM->Prop} (hgd:o.guard=none) (s x:Operand) (t:TypeId)
  (ho:o.op=.call { callee:=.builtin .append,args:=#[s,x],argTypes:=#[t,t] })
  (base:Nat) (e:TypeId) (i:TypeInfo) (z:Value) (size bytes:Nat) (ht:P.underlying t=some (.slice e)) (hi:P.info? e=some i) (hz:i.zero=some z)
  (hsize:i.size=size) (hby:i.bytes=bytes) (hzs:z.cells.size=size) (hsz:0<size)
  (v:Value) (n:Nat) (xs:zO) (hs:a.eval s=v) (hown:w.ownsRow base e size v n xs)
  (B:Nat) (A:zA) (m c:Nat) (news:zO) (hx:a.eval x=.slice A m c) (hr:oZ w B size A m news) (h1:∀u∈news,u.oneCell'=true)
  (h63:n+m<=maxLen) (hbytes:(n+m)*bytes<=140737488355328) (hbase:base<=w.heap.size)
  (h:∀v' w',w'.ownsRow base e size v' (n+m) (xs++news)->w.grownBy w' v.ownBlock->(v'.ownBlock=v.ownBlock\/v'.ownBlock=some w.heap.size)->wpList P ops Q rest (a.put o.dst v') w'):wpList P ops Q (o::rest) a w:=
 wpList_plain hgd fun _ hK=>jZ w s x t ho base e i z size bytes ht hi hz hsize hby hzs hsz v n xs hs hown B A m c news hx hr h1 h63 hbytes hbase fun v' w' h2 h3 h4=>hK _ _ (h v' w' h2 h3 h4)
end
section
open Go.RowKit Go.BigFrame
inductive Tx where
 |mk (k o t v:Int) (s:yB) (A:zA) (c:Nat) (xs:List Tx)
namespace Tx
def kind:Tx->Int | mk k _ _ _ _ _ _ _=>k
def op:Tx->Int | mk _ o _ _ _ _ _ _=>o
def ty:Tx->Int | mk _ _ t _ _ _ _ _=>t
def va:Tx->Int | mk _ _ _ v _ _ _ _=>v
def name:Tx->yB | mk _ _ _ _ s _ _ _=>s
def ad:Tx->zA | mk _ _ _ _ _ A _ _=>A
def cap:Tx->Nat | mk _ _ _ _ _ _ c _=>c
def args:Tx->List Tx | mk _ _ _ _ _ _ _ xs=>xs
def val (e:Tx):Value:=.agg #[e.kind,e.op,e.ty,e.va,e.name,(e.ad,e.args,e.cap)]
def cells (e:Tx):Array Value:=#[e.kind,e.op,e.ty,e.va,e.name,(e.ad,e.args,e.cap)]
mutual
def size:Tx->Nat
 |mk _ _ _ _ _ _ _ xs=>sizes xs+1
def sizes:List Tx->Nat
 |[]=>0
 |a::xs=>size a+sizes xs
end
mutual
def depth:Tx->Nat
 |mk _ _ _ _ _ _ _ xs=>depths xs+1
def depths:List Tx->Nat
 |[]=>0
 |a::xs=>max (depth a) (depths xs)
end
mutual
def list:Tx->List Tx
 |mk k o t v s A c xs=>mk k o t v s A c xs::lists xs
def lists:List Tx->List Tx
 |[]=>[]
 |a::xs=>list a++lists xs
end
theorem sizes_append (a b:List Tx):sizes (a++b)=sizes a+sizes b:=by
 induction a with
 |nil=>simp[sizes]
 |cons x a ih=>rw[lP,sizes,sizes,ih];omega
theorem lists_append (a b:List Tx):lists (a++b)=lists a++lists b:=by
 induction a with
 |nil=>simp[lists]
 |cons x a ih=>rw[lP,lists,lists,ih,kD]
theorem depths_append (a b:List Tx):depths (a++b)=max (depths a) (depths b):=by
 induction a with
 |nil=>simp[depths]
 |cons x a ih=>rw[lP,depths,depths,ih];omega
theorem sizes_one (a:Tx):sizes [a]=size a:=by simp[sizes]
theorem lists_one (a:Tx):lists [a]=list a:=by simp[lists]
theorem depths_one (a:Tx):depths [a]=depth a:=by simp[depths]
theorem take_succ {l:List Tx} {k:Nat} {e:Tx} (h:l[k]?=some e):l.take (k+1)=l.take k++[e]:=by
 obtain⟨j,rfl⟩:=rq.1 h;exact IX j
theorem sizes_take {l:List Tx} {k:Nat} {e:Tx} (h:l[k]?=some e):sizes (l.take (k+1))=sizes (l.take k)+size e:=by rw[take_succ h,sizes_append,sizes_one]
theorem depths_take {l:List Tx} {k:Nat} {e:Tx} (h:l[k]?=some e):depths (l.take (k+1))=max (depths (l.take k)) (depth e):=by rw[take_succ h,depths_append,depths_one]
theorem lists_take {l:List Tx} {k:Nat} {e:Tx} (h:l[k]?=some e):lists (l.take (k+1))=lists (l.take k)++list e:=by rw[take_succ h,lists_append,lists_one]
theorem sizes_mem {l:List Tx} {k:Nat} {e:Tx} (h:l[k]?=some e):size e<=sizes l:=by
 have o:=sizes_take h;have j:=sizes_append (l.take (k+1)) (l.drop (k+1));rw[Gv]at j;omega
theorem sizes_take_le (l:List Tx) (k:Nat):sizes (l.take k)<=sizes l:=by
 have j:=sizes_append (l.take k) (l.drop k);rw[Gv]at j;omega
mutual
theorem list_length:∀e:Tx,(list e).length=size e
 |mk k o t v s A c xs=>by rw[list,size,py,lists_length xs]
theorem lists_length:∀xs:List Tx,(lists xs).length=sizes xs
 |[]=>rfl
 |a::xs=>by rw[lists,sizes,mo,list_length a,lists_length xs]
end
mutual
theorem depth_le_size:∀e:Tx,depth e<=size e
 |mk k o t v s A c xs=>by rw[depth,size];have:=depths_le_sizes xs;omega
theorem depths_le_sizes:∀xs:List Tx,depths xs<=sizes xs
 |[]=>by simp[depths]
 |a::xs=>by rw[depths,sizes];have:=depth_le_size a;have:=depths_le_sizes xs;omega
end
end Tx
structure Kf (w:yM) (b o:Nat) (e:Tx):Prop where
 c0:w.cell? (b,o)=e.kind
 c1:w.cell? (b,o+1)=e.op
 c2:w.cell? (b,o+2)=e.ty
 c3:w.cell? (b,o+3)=e.va
 c4:w.cell? (b,o+4)=e.name
 c5:w.cell? (b,o+5)=(e.ad,e.args,e.cap)
mutual
def RX (w:yM):Tx->Prop
 |.mk _ _ _ _ s A c xs=>s.size<=140737488355328/\xs<=c/\c<=9223372036854775807/\xs.length<=140737488355328/\(xs=[]\/∃b o,A=some ⟨b,o,none⟩/\b<w.heap.size/\xX w b o xs)
def xX (w:yM) (b:Nat):Nat->List Tx->Prop
 |_,[]=>True
 |o,e::es=>Kf w b o e/\RX w e/\xX w b (o+6) es
end
theorem Kf.keep {w w':yM} {b o:Nat} {e:Tx} (h:Kf w b o e) (hk:∀i,w'.cell? ⟨b,i,none⟩=w.cell? ⟨b,i,none⟩):Kf w' b o e:=
 ⟨(hk _).trans h.c0,(hk _).trans h.c1,(hk _).trans h.c2,(hk _).trans h.c3,(hk _).trans h.c4,(hk _).trans h.c5⟩
mutual
theorem RX.below {w w':yM} (hb:Below w w w'):∀{e:Tx},RX w e->RX w' e
 |.mk _ _ _ _ s A c xs,h=>by
  rw[RX]at h⊢;obtain⟨h1,h2,h3,h4,h5⟩:=h;refine⟨h1,h2,h3,h4,?_⟩;rcases h5 with h5 | ⟨b,o,h5,h6,h7⟩
  ·exact .inl h5
  exact .inr ⟨b,o,h5,rO h6 hb.size,xX.below hb h6 h7⟩
theorem xX.below {w w':yM} (hb:Below w w w') {b:Nat} (hlt:b<w):∀{o:Nat} {es:List Tx},xX w b o es->xX w' b o es
 |_,[],_=>by rw[xX];trivial
 |o,e::es,h=>by
  rw[xX]at h⊢;exact⟨h.1.keep (fun i=>hb.cell (p:=(b,i)) hlt),RX.below hb h.2.1,xX.below hb hlt h.2.2⟩
end
theorem RX.here {w0:yM} {e:Tx} (h:RX w0 e) (w:yM) [k:ik w0 w]:RX w e:=h.below k.below
theorem RX.bounds {w:yM} {e:Tx} (h:RX w e):e.name.size<=140737488355328/\e.args<=e.cap/\e.cap<=9223372036854775807/\e.args.length<=140737488355328:=by
 cases e;rw[RX]at h;exact⟨h.1,h.2.1,h.2.2.1,h.2.2.2.1⟩
theorem xX.get {w:yM} {b:Nat}:∀{o:Nat} {es:List Tx} {i:Nat} {e:Tx},xX w b o es->es[i]?=some e->Kf w b (o+i*6) e/\RX w e
 |o,[],i,e,_,hi=>by simp at hi
 |o,a::es,0,e,h,hi=>by rw[xX]at h;simp at hi;subst hi;exact⟨by simpa using h.1,h.2.1⟩
 |o,a::es,i+1,e,h,hi=>by
  rw[xX]at h;have:=xX.get h.2.2 (i:=i) (e:=e) (by simpa using hi);rw[show o+(i+1)*6=o+6+i*6 by omega];exact this
theorem RX.arg {w:yM} {e:Tx} (h:RX w e) {i:Nat} (hi:i<e.args) :
  ∃b o a,e.ad=some ⟨b,o,none⟩/\Le (b+1) w/\e.args[i]?=some a/\Kf w b (o+i*6) a/\RX w a:=by
 cases e with
 |mk k o t v s A c xs=>
 rw[RX]at h;rcases h.2.2.2.2 with I | ⟨b,o,I,h6,h7⟩
 ·simp[Tx.args,I]at hi
 have j:=qn hi;obtain⟨R,J⟩:=h7.get j;exact⟨b,o,xs[i],I,⟨h6⟩,j,R,J⟩
theorem xX.all {w:yM} {b:Nat}:∀{o:Nat} {es:List Tx},xX w b o es->∀x∈es,RX w x
 |_,[],_,x,hx=>by simp at hx
 |o,e::es,h,x,hx=>by
  rw[xX]at h;rcases uW.1 hx with rfl | hx
  ·exact h.2.1
  exact xX.all h.2.2 x hx
theorem RX.all {w:yM} {e:Tx} (h:RX w e):∀x∈e.args,RX w x:=by
 cases e with
 |mk k o t v s A c xs=>
 rw[RX]at h;rcases h.2.2.2.2 with j | ⟨b,o,j,h6,h7⟩
 ·simp[Tx.args,j]
 exact h7.all
theorem RX.part {w:yM} {k o t v:Int} {s:yB} {A:zA} {c:Nat} {xs:List Tx} (h:RX w (.mk k o t v s A c xs)) {i:Nat} (hi:i<xs) :
  ∃b p k1 o1 t1 v1 s1 A1 c1 xs1,A=some ⟨b,p,none⟩/\Le (b+1) w/\Hid (xs[i]?=some (.mk k1 o1 t1 v1 s1 A1 c1 xs1))/\Hid (RX w (.mk k1 o1 t1 v1 s1 A1 c1 xs1)) /\
   w.cell? (b,p+i*6)=k1/\w.cell? (b,p+i*6+1)=o1/\w.cell? (b,p+i*6+2)=t1/\w.cell? (b,p+i*6+3)=v1 /\
   w.cell? (b,p+i*6+4)=s1/\w.cell? (b,p+i*6+5)=(A1,xs1,c1):=by
 obtain⟨b,p,a,e,R,I,j,J⟩:=h.arg (i:=i) hi;cases a with
 |mk k1 o1 t1 v1 s1 A1 c1 xs1=>exact⟨b,p,k1,o1,t1,v1,s1,A1,c1,xs1,e,R,I,J,j.c0,j.c1,j.c2,j.c3,j.c4,j.c5⟩
end
section
open Go.RowKit Go.BigFrame
structure nB (α:Type) where
 A:zA
 c:Nat
 l:List α
def nB.val {α:Type} (x:nB α):Value:=.slice x.A x.l x.c
structure sO where
 name:yB
 t:Int
 tag:Int
structure iO where
 name:yB
 ty:Int
 clock:nB sO
structure iW where
 name:yB
 tags:nB yB
structure oX where
 left:nB yB
 right:Tx
structure ma where
 cond:Tx
 dst:Int
 res:Bool
mutual
inductive StT where
 |mk (name:yB) (locals:nB iO) (eqs:nB oX) (A:zA) (c:Nat) (autos:List AuT) (unl:nB ma) (unt:nB ma)
inductive AuT where
 |mk (A:zA) (c:Nat) (states:List StT)
end
structure nh where
 name:yB
 ins:nB iO
 outs:nB iO
 locals:nB iO
 eqs:nB oX
 autos:nB AuT
 assume:nB Tx
 ensure:nB Tx
structure Il where
 enums:nB iW
 nodes:nB nh
structure ir {α:Type} (sz:Nat) (P:yM->Nat->Nat->α->Prop) (w:yM) (x:nB α):Prop where
 cells:x.l=[]\/∃b p,x.A=some ⟨b,p,none⟩/\b<w.heap.size/\∀i y,x.l[i]?=some y->P w b (p+i*sz) y
 le:x.l<=x.c
 cap:x.c<=9223372036854775807
 len:x.l.length<=140737488355328
def tO {α:Type} (P:yM->Nat->Nat->α->Prop):Prop:=∀(w w':yM) (b o:Nat) (y:α),Below w w w'->b<w->P w b o y->P w' b o y
theorem ir.below {α:Type} {sz:Nat} {P:yM->Nat->Nat->α->Prop} (hP:tO P) {w w':yM} {x:nB α} (h:ir sz P w x) (hb:Below w w w'):ir sz P w' x:=by
 refine⟨?_,h.le,h.cap,h.len⟩;rcases h.cells with e | ⟨b,p,e,hlt,hc⟩
 ·exact .inl e
 exact .inr ⟨b,p,e,rO hlt hb.size,fun i y j=>hP _ _ _ _ _ hb hlt (hc i y j)⟩
theorem ir.part {α:Type} {sz:Nat} {P:yM->Nat->Nat->α->Prop} {w:yM} {x:nB α} (h:ir sz P w x) {i:Nat} (hi:i<x.l) :
  ∃b p y,x.A=some ⟨b,p,none⟩/\Le (b+1) w/\Hid (x.l[i]?=some y)/\P w b (p+i*sz) y:=by
 rcases h.cells with e | ⟨b,p,e,hlt,hc⟩
 ·rw[e]at hi;simp at hi
 exact⟨b,p,x.l[i],e,⟨hlt⟩,qn hi,hc i _ (qn hi)⟩
theorem ir.elem {α:Type} {sz:Nat} {P:yM->Nat->Nat->α->Prop} {w:yM} {x:nB α} (h:ir sz P w x) {i:Nat} {y:α} (hy:x.l[i]?=some y):∃b o,P w b o y:=by
 rcases h.cells with e | ⟨b,p,e,hlt,hc⟩
 ·rw[e]at hy;simp at hy
 exact⟨b,_,hc i y hy⟩
theorem ir.nil {α:Type} {sz:Nat} {P:yM->Nat->Nat->α->Prop} (w:yM):ir sz P w ⟨none,0,[]⟩:=⟨.inl rfl,by simp,wB _,by simp⟩
def FY (e:Tx):Prop:=∀x∈e.list,x.ty<=9223372036854775807
def sR (w:yM) (b o:Nat) (s:yB):Prop:=w.cell? (b,o)=s/\s.size<=140737488355328
structure KJ (w:yM) (b o:Nat) (x:sO):Prop where
 tb:x.t<=9223372036854775807
 c0:w.cell? (b,o)=x.name
 c1:w.cell? (b,o+1)=x.t
 c2:w.cell? (b,o+2)=x.tag
 nm:x.name.size<=140737488355328
structure jG (w:yM) (b o:Nat) (x:iO):Prop where
 tb:x.ty<=9223372036854775807
 c0:w.cell? (b,o)=x.name
 c1:w.cell? (b,o+1)=x.ty
 c2:w.cell? (b,o+2)=(x.clock.A,x.clock.l,x.clock.c)
 nm:x.name.size<=140737488355328
 cl:ir 3 KJ w x.clock
structure sM (w:yM) (b o:Nat) (x:iW):Prop where
 c0:w.cell? (b,o)=x.name
 c1:w.cell? (b,o+1)=(x.tags.A,x.tags.l,x.tags.c)
 nm:x.name.size<=140737488355328
 tg:ir 1 sR w x.tags
structure xv (S:Prop) (w:yM) (b o:Nat) (x:oX):Prop where
 tb:FY x.right
 sz:S->x.right.size<=2000000
 c0:w.cell? (b,o)=(x.left.A,x.left.l.length,x.left.c)
 six:Kf w b (o+1) x.right
 lf:ir 1 sR w x.left
 ri:RX w x.right
structure Eo (S:Prop) (w:yM) (b o:Nat) (x:ma):Prop where
 tb:FY x.cond
 sz:S->x.cond.size<=2000000
 six:Kf w b o x.cond
 c6:w.cell? (b,o+6)=x.dst
 c7:w.cell? (b,o+7)=x.res
 co:RX w x.cond
structure Bu (S:Prop) (w:yM) (b o:Nat) (x:Tx):Prop where
 tb:FY x
 sz:S->x.size<=2000000
 six:Kf w b o x
 rx:RX w x
namespace AuT
def ad:AuT->zA | mk A _ _=>A
def cap:AuT->Nat | mk _ c _=>c
def states:AuT->List StT | mk _ _ l=>l
end AuT
namespace StT
def name:StT->yB | mk n _ _ _ _ _ _ _=>n
def locals:StT->nB iO | mk _ l _ _ _ _ _ _=>l
def eqs:StT->nB oX | mk _ _ e _ _ _ _ _=>e
def ad:StT->zA | mk _ _ _ A _ _ _ _=>A
def cap:StT->Nat | mk _ _ _ _ c _ _ _=>c
def autos:StT->List AuT | mk _ _ _ _ _ a _ _=>a
def unl:StT->nB ma | mk _ _ _ _ _ _ u _=>u
def unt:StT->nB ma | mk _ _ _ _ _ _ _ u=>u
end StT
structure Bp (w:yM) (b o:Nat) (x:StT):Prop where
 c0:w.cell? (b,o)=x.name
 c1:w.cell? (b,o+1)=(x.locals.A,x.locals.l.length,x.locals.c)
 c2:w.cell? (b,o+2)=(x.eqs.A,x.eqs.l,x.eqs.c)
 c3:w.cell? (b,o+3)=(x.ad,x.autos,x.cap)
 c4:w.cell? (b,o+4)=(x.unl.A,x.unl.l,x.unl.c)
 c5:w.cell? (b,o+5)=(x.unt.A,x.unt.l,x.unt.c)
mutual
def tY (S:Prop) (w:yM):StT->Prop
 |.mk n l e A c a u v=>n.size<=140737488355328/\ir 3 jG w l/\ir 7 (xv S) w e/\ir 8 (Eo S) w u/\ir 8 (Eo S) w v/\a<=c/\c<=9223372036854775807/\a.length<=140737488355328/\(a=[]\/∃b p,A=some ⟨b,p,none⟩/\b<w.heap.size/\sa S w b p a)
def sd (S:Prop) (w:yM) (b:Nat):Nat->List StT->Prop
 |_,[]=>True
 |o,x::l=>Bp w b o x/\tY S w x/\sd S w b (o+6) l
def zS (S:Prop) (w:yM):AuT->Prop
 |.mk A c l=>l<=c/\c<=9223372036854775807/\l.length<=140737488355328/\(l=[]\/∃b p,A=some ⟨b,p,none⟩/\b<w.heap.size/\sd S w b p l)
def sa (S:Prop) (w:yM) (b:Nat):Nat->List AuT->Prop
 |_,[]=>True
 |o,x::l=>w.cell? (b,o)=(x.ad,x.states,x.cap)/\zS S w x/\sa S w b (o+1) l
end
def xM (S:Prop) (w:yM) (b o:Nat) (x:AuT):Prop:=w.cell? (b,o)=(x.ad,x.states,x.cap)/\zS S w x
def OZ (S:Prop) (w:yM) (b o:Nat) (x:StT):Prop:=Bp w b o x/\tY S w x
structure Gy (S:Prop) (w:yM) (b o:Nat) (x:nh):Prop where
 c0:w.cell? (b,o)=x.name
 c1:w.cell? (b,o+1)=(x.ins.A,x.ins.l,x.ins.c)
 c2:w.cell? (b,o+2)=(x.outs.A,x.outs.l,x.outs.c)
 c3:w.cell? (b,o+3)=(x.locals.A,x.locals.l.length,x.locals.c)
 c4:w.cell? (b,o+4)=(x.eqs.A,x.eqs.l,x.eqs.c)
 c5:w.cell? (b,o+5)=(x.autos.A,x.autos.l,x.autos.c)
 c6:w.cell? (b,o+6)=(x.assume.A,x.assume.l,x.assume.c)
 c7:w.cell? (b,o+7)=(x.ensure.A,x.ensure.l,x.ensure.c)
 nm:x.name.size<=140737488355328
 r1:ir 3 jG w x.ins
 r2:ir 3 jG w x.outs
 r3:ir 3 jG w x.locals
 r4:ir 7 (xv S) w x.eqs
 r5:ir 1 (xM S) w x.autos
 r6:ir 6 (Bu S) w x.assume
 r7:ir 6 (Bu S) w x.ensure
structure FJ (S:Prop) (w:yM) (x:Il):Prop where
 enums:ir 2 sM w x.enums
 nodes:ir 8 (Gy S) w x.nodes
variable {S:Prop}
section
variable {w w':yM}
theorem mH {b j:Nat} (hb:Below w w w') (hlt:b<w):w'.cell? (b,j)=w.cell? (b,j):=hb.cell (p:=(b,j)) hlt
theorem lD:tO sR:=fun w w' b o y hb hlt h=>⟨(mH hb hlt).trans h.1,h.2⟩
theorem qF:tO KJ:=fun w w' b o y hb hlt h=>⟨h.tb,(mH hb hlt).trans h.c0,(mH hb hlt).trans h.c1,(mH hb hlt).trans h.c2,h.nm⟩
theorem iM:tO jG:=fun w w' b o y hb hlt h=>⟨h.tb,(mH hb hlt).trans h.c0,(mH hb hlt).trans h.c1,(mH hb hlt).trans h.c2,h.nm,h.cl.below qF hb⟩
theorem lU:tO sM:=fun w w' b o y hb hlt h=>⟨(mH hb hlt).trans h.c0,(mH hb hlt).trans h.c1,h.nm,h.tg.below lD hb⟩
theorem mX:tO (xv S):=fun w w' b o y hb hlt h=>⟨h.tb,h.sz,(mH hb hlt).trans h.c0,h.six.keep fun i=>mH hb hlt,h.lf.below lD hb,h.ri.below hb⟩
theorem As:tO (Eo S):=fun w w' b o y hb hlt h=>⟨h.tb,h.sz,h.six.keep fun i=>mH hb hlt,(mH hb hlt).trans h.c6,(mH hb hlt).trans h.c7,h.co.below hb⟩
theorem nH:tO (Bu S):=fun w w' b o y hb hlt h=>⟨h.tb,h.sz,h.six.keep fun i=>mH hb hlt,h.rx.below hb⟩
theorem Bp.keep {b o:Nat} {x:StT} (hb:Below w w w') (hlt:b<w) (h:Bp w b o x):Bp w' b o x:=
 ⟨(mH hb hlt).trans h.c0,(mH hb hlt).trans h.c1,(mH hb hlt).trans h.c2,(mH hb hlt).trans h.c3,(mH hb hlt).trans h.c4,(mH hb hlt).trans h.c5⟩
mutual
theorem tY.below (hb:Below w w w'):∀(x:StT),tY S w x->tY S w' x
 |.mk n l e A c a u v,h=>by
  rw[tY]at h⊢;obtain⟨h1,h2,h3,h4,h5,h6,h7,h8,h9⟩:=h;refine⟨h1,h2.below iM hb,h3.below mX hb,h4.below As hb,h5.below As hb,h6,h7,h8,?_⟩;rcases h9 with h9 | ⟨b,p,e1,hlt,h9⟩
  ·exact .inl h9
  exact .inr ⟨b,p,e1,rO hlt hb.size,sa.below hb hlt p a h9⟩
theorem sd.below (hb:Below w w w') {b:Nat} (hlt:b<w):∀(o:Nat) (l:List StT),sd S w b o l->sd S w' b o l
 |_,[],_=>by rw[sd];trivial
 |o,x::l,h=>by
  rw[sd]at h⊢;exact⟨h.1.keep hb hlt,tY.below hb x h.2.1,sd.below hb hlt (o+6) l h.2.2⟩
theorem zS.below (hb:Below w w w'):∀(x:AuT),zS S w x->zS S w' x
 |.mk A c l,h=>by
  rw[zS]at h⊢;obtain⟨h1,h2,h3,h4⟩:=h;refine⟨h1,h2,h3,?_⟩;rcases h4 with h4 | ⟨b,p,e1,hlt,h4⟩
  ·exact .inl h4
  exact .inr ⟨b,p,e1,rO hlt hb.size,sd.below hb hlt p l h4⟩
theorem sa.below (hb:Below w w w') {b:Nat} (hlt:b<w):∀(o:Nat) (l:List AuT),sa S w b o l->sa S w' b o l
 |_,[],_=>by rw[sa];trivial
 |o,x::l,h=>by
  rw[sa]at h⊢;exact⟨(mH hb hlt).trans h.1,zS.below hb x h.2.1,sa.below hb hlt (o+1) l h.2.2⟩
end
theorem qO:tO (xM S):=fun w w' b o y hb hlt h=>⟨(mH hb hlt).trans h.1,zS.below hb y h.2⟩
theorem Lw:tO (OZ S):=fun w w' b o y hb hlt h=>⟨h.1.keep hb hlt,tY.below hb y h.2⟩
theorem Ax:tO (Gy S):=fun w w' b o y hb hlt h=>
 ⟨(mH hb hlt).trans h.c0,(mH hb hlt).trans h.c1,(mH hb hlt).trans h.c2,(mH hb hlt).trans h.c3,(mH hb hlt).trans h.c4,(mH hb hlt).trans h.c5,(mH hb hlt).trans h.c6,(mH hb hlt).trans h.c7,h.nm,
  h.r1.below iM hb,h.r2.below iM hb,h.r3.below iM hb,h.r4.below mX hb,h.r5.below qO hb,h.r6.below nH hb,h.r7.below nH hb⟩
theorem FJ.below {x:Il} (h:FJ S w x) (hb:Below w w w'):FJ S w' x:=⟨h.enums.below lU hb,h.nodes.below Ax hb⟩
end
theorem FJ.here {w0:yM} {x:Il} (h:FJ S w0 x) (w:yM) [k:ik w0 w]:FJ S w x:=h.below k.below
theorem ir.enums {w0:yM} {x:nB iW} (h:ir 2 sM w0 x) (w:yM) [k:ik w0 w]:ir 2 sM w x:=h.below lU k.below
theorem ir.decls {w0:yM} {x:nB iO} (h:ir 3 jG w0 x) (w:yM) [k:ik w0 w]:ir 3 jG w x:=h.below iM k.below
theorem ir.Sq {w0:yM} {x:nB sO} (h:ir 3 KJ w0 x) (w:yM) [k:ik w0 w]:ir 3 KJ w x:=h.below qF k.below
theorem ir.eqs {w0:yM} {x:nB oX} (h:ir 7 (xv S) w0 x) (w:yM) [k:ik w0 w]:ir 7 (xv S) w x:=h.below mX k.below
theorem ir.trs {w0:yM} {x:nB ma} (h:ir 8 (Eo S) w0 x) (w:yM) [k:ik w0 w]:ir 8 (Eo S) w x:=h.below As k.below
theorem ir.txs {w0:yM} {x:nB Tx} (h:ir 6 (Bu S) w0 x) (w:yM) [k:ik w0 w]:ir 6 (Bu S) w x:=h.below nH k.below
theorem ir.strs {w0:yM} {x:nB yB} (h:ir 1 sR w0 x) (w:yM) [k:ik w0 w]:ir 1 sR w x:=h.below lD k.below
theorem ir.Ru {w0:yM} {x:nB AuT} (h:ir 1 (xM S) w0 x) (w:yM) [k:ik w0 w]:ir 1 (xM S) w x:=h.below qO k.below
theorem ir.sts {w0:yM} {x:nB StT} (h:ir 6 (OZ S) w0 x) (w:yM) [k:ik w0 w]:ir 6 (OZ S) w x:=h.below Lw k.below
theorem ir.Sr {w0:yM} {x:nB nh} (h:ir 8 (Gy S) w0 x) (w:yM) [k:ik w0 w]:ir 8 (Gy S) w x:=h.below Ax k.below
theorem sa.get {w:yM} {b:Nat}:∀{o:Nat} {l:List AuT},sa S w b o l->∀i y,l[i]?=some y->xM S w b (o+i*1) y
 |_,[],_,i,y,h=>by simp at h
 |o,x::l,h,0,y,hy=>by
  rw[sa]at h;simp at hy;subst hy;exact⟨by simpa using h.1,h.2.1⟩
 |o,x::l,h,i+1,y,hy=>by
  rw[sa]at h;have:=sa.get h.2.2 i y (by simpa using hy);rw[show o+(i+1)*1=o+1+i*1 by omega];exact this
theorem sd.get {w:yM} {b:Nat}:∀{o:Nat} {l:List StT},sd S w b o l->∀i y,l[i]?=some y->OZ S w b (o+i*6) y
 |_,[],_,i,y,h=>by simp at h
 |o,x::l,h,0,y,hy=>by
  rw[sd]at h;simp at hy;subst hy;exact⟨by simpa using h.1,h.2.1⟩
 |o,x::l,h,i+1,y,hy=>by
  rw[sd]at h;have:=sd.get h.2.2 i y (by simpa using hy);rw[show o+(i+1)*6=o+6+i*6 by omega];exact this
theorem zS.rows {w:yM} {A c l} (h:zS S w (.mk A c l)):ir 6 (OZ S) w ⟨A,c,l⟩:=by
 rw[zS]at h;obtain⟨J,I,o,j⟩:=h;refine⟨?_,J,I,o⟩;rcases j with j | ⟨b,p,e,hlt,j⟩
 ·exact .inl j
 exact .inr ⟨b,p,e,hlt,j.get⟩
theorem tY.parts {w:yM} {n l e A c a u v} (h:tY S w (.mk n l e A c a u v)):n.size<=140737488355328/\ir 3 jG w l/\ir 7 (xv S) w e/\ir 8 (Eo S) w u/\ir 8 (Eo S) w v/\ir 1 (xM S) w ⟨A,c,a⟩:=by
 rw[tY]at h;obtain⟨h1,h2,h3,U,R,J,I,o,j⟩:=h;refine⟨h1,h2,h3,U,R,⟨?_,J,I,o⟩⟩;rcases j with j | ⟨b,p,e,hlt,j⟩
 ·exact .inl j
 exact .inr ⟨b,p,e,hlt,j.get⟩
end
section
open Go.Proofs.Tryz
open Go.RowKit Go.BigFrame
theorem ij {w0 w1 w2:yM} (a:ik w0 w1) (b:ik w1 w2):ik w0 w2:=⟨a.below.trans (b.below.mono a.below.size)⟩
theorem iP.Tp (w:yM) (o:Obj) (t:TypeId) (cs:Array Value):iP ((w.alloc o).alloc (.cells cs t)) (w+1) t cs:=by
 have:=iP.new (w.alloc o) t cs;rwa [iH]at this
theorem OX (N:Nat) (hN:N<=2000000):∀(k o t v:Int) (s:yB) (A:zA) (c:Nat) (xs:List Tx) (w0:yM),(Tx.mk k o t v s A c xs).size<=N->RX w0 (.mk k o t v s A c xs)->∀w:yM,ik w0 w ->
  Calls prog 159 #[.agg #[k,o,t,v,s,(A,xs,c)]] w fun e w'=>e=.returned (.int .i64 ((Tx.mk k o t v s A c xs).depth:Nat))/\ik w w':=by
 induction N with
 |zero=>
  intro k o t v s A c xs w0 hs;simp[Tx.size]at hs
 |succ N ih=>
 intro k o t v s A c xs w0 hs x w aF;replace x:=iB x;replace ih:=iy (ih iu);rw[Tx.size]at hs;rw[Tx.depth];have a':=x.bounds;simp only[Tx.args,Tx.cap,Tx.name]at a';obtain⟨aO,aN,aM,aL⟩:=a';obtain⟨W0,ah,HK,a_,aw0⟩:∃W0,(w.alloc (.cells #[k,o,t,v,s,(A,xs,c)] 73))=W0/\Hid (∀U:yM,ik W0 U->U.cell? w.heap.size=k/\U.cell? (w,1)=o/\U.cell? (w,2)=t/\U.cell? (w,3)=v/\U.cell? (w,4)=s/\U.cell? (w,5)=(A,xs,c))/\w.heap.size<W0/\ik w W0:=by
  refine⟨_,rfl,fun U k_=>?_,by simp,iR⟩;have f_:=(iP.new w 73 #[k,o,t,v,s,(A,xs,c)]).after (w':=U);exact⟨by rw[f_.cell];rfl,by rw[f_.cell];rfl,by rw[f_.cell];rfl,by rw[f_.cell];rfl,by rw[f_.cell];rfl,by rw[f_.cell];rfl⟩
 have aG:ik W0 W0:=iR;have ab:Le (w+1) W0:=⟨a_⟩;obtain⟨aE,aB,ay,av,ao,ak⟩:=HK W0 iR;go_in;go_wp2_with fail;try rw[ah]
 go_loopw [3,9] (fun n i wr=>∃j:Nat,j<=xs.length/\i=.int .i64 (j:Nat)/\n=.int .i64 ((Tx.depths (xs.take j):Nat):Int)/\ik W0 wr) (fun _ i _=>xs.length-(intOf i).toNat)
 ·exact⟨0,by omega,rfl,by simp[Tx.depths],zc⟩
 case round=>
 obtain⟨j,hj,rfl,rfl,ar⟩:=hrel;have I:ik W0 wr:=ar;have aa:Le (w+1) wr:=⟨jW a_ I.below.size⟩;obtain⟨aC,az,aw,aq,al,ai⟩:=HK wr I;have aH:=ij aF (ij aw0 I);have aP:=Tx.sizes_take_le xs j;have ag:=Tx.depths_le_sizes (xs.take j);by_cases ae:j<xs
 ·have aJ:(j:Int)<(xs:Int):=by omega
  obtain⟨b,p,k1,o1,t1,v1,s1,A1,c1,J,rfl,aR,a1,aI,e0,e1,e2,e3,e4,e5⟩:=(x.here wr).part (i:=j) ae;have a6:=iB (Tx.depths_take a1);have aQ:=Tx.sizes_mem a1;have aK:Tx.sizes (xs.take j)+(Tx.mk k1 o1 t1 v1 s1 A1 c1 J).size<=N:=by have:=Tx.sizes_take_le xs (j+1);have h_:=Tx.sizes_take a1;omega
  have af:=Tx.depth_le_size (Tx.mk k1 o1 t1 v1 s1 A1 c1 J);have HC:Hid (∀U,ik wr U->Calls prog 159 #[.agg #[k1,o1,t1,v1,s1,(A1,J,c1)]] U fun e w'=>e=.returned (.int .i64 ((Tx.mk k1 o1 t1 v1 s1 A1 c1 J).depth:Nat))/\ik U w'):=fun U hU=>ih _ _ _ _ _ _ _ _ wr (by omega) aI U hU
  obtain⟨z1,ad⟩:=jt ((Tx.mk k1 o1 t1 v1 s1 A1 c1 J).depth);obtain⟨z0,a8⟩:=jt (Tx.depths (xs.take j));rw[ad]at HC af a6;rw[a8]at ag a6;rw[a8];go_wp2_with fail;refine (HC _ zc).mono ?_;rintro e w2 ⟨rfl,k2⟩;have a7:ik wr w2:=ij zc k2;have R:=ij ar a7;obtain⟨aD,aA,ax,au,an,aj⟩:=HK w2 R;go_wp2;go_roundw
  case rel=>exact⟨j+1,iu,by go_num,by rw[a6.out];go_num,ij ar a7⟩
  case measure=>simp[intOf];omega
 obtain rfl:j=xs:=iu;rw[pf]at *
 go_wp2;go_ret;exact⟨rfl,ij aw0 ar⟩
theorem Ep {k o t v:Int} {s:yB} {A:zA} {c:Nat} {xs:List Tx} {w0:yM} (hs:(Tx.mk k o t v s A c xs).size<=2000000) (x:RX w0 (.mk k o t v s A c xs)) (w:yM) (aft:ik w0 w) :
  Calls prog 159 #[.agg #[k,o,t,v,s,(A,xs,c)]] w fun e w'=>e=.returned (.int .i64 ((Tx.mk k o t v s A c xs).depth:Nat))/\ik w w':=OX 2000000 (js _) _ _ _ _ _ _ _ _ _ hs x w aft
end
abbrev jo:=@iP.is_le
abbrev uJ:=@iP.cell
abbrev nL:=@iP.frozen
abbrev jC:=@iP.new
abbrev Hg:=@iP.jx
abbrev tV:=@iP.qU
abbrev mZ:=@iP.after
abbrev oY:=@iP.grown
abbrev Bc:=@iP.c2
abbrev oN:=@iP.c6
abbrev wv:=@iP.c7
abbrev sX:=@iP.c8
abbrev jU:=@iP.f6
abbrev yG:=@iP.f7
abbrev tC:=@iP.f8
abbrev H_:=@iP.Tp
def jV (l:List iW) (t:Int):Nat:=if t=1 then 2 else if t=2 then 65536 else if 3<=t then (match l[(t-3).toNat]? with | some u=>u.tags.l.length | none=>0) else 0
def nq (l:List iW) (t v:Int):Bool:=if t=2 then decide (-32768<=v)&&decide (v<=32767) else decide (0<=v)&&decide (v<(jV l t:Int))
theorem N1 {w:yM} {x:nB iW} (h:ir 2 sM w x) (t:Int):jV x.l t<=140737488355328:=by
 unfold jV;split
 ·omega
 split
 ·omega
 split
 ·split
  ·rename_i u hu
   rcases h.cells with e | ⟨b,p,e,hlt,hc⟩
   ·rw[e]at hu;simp at hu
   exact (hc _ _ hu).tg.len
  omega
 omega
theorem Lz {w0:yM} {x:nB iW} (h:ir 2 sM w0 x) (w:yM) (hw:ik w0 w) (t:Int) (ht:t<=9223372036854775807) (h1:t≠1) (h2:t≠2) :
  Calls prog 131 #[(x.A,x.l,x.c),t] w fun e w'=>∃(s:yB) (A:zA) (c:Nat) (b:Value),e=.returned (.tuple #[.agg #[s,(A,jV x.l t,c)],b])/\ik w w':=by
 have hl:=h.len;obtain⟨A,c,l⟩:=x;simp only[]at hl⊢;have z:=iy (jC w 57 #[.string ⟨#[]⟩,()]);by_cases h3:t<3
 ·have J:jV l t=0:=by unfold jV;rw[iV h1,iV h2,iV iu]
  rw[J];have j:=(z.jx 0 (.string ⟨#[]⟩)).jx 1 (.slice none 0 0);have I:(((w.alloc (.cells #[.string ⟨#[]⟩,()] 57)).setCell w (.string ⟨#[]⟩)).setCell (w,1) (.slice none 0 0)).cell? w=some (.string ⟨#[]⟩):=by rw[j.cell];rfl
  have o:(((w.alloc (.cells #[.string ⟨#[]⟩,()] 57)).setCell w (.string ⟨#[]⟩)).setCell (w,1) (.slice none 0 0)).cell? (w,1)=():=by rw[j.cell];rfl
  go_in;go_wp2_with fail;refine jR (v:=.tuple #[.agg #[.string ⟨#[]⟩,()],false]) (by simp[results,results131,go_sem,I,o]) rfl ?_;first | exact⟨_,_,_,_,rfl,iR⟩ | exact⟨⟨_,_,_,_,rfl⟩,iR⟩ | infer_instance
 by_cases h4:t-3<(l:Int)
 ·obtain⟨n,hn⟩:∃n:Nat,t-3=n:=⟨(t-3).toNat,iu⟩
  obtain⟨b,p,y,rfl,a_,HY,hP⟩:=(h.enums w).part (i:=n) (by show n<l.length;omega);simp only[]at HY;have J:jV l t=y.tags.l.length:=by unfold jV;rw[iV h1,iV h2,iG iu,hn,Int.toNat_natCast,HY.out]
  rw[J];have e0:=hP.c0;have e1:=hP.c1;have a8:¬((l:Int)<=(n:Int)):=iu;have a':(n:Int)<(l:Int):=iu;have j:=(z.jx 0 (.string y.name)).jx 1 (.slice y.tags.A y.tags.l y.tags.c);obtain⟨U,a1⟩:=jt (y.name);obtain⟨A9,a7⟩:=jt (y.tags.A);obtain⟨n9,R⟩:=jt (y.tags.l.length);obtain⟨c9,a6⟩:=jt (y.tags.c);rw[a1]at e0 j;rw[a7,R,a6]at e1 j;rw[R];have I:(((w.alloc (.cells #[.string ⟨#[]⟩,()] 57)).setCell w (.string U)).setCell (w,1) (.slice A9 n9 c9)).cell? w=U:=by rw[j.cell];rfl
  have o:(((w.alloc (.cells #[.string ⟨#[]⟩,()] 57)).setCell w (.string U)).setCell (w,1) (.slice A9 n9 c9)).cell? (w,1)=(A9,n9,c9):=by rw[j.cell];rfl
  go_in;go_wp2_with fail;refine jR (v:=.tuple #[.agg #[U,(A9,n9,c9)],true]) (by simp[results,results131,go_sem,I,o]) rfl ?_;first | exact⟨_,_,_,_,rfl,iR⟩ | exact⟨⟨_,_,_,_,rfl⟩,iR⟩ | infer_instance
 have J:jV l t=0:=by unfold jV;rw[iV h1,iV h2,iG iu,LH iu]
 rw[J];have a8:(l:Int)<=t-3:=iu;have j:=(z.jx 0 (.string ⟨#[]⟩)).jx 1 (.slice none 0 0);have I:(((w.alloc (.cells #[.string ⟨#[]⟩,()] 57)).setCell w (.string ⟨#[]⟩)).setCell (w,1) (.slice none 0 0)).cell? w=some (.string ⟨#[]⟩):=by rw[j.cell];rfl
 have o:(((w.alloc (.cells #[.string ⟨#[]⟩,()] 57)).setCell w (.string ⟨#[]⟩)).setCell (w,1) (.slice none 0 0)).cell? (w,1)=():=by rw[j.cell];rfl
 go_in;go_wp2_with fail;refine jR (v:=.tuple #[.agg #[.string ⟨#[]⟩,()],false]) (by simp[results,results131,go_sem,I,o]) rfl ?_;first | exact⟨_,_,_,_,rfl,iR⟩ | exact⟨⟨_,_,_,_,rfl⟩,iR⟩ | infer_instance
theorem uS {w0:yM} {x:nB iW} (h:ir 2 sM w0 x) (w:yM) (hw:ik w0 w) (t:Int) (ht:t<=9223372036854775807) :
  Calls prog 120 #[(x.A,x.l,x.c),t] w fun e w'=>e=.returned (.int .i64 (jV x.l t:Nat))/\ik w w':=by
 by_cases o:t=1
 ·subst o
  go_in;go_wp2;go_ret;exact⟨rfl,iR⟩
 by_cases j:t=2
 ·subst j
  go_in;go_wp2;go_ret;exact⟨rfl,zc⟩
 have I:=iB (Lz h w hw t ht o j);have b1:(t==1)=false:=by simpa using o
 have U:(t==2)=false:=by simpa using j
 obtain⟨n,J⟩:=jt (jV x.l t);rw[J]at I⊢;go_in;go_wp2_with fail;refine I.mono ?_;rintro e R ⟨s,A,c,b,rfl,a2⟩;go_wp2;go_ret;exact⟨rfl,iR⟩
theorem OS (v:Int) (w:yM):Calls prog 156 #[v] w fun e w'=>e=.returned (.bool (decide (-32768<=v)&&decide (v<=32767)))/\w'=w:=by
 by_cases o:-32768<=v
 ·by_cases j:v<=32767
  all_goals
   go_in;go_wp2;go_ret;exact⟨iK (by simp[o,j]),rfl⟩
 go_in;go_wp2;go_ret;exact⟨iK (by simp;omega),rfl⟩
theorem Ch {w0:yM} {x:nB iW} (h:ir 2 sM w0 x) (w:yM) (hw:ik w0 w) (t v:Int) (ht:t<=9223372036854775807) :
  Calls prog 121 #[(x.A,x.l,x.c),t,v] w fun e w'=>e=.returned (.bool (nq x.l t v))/\ik w w':=by
 unfold nq;by_cases o:t=2
 ·subst o
  rw[iG rfl];have R:=iy (OS v w);obtain⟨q,hq⟩:=jt ((decide (-32768<=v)&&decide (v<=32767)));rw[hq]at R⊢;go_in;go_wp2_with fail;refine R.mono ?_;rintro e U ⟨rfl,j⟩;rw[j];go_wp2;go_ret;exact⟨rfl,zc⟩
 rw[iV o];have b2:(t==2)=false:=by simpa using o
 by_cases I:0<=v
 ·have J:=iB (uS h w hw t ht)
  obtain⟨n,hn⟩:=jt (jV x.l t);rw[hn]at J⊢;rw[show decide (0<=v)=true by simpa using I,xI];go_in;go_wp2_with fail;refine J.mono ?_;rintro e U ⟨rfl,a2⟩;go_wp2;go_ret;exact⟨rfl,a2⟩
 rw[show decide (0<=v)=false by simpa using I,qu];go_in;go_wp2;go_ret;exact⟨rfl,iR⟩
def lG (l:List UInt8):yB:=⟨l.toArray⟩
theorem Cd (l:List UInt8):(lG l).data.toList=l:=rfl
theorem qd (s:yB):lG s.data.toList=s:=by cases s;rfl
theorem yK (l:List UInt8):(lG l).size=l.length:=by show l.toArray.size=_;simp
theorem Pw (a b:List UInt8):lG a++lG b=lG (a++b):=by
 apply nQ ByteArray.mk (a₁:=(lG a++lG b).data) (a₂:=(a++b).toArray);rw[ByteArray.data_append];simp[lG]
theorem Nj (w:yM) (k:Nat) (os:Array Obj):Below w w (Go.Sort.grow (w.drewN k) os):=
 ⟨rfl,rfl,rfl,by show w.heap.size<=(w.heap++os).size;rw[Array.size_append];omega,fun j hj=>by show (w.heap++os)[j]?=_;rw[Array.getElem?_append_left hj]⟩
def Rz (el:List iW) (t:Int):yB:=if t=1 then⟨#[98,111,111,108]⟩ else if t=2 then⟨#[105,110,116]⟩ else match el[(t-3).toNat]? with | some u=>u.name | none=>⟨#[]⟩
def PQ (el:List iW) (t v:Int):List UInt8:=if t=1 then Lib.formatBool (v==1) else if t=2 then Lib.itoa v else match el[(t-3).toNat]? with | some u=>(u.tags.l.getD v.toNat ⟨#[]⟩).data.toList | none=>[]
def qS (el:List iW) (t:Int):Prop:=t=1\/t=2\/(3<=t/\t<3+(el:Int))
structure ID (w:yM) (eA:zA) (ec:Nat) (el:List iW):Prop where
 ens:ir 2 sM w ⟨eA,ec,el⟩
 tab:Lib.TabIs prog w "internal/strconv.uint64pow10" .u64 Lib.pow10Tab
theorem QR:prog.globalNamed "internal/strconv.uint64pow10"=some 1:=by kernel_rfl
theorem ID.here {w:yM} {eA:zA} {ec:Nat} {el:List iW} (h:ID w eA ec el) (U:yM) (hU:ik w U):ID U eA ec el:=
 ⟨h.ens.below lU hU.below,Go.Joins.tab_stays QR h.tab hU.below (js _)⟩
section
variable {w0:yM} {eA:zA} {ec:Nat} {el:List iW}
theorem Nw (h:ir 2 sM w0 ⟨eA,ec,el⟩) (w:yM) (hw:ik w0 w) (t:Int) {u:iW} (h3:3<=t) (hu:el[(t-3).toNat]?=some u) :
  Calls prog 131 #[(eA,el,ec),t] w fun e w'=>e=.returned (.tuple #[.agg #[u.name,(u.tags.A,u.tags.l,u.tags.c)],true])/\∃y,w'=w.more y:=by
 have j:=(rq.1 hu).1;have hl:=h.len;simp only[]at hl;have z:=iy (jC w 57 #[.string ⟨#[]⟩,()]);obtain⟨n,hn⟩:∃n:Nat,t-3=n:=⟨(t-3).toNat,iu⟩;rw[hn,Int.toNat_natCast]at hu j;obtain⟨b,p,y,rfl,a6,HY,hP⟩:=(h.below lU hw.below).part (i:=n) j;obtain rfl:y=u:=sI (HY.symm.trans hu);have e0:=hP.c0;have e1:=hP.c1;have a8:¬((el:Int)<=(n:Int)):=iu;have a7:(n:Int)<(el:Int):=iu;have a1:¬(t<3):=iu;obtain⟨U,o⟩:=jt (y.name);obtain⟨A9,R⟩:=jt (y.tags.A);obtain⟨n9,I⟩:=jt (y.tags.l.length);obtain⟨c9,J⟩:=jt (y.tags.c);have r2:=(z.jx 0 (.string y.name)).jx 1 (.slice y.tags.A y.tags.l y.tags.c);rw[o]at e0 r2;rw[R,I,J]at e1 r2;rw[o,R,I,J];have k0:(((w.alloc (.cells #[.string ⟨#[]⟩,()] 57)).setCell w (.string U)).setCell (w,1) (.slice A9 n9 c9)).cell? w=U:=by rw[r2.cell];rfl
 have k1:(((w.alloc (.cells #[.string ⟨#[]⟩,()] 57)).setCell w (.string U)).setCell (w,1) (.slice A9 n9 c9)).cell? (w,1)=(A9,n9,c9):=by rw[r2.cell];rfl
 go_in;go_wp2_with fail;refine jR (v:=.tuple #[.agg #[U,(A9,n9,c9)],true]) (by simp[results,results131,go_sem,k0,k1]) rfl ?_;exact⟨rfl,jP _ _⟩
theorem If (h:ir 2 sM w0 ⟨eA,ec,el⟩) (w:yM) (hw:ik w0 w) (t:Int) (ht:qS el t) :
  Calls prog 85 #[(eA,el,ec),t] w fun e w'=>e=.returned (.tuple #[(Rz el t),true])/\∃y,w'=w.more y:=by
 by_cases U:t=1
 ·subst U
  go_in;go_wp2;exact jR (v:=.tuple #[.string ⟨#[98,111,111,108]⟩,true]) (by simp[results,results85,go_sem]) rfl ⟨rfl,jP _ _⟩
 by_cases R:t=2
 ·subst R
  go_in;go_wp2;exact jR (v:=.tuple #[.string ⟨#[105,110,116]⟩,true]) (by simp[results,results85,go_sem]) rfl ⟨rfl,jP _ _⟩
 have h3:3<=t/\t<3+(el:Int):=by
  rcases ht with h | h | h
  ·exact absurd h U
  ·exact absurd h R
  exact h
 obtain⟨u,hu⟩:∃u,el[(t-3).toNat]?=some u:=⟨_,qn iu⟩;have hx:Rz el t=u.name:=by unfold Rz;rw[iV U,iV R,hu]
 rw[hx];have HC:=iy (Nw h w hw t h3.1 hu);obtain⟨s9,j⟩:=jt (u.name);obtain⟨A9,J⟩:=jt (u.tags.A);obtain⟨n9,o⟩:=jt (u.tags.l.length);obtain⟨c9,I⟩:=jt (u.tags.c);rw[j,J,o,I]at HC;rw[j];go_in;go_wp2_with fail;refine HC.mono ?_;rintro e w' ⟨rfl,y,rfl⟩;go_wp2;exact jR (v:=.tuple #[s9,true]) (by simp[results,results85,go_sem]) rfl ⟨rfl,jP _ _⟩
theorem LA (h:ir 2 sM w0 ⟨eA,ec,el⟩) (w:yM) (hw:ik w0 w) (t:Int) (ht:qS el t) :
  Calls prog 163 #[(eA,el,ec),t] w fun e w'=>e=.returned (.bool true)/\∃y,w'=w.more y:=by
 have j:=iy (If h w hw t ht);generalize Rz el t=s at j;go_in;go_wp2_with fail;refine j.mono ?_;rintro e w' ⟨rfl,y,rfl⟩;go_wp2;go_ret;exact⟨rfl,jP _ _⟩
theorem qS.le {t:Int} (h:qS el t) (hl:el.length<=140737488355328):t<=9223372036854775807:=by
 rcases h with h | h | h<;>omega
theorem Mw (h:ID w0 eA ec el) (w:yM) (hw:ik w0 w) (t v:Int) (ht:qS el t) (hv:nq el t v=true) :
  Calls prog 132 #[(eA,el,ec),t,v] w fun e w'=>e=.returned (.tuple #[(lG (PQ el t v)),JX])/\∃y,w'=w.more y:=by
 have hl:=h.ens.len;simp only[]at hl;have HA:=iy (LA h.ens w hw t ht);have HB:=iy (fun U (R:ik w U)=>(Ch h.ens U (ij hw R) t v (ht.le hl)).mono fun e w' (q:_/\_)=>(⟨q.1,(Below.uu q.2.below)⟩:_/\∃z,w'=U.more z));rw[hv]at HB;by_cases h1:t=1
 ·subst h1
  have HF:=iy (fun z U=>strconv_FormatBool z U);have o:lG (PQ el 1 v)=⟨(Lib.formatBool (v==1)).toArray⟩:=by unfold PQ;rw[iG rfl];rfl
  rw[o];go_in;go_wp2_with fail;refine HA.mono ?_;rintro e w' ⟨rfl,y,rfl⟩;go_wp2_with fail;refine (HB _ iR).mono ?_;rintro e w' ⟨rfl,y2,rfl⟩;go_wp2_with fail;refine (HF _ _).mono ?_;rintro e w' ⟨rfl,rfl⟩;go_wp2;exact jR (v:=.tuple #[.string ⟨(Lib.formatBool (v==1)).toArray⟩,JX]) (by simp[results,results132,go_sem]) rfl ⟨rfl,jP _ _⟩
 by_cases h2:t=2
 ·subst h2
  have o:lG (PQ el 2 v)=⟨(Lib.itoa v).toArray⟩:=by unfold PQ;rw[iV iI,iG rfl];rfl
  have hb:-9223372036854775808<=v/\v<=9223372036854775807:=by
   unfold nq at hv;rw[iG rfl]at hv;simp only[mT,decide_eq_true_eq]at hv;omega
  have HF:=iy (fun U (R:ik w U)=>strconv_Itoa v hb.1 hb.2 U (h.here U (ij hw R)).tab);rw[o];go_in;go_wp2_with fail;refine HA.mono ?_;rintro e w' ⟨rfl,y,rfl⟩;go_wp2_with fail;refine (HB _ iR).mono ?_;rintro e w' ⟨rfl,y2,rfl⟩;go_wp2_with fail;refine (HF _ iR).mono ?_;rintro e w' ⟨rfl,k,os,rfl⟩;go_wp2_with fail;refine jR (v:=.tuple #[.string ⟨(Lib.itoa v).toArray⟩,JX]) (by simp[results,results132,go_sem]) rfl ⟨rfl,?_⟩;exact Below.uu ((Cu (w:=w.more y) (h:=Cu y) y2).below.trans ((Nj _ k os).mono (ik.size _ _)))
 have h3:3<=t/\t<3+(el:Int):=by
  rcases ht with h | h | h
  ·exact absurd h h1
  ·exact absurd h h2
  exact h
 have HE:=iy (fun U (R:ik w U)=>h.ens.below lU (ij hw R).below);obtain⟨m,hm⟩:∃m:Nat,t-3=m:=⟨(t-3).toNat,iu⟩;have J:m<el:=iu;have a1:IntKind.i64.wrap (t-3)=t-3:=IntWalk.i64_in _ (by omega);rw[hm]at a1;have j:=hv;unfold nq at j;rw[iV h2]at j;simp only[mT,decide_eq_true_eq]at j;obtain⟨u,hu⟩:∃u,el[m]?=some u:=⟨_,qn J⟩;have a8:jV el t=u.tags.l.length:=by
  unfold jV;rw[iV h1,iV h2,iG h3.1,hm,Int.toNat_natCast,hu]
 rw[a8]at j;have o:lG (PQ el t v)=u.tags.l.getD v.toNat ⟨#[]⟩:=by
  unfold PQ;rw[iV h1,iV h2,hm,Int.toNat_natCast,hu];exact qd _
 obtain⟨vn,a6⟩:∃vn:Nat,v=vn:=⟨v.toNat,iu⟩;subst a6;rw[Int.toNat_natCast]at o;generalize a_:u.tags.l.getD vn ⟨#[]⟩=s8 at o;rw[o];have al:¬((el:Int)<=(m:Int)):=iu;have ak:(m:Int)<(el:Int):=iu;have aj:¬((m:Int)<0):=iu;go_in;go_wp2_with fail;refine HA.mono ?_;rintro e w' ⟨rfl,y,rfl⟩;go_wp2_with fail;refine (HB _ iR).mono ?_;rintro e w' ⟨rfl,y2,rfl⟩;obtain⟨b,p,z,rfl,ag,HY,hP⟩:=(HE ((w.more y).more y2) iR).part (i:=m) J;obtain rfl:z=u:=sI (HY.symm.trans hu);have I:vn<z.tags.l:=iu;have a7:=hP.tg.len;have e1:=hP.c1;obtain⟨b8,p8,y8,ad,af,ae,ab⟩:=hP.tg.part (i:=vn) I;obtain rfl:y8=s8:=by rw[<- a_,wC,ae.out];rfl
 have e2:=ab.1;rw[yr]at e2;rw[ad]at e1;obtain⟨n9,a'⟩:=jt (z.tags.l.length);obtain⟨c9,aa⟩:=jt (z.tags.c);rw[a']at e1 I j a7;rw[aa]at e1;have ai:¬((n9:Int)<=(vn:Int)):=iu;have ah:(vn:Int)<(n9:Int):=iu;go_wp2;exact jR (v:=.tuple #[y8,JX]) (by simp[results,results132,go_sem]) rfl ⟨rfl,jP _ _⟩
end
def iz (q:Nat) (w:yM):yM:={ w with heap:=w.heap.setIfInBounds q (.cells #[] 0 (0,0)) }
section
variable {q:Nat} {w w' B:yM}
theorem iZ (q:Nat) (w:yM):(iz q w).heap.size=w.heap.size:=by simp[iz]
theorem km (w:yM) {b:Nat} (h:b≠q):(iz q w).heap[b]?=w.heap[b]?:=by
 unfold iz;simp only[KY];rw[iV (ls h)]
theorem tN (w:yM) (h:q<w):(iz q w).heap[q]?=some (.cells #[] 0 (0,0)):=by
 unfold iz;simp[KY,h]
theorem jJ (w:yM) (i:Nat) (v:Value):iz q (w.setCell (q,i) v)=iz q w:=by
 have e:(w.setCell (q,i) v).heap.setIfInBounds q (.cells #[] 0 (0,0))=w.heap.setIfInBounds q (.cells #[] 0 (0,0)):=by
  apply Array.ext_getElem?;intro j;simp only[World.setCell,KY,Array.getElem?_modify,Array.size_modify];by_cases o:q=j
  ·simp[o]
  simp[o]
 show ({ w.setCell (q,i) v with heap:=(w.setCell (q,i) v).heap.setIfInBounds q (.cells #[] 0 (0,0)) }:yM)={ w with heap:=w.heap.setIfInBounds q (.cells #[] 0 (0,0)) }
 rw[e];rfl
theorem EN (w:yM) {b:Nat} (h:b≠q) (i:Nat) (v:Value):iz q (w.setCell (b,i) v)=(iz q w).setCell (b,i) v:=by
 have e:(w.setCell (b,i) v).heap.setIfInBounds q (.cells #[] 0 (0,0))=((iz q w).setCell (b,i) v).heap:=by
  apply Array.ext_getElem?;intro j;simp only[iz,World.setCell,KY,Array.getElem?_modify,Array.size_modify,Array.size_setIfInBounds];by_cases o:q=j
  ·have I:b≠j:=fun e=>h (e.trans o.symm)
   simp[o,I]
  simp[o]
 show ({ w.setCell (b,i) v with heap:=(w.setCell (b,i) v).heap.setIfInBounds q (.cells #[] 0 (0,0)) }:yM)={ (iz q w).setCell (b,i) v with heap:=((iz q w).setCell (b,i) v).heap }
 rw[e];rfl
theorem tf (w:yM) (h:q<w) (o:Obj):iz q (w.alloc o)=(iz q w).alloc o:=by
 have e:(w.alloc o).heap.setIfInBounds q (.cells #[] 0 (0,0))=((iz q w).alloc o).heap:=by
  apply Array.ext_getElem?;intro j;simp only[iz,World.alloc,KY,Array.getElem?_push,Array.size_push,Array.size_setIfInBounds];by_cases I:q=j
  ·subst I
   simp[h,Nat.ne_of_lt h,Nat.lt_succ_of_lt h]
  simp[I]
 show ({ w.alloc o with heap:=(w.alloc o).heap.setIfInBounds q (.cells #[] 0 (0,0)) }:yM)={ (iz q w).alloc o with heap:=((iz q w).alloc o).heap }
 rw[e];rfl
theorem Mr (w:yM):iz q w.drew=(iz q w).drew:=rfl
theorem Li (w:yM) (n:Nat):iz q (w.drewN n)=(iz q w).drewN n:=rfl
theorem im (h:ik w w'):ik (iz q w) (iz q w'):=by
 refine⟨⟨h.below.os,h.below.tape,h.below.output,by rw[iZ,iZ];exact h.below.size,fun b j=>?_⟩⟩;rw[iZ]at j;by_cases o:b=q
 ·subst o
  rw[tN w j,tN w' (rO j h.below.size)]
 rw[km w o,km w' o];exact h.below.block b j
instance RF [h:ik B (iz q w)] [l:Le (q+1) w] (o:Obj):ik B (iz q (w.alloc o)):=by rw[tf w l.le];exact iR
instance SB [h:ik B (iz q w)]:ik B (iz q w.drew):=by rw[Mr];exact iR
instance RE [h:ik B (iz q w)] (n:Nat):ik B (iz q (w.drewN n)):=by rw[Li];exact iR
instance SJ [h:ik B (iz q w)] (i:Nat) (v:Value):ik B (iz q (w.setCell (q,i) v)):=by rw[jJ];exact h
instance iJ {b:Nat} [h:ik B (iz q w)] [k:uD B b] (i:Nat) (v:Value):ik B (iz q (w.setCell (b,i) v)):=by
 by_cases e:b=q
 ·subst e;rw[jJ];exact h
 rw[EN w e];exact pQ (k:=k) i v
instance SC [h:ik B (iz q w)] (y:yM):ik B (iz q (w.more y)):=⟨h.below.trans ((im (q:=q) (w:=w) (w':=w.more y) iR).below.mono h.below.size)⟩
theorem tD (h:ik B (iz q w)) (k:ik w w'):ik B (iz q w'):=ij h (im k)
theorem Po (h:ik B (iz q w)):B.heap.size<=w:=by rw[<- iZ q w];exact h.below.size
structure CU (W w:yM):Prop where
 size:W.heap.size<=w
 cell:∀(b o:Nat) (v:Value),W.cell? (b,o)=some v->w.cell? (b,o)=some v
theorem yI (q:Nat) (w:yM):CU (iz q w) w:=by
 refine⟨lI (iZ q w),fun b o v h=>?_⟩;by_cases e:b=q
 ·subst e
  have j:b<w:=by
   have:=World.block_lt_of_cell? (iz b w) ⟨b,o,none⟩ h;rwa [iZ]at this
  rw[cell_of_row (iz b w) b o #[] 0 (0,0) (tN w j)]at h;simp at h
 rwa [Dj (w:=iz q w) (w':=w) (a:=(b,o)) (km w e).symm]
theorem iP.Og {b:Nat} {t:TypeId} {cs:Array Value} (h:iP (iz q w) b t cs) (hc:b≠q):iP w b t cs:=(km w hc).symm.trans h
theorem iP.mask {b:Nat} {t:TypeId} {cs:Array Value} (h:iP w b t cs) (hb:b≠q):iP (iz q w) b t cs:=(km w hb).trans h
theorem tM {base size n:Nat} {e:TypeId} {v:Value} {xs:zO} (h:(iz q w).ownsRow base e size v n xs) (hq:q<base):w.ownsRow base e size v n xs:=by
 refine⟨h.1,?_⟩;rcases h.2 with j | ⟨g,cap,cur,hv,hb,hgg,rest⟩
 ·exact .inl j
 refine .inr ⟨g,cap,cur,hv,hb,?_,rest⟩;rwa [km w iu]at hgg
theorem sG {base size n:Nat} {e:TypeId} {v:Value} {xs:zO} (h:w.ownsRow base e size v n xs) (hq:q<base):(iz q w).ownsRow base e size v n xs:=by
 refine⟨h.1,?_⟩;rcases h.2 with j | ⟨g,cap,cur,hv,hb,hgg,rest⟩
 ·exact .inl j
 refine .inr ⟨g,cap,cur,hv,hb,?_,rest⟩;rwa [km w iu]
end
def Ai {α:Type} (P:yM->Nat->Nat->α->Prop):Prop:=∀(W w:yM) (b o:Nat) (y:α),CU W w->P W b o y->P w b o y
section
variable {W w:yM} {S:Prop}
theorem ir.sub {α:Type} {sz:Nat} {P:yM->Nat->Nat->α->Prop} (hP:Ai P) {x:nB α} (h:ir sz P W x) (k:CU W w):ir sz P w x:=by
 refine⟨?_,h.le,h.cap,h.len⟩;rcases h.cells with e | ⟨b,p,e,hlt,hc⟩
 ·exact .inl e
 exact .inr ⟨b,p,e,rO hlt k.size,fun i y j=>hP _ _ _ _ _ k (hc i y j)⟩
theorem Kf.sub {b o:Nat} {e:Tx} (h:Kf W b o e) (k:CU W w):Kf w b o e:=
 ⟨k.cell _ _ _ h.c0,k.cell _ _ _ h.c1,k.cell _ _ _ h.c2,k.cell _ _ _ h.c3,k.cell _ _ _ h.c4,k.cell _ _ _ h.c5⟩
mutual
theorem RX.sub (k:CU W w):∀{e:Tx},RX W e->RX w e
 |.mk _ _ _ _ s A c xs,h=>by
  rw[RX]at h⊢;obtain⟨h1,h2,h3,h4,h5⟩:=h;refine⟨h1,h2,h3,h4,?_⟩;rcases h5 with h5 | ⟨b,o,h5,h6,h7⟩
  ·exact .inl h5
  exact .inr ⟨b,o,h5,rO h6 k.size,xX.sub k h7⟩
theorem xX.sub (k:CU W w) {b:Nat}:∀{o:Nat} {es:List Tx},xX W b o es->xX w b o es
 |_,[],_=>by rw[xX];trivial
 |o,e::es,h=>by
  rw[xX]at h⊢;exact⟨h.1.sub k,RX.sub k h.2.1,xX.sub k h.2.2⟩
end
theorem sj:Ai sR:=fun W w b o y k h=>⟨k.cell _ _ _ h.1,h.2⟩
theorem xb:Ai KJ:=fun W w b o y k h=>⟨h.tb,k.cell _ _ _ h.c0,k.cell _ _ _ h.c1,k.cell _ _ _ h.c2,h.nm⟩
theorem ky:Ai jG:=fun W w b o y k h=>⟨h.tb,k.cell _ _ _ h.c0,k.cell _ _ _ h.c1,k.cell _ _ _ h.c2,h.nm,h.cl.sub xb k⟩
theorem rH:Ai sM:=fun W w b o y k h=>⟨k.cell _ _ _ h.c0,k.cell _ _ _ h.c1,h.nm,h.tg.sub sj k⟩
theorem uU:Ai (xv S):=fun W w b o y k h=>⟨h.tb,h.sz,k.cell _ _ _ h.c0,h.six.sub k,h.lf.sub sj k,h.ri.sub k⟩
theorem Gu:Ai (Eo S):=fun W w b o y k h=>⟨h.tb,h.sz,h.six.sub k,k.cell _ _ _ h.c6,k.cell _ _ _ h.c7,h.co.sub k⟩
theorem yO:Ai (Bu S):=fun W w b o y k h=>⟨h.tb,h.sz,h.six.sub k,h.rx.sub k⟩
theorem Bp.sub {b o:Nat} {x:StT} (h:Bp W b o x) (k:CU W w):Bp w b o x:=
 ⟨k.cell _ _ _ h.c0,k.cell _ _ _ h.c1,k.cell _ _ _ h.c2,k.cell _ _ _ h.c3,k.cell _ _ _ h.c4,k.cell _ _ _ h.c5⟩
mutual
theorem tY.sub (k:CU W w):∀(x:StT),tY S W x->tY S w x
 |.mk n l e A c a u v,h=>by
  rw[tY]at h⊢;obtain⟨h1,h2,h3,h4,h5,h6,h7,h8,h9⟩:=h;refine⟨h1,h2.sub ky k,h3.sub uU k,h4.sub Gu k,h5.sub Gu k,h6,h7,h8,?_⟩;rcases h9 with h9 | ⟨b,p,e1,hlt,h9⟩
  ·exact .inl h9
  exact .inr ⟨b,p,e1,rO hlt k.size,sa.sub k p a h9⟩
theorem sd.sub (k:CU W w) {b:Nat}:∀(o:Nat) (l:List StT),sd S W b o l->sd S w b o l
 |_,[],_=>by rw[sd];trivial
 |o,x::l,h=>by
  rw[sd]at h⊢;exact⟨h.1.sub k,tY.sub k x h.2.1,sd.sub k (o+6) l h.2.2⟩
theorem zS.sub (k:CU W w):∀(x:AuT),zS S W x->zS S w x
 |.mk A c l,h=>by
  rw[zS]at h⊢;obtain⟨h1,h2,h3,h4⟩:=h;refine⟨h1,h2,h3,?_⟩;rcases h4 with h4 | ⟨b,p,e1,hlt,h4⟩
  ·exact .inl h4
  exact .inr ⟨b,p,e1,rO hlt k.size,sd.sub k p l h4⟩
theorem sa.sub (k:CU W w) {b:Nat}:∀(o:Nat) (l:List AuT),sa S W b o l->sa S w b o l
 |_,[],_=>by rw[sa];trivial
 |o,x::l,h=>by
  rw[sa]at h⊢;exact⟨k.cell _ _ _ h.1,zS.sub k x h.2.1,sa.sub k (o+1) l h.2.2⟩
end
theorem wY:Ai (xM S):=fun W w b o y k h=>⟨k.cell _ _ _ h.1,zS.sub k y h.2⟩
theorem Hs:Ai (Gy S):=fun W w b o y k h=>
 ⟨k.cell _ _ _ h.c0,k.cell _ _ _ h.c1,k.cell _ _ _ h.c2,k.cell _ _ _ h.c3,k.cell _ _ _ h.c4,k.cell _ _ _ h.c5,k.cell _ _ _ h.c6,k.cell _ _ _ h.c7,h.nm,
  h.r1.sub ky k,h.r2.sub ky k,h.r3.sub ky k,h.r4.sub uU k,h.r5.sub wY k,h.r6.sub yO k,h.r7.sub yO k⟩
theorem FJ.sub {x:Il} (h:FJ S W x) (k:CU W w):FJ S w x:=⟨h.enums.sub rH k,h.nodes.sub Hs k⟩
end
def uC (h l:List Bool):Int:=(W.check h l:Nat)
def DS (h l:List Bool):Prop:=0<l.length/\h.length+l<=64
theorem Iu {h l:List Bool} (hl:l.length=0):uC h l=5:=by simp[uC,W.check,hl]
theorem Hc {h l:List Bool} (hl:0<l.length) (h3:64<h.length+l):uC h l=3:=by
 unfold uC W.check;rw[iV iu,iG h3];rfl
theorem Hl {h l:List Bool} (hv:DS h l):uC h l=0:=by
 unfold uC W.check;rw[iV (by have:=hv.1;omega),iV (by have:=hv.2;omega)];rfl
theorem GR (h l:List Bool):DS h l\/(¬DS h l/\(uC h l=5\/uC h l=3)):=by
 by_cases I:l.length=0
 ·exact .inr ⟨fun j=>by have:=j.1;omega,.inl (Iu I)⟩
 by_cases o:64<h.length+l
 ·exact .inr ⟨fun j=>by have:=j.2;omega,.inr (Hc iu o)⟩
 exact .inl ⟨iu,iu⟩
theorem K7 {w0:yM} {A B c d h l} (x:RW w0 A c B d h l) (w:yM) [ik w0 w] :
  Calls prog 186 #[.agg #[(A,h,c),(B,l,d)]] w fun e w'=>e=.returned (.int .i64 (uC h l))/\∃y,w'=w.more y:=by
 replace x:=x.here w;obtain⟨I,o⟩:=x.lens;go_in;go_wp2;all_goals
  go_ret;refine⟨Ky ?_,jP _ _⟩
 ·exact (Iu (by simpa using ‹((l:Int)==0)=true›)).symm
 ·have j:¬((l:Int)=0):=by simpa using ‹((l:Int)==0)=false›
  exact (Hc iu iu).symm
 have j:¬((l:Int)=0):=by simpa using ‹((l:Int)==0)=false›
 exact (Hl ⟨by omega,by omega⟩).symm
theorem Dz {w0:yM} {A B c d h l} (x:RW w0 A c B d h l) (w:yM) [ik w0 w] {v:Int} (hv:uC h l=v) :
  Calls prog 186 #[.agg #[(A,h,c),(B,l,d)]] w fun e w'=>e=.returned (.int .i64 v)/\∃y,w'=w.more y:=by
 rw[<- hv];exact K7 x w
def BM (B:Nat) (A:zA):Prop:=∀ad,A=some ad->B<=ad.block
theorem BM.so {w:yM} {B:Nat} {e:TypeId} {size n m c:Nat} {A:zA} {xs:zO} (h:w.ownsRow B e size (.slice A m c) n xs):BM B A:=by
 rintro j rfl;exact (h.lt j.block rfl).1
theorem BM.mono {B C:Nat} {A:zA} (h:BM B A) (hc:C<=B):BM C A:=fun ad e=>jW hc (h ad e)
theorem RB.jx {w:yM} {A c l} (x:RB w A c l) {B b:Nat} (h:BM B A) (hb:b<B) (i:Nat) (v:Value):RB (w.setCell (b,i) v) A c l:=by
 refine⟨⟨x.reads.1,fun U=>?_⟩,x.le,x.cap,x.len⟩;obtain⟨J,e,o,hc⟩:=x.reads.2 U;refine⟨J,e,by rw[jc];exact o,fun j u R=>(World.cell?_setCell_other w _ _ v fun e2=>?_).trans (hc j u R)⟩;have I:=nQ Addr.block e2;rw[rD]at I;have h2:=h J e;have h3:b=J.block:=by first | exact I | exact I.symm
 omega
theorem Io:(prog.info? 4).map (fun i=>(i.zero,i.size,i.bytes))=some (some (.bool false),1,1):=by kernel_rfl
theorem RB.Tq (w:yM):RB w none 0 []:=⟨oZ.none_,js _,iu,by simp⟩
def n_ (l:List Bool):List UInt8:=l.map fun b=>if b then 49 else 48
def GD (h l:List Bool):List UInt8:=n_ h++[40]++n_ l++[41]
def xd (c:UInt8):Bool:=c==48||c==49
def rB (l:List UInt8):Bool:=l.all xd
def pY (l:List UInt8):List Bool:=l.map (·==49)
theorem zM (l:List UInt8):(pY l).length=l.length:=by simp[pY]
theorem I0 (c:UInt8):(c=48/\((c.toNat:Int)==48)=true/\((c.toNat:Int) != 48)=false/\((c.toNat:Int)==49)=false/\((c.toNat:Int) != 49)=true) \/
  (c=49/\((c.toNat:Int)==48)=false/\((c.toNat:Int) != 48)=true/\((c.toNat:Int)==49)=true/\((c.toNat:Int) != 49)=false) \/
  (xd c=false/\((c.toNat:Int)==48)=false/\((c.toNat:Int) != 48)=true/\((c.toNat:Int)==49)=false/\((c.toNat:Int) != 49)=true):=by
 by_cases o:c=48
 ·subst o;exact .inl ⟨rfl,iI,iI,iI,iI⟩
 by_cases j:c=49
 ·subst j;exact .inr (.inl ⟨rfl,iI,iI,iI,iI⟩)
 have a:c.toNat≠48:=fun e=>o (UInt8.toNat_inj.1 e)
 have b:c.toNat≠49:=fun e=>j (UInt8.toNat_inj.1 e)
 refine .inr (.inr ⟨by simp[xd,o,j],?_,?_,?_,?_⟩)<;>simp<;>omega
theorem Ig {s:yB} {l:List UInt8} (h:s.data.toList=l):s=⟨l.toArray⟩:=by
 obtain⟨⟨x⟩⟩:=s;subst h;rfl
theorem ow {s:yB} {l:List UInt8} (h:s.data.toList=l):s.size=l:=by
 obtain⟨⟨x⟩⟩:=s;subst h;rfl
theorem zy {s:yB} {k:Nat} (h:k<s.size):s.data.toList[k]?=some s[k]:=by
 obtain⟨⟨x⟩⟩:=s;simp[ByteArray.size]at h;rw[qn (by simpa using h)];rfl
theorem Bi {l:List UInt8} {k:Nat} {c:UInt8} (h:l[k]?=some c):bv (pY (l.take (k+1)))=bv (pY (l.take k))++[.bool (c==49)]:=by
 obtain⟨j,e⟩:=rq.1 h;rw[IX j,e];simp[pY,bv]
def SQ (w:yM) (l:List UInt8) (n:Nat) (e:Ending) (w':yM):Prop:=
 (rB l=true/\∃A c,e=.returned (.tuple #[.slice A n c,true])/\RB w' A c (pY l)/\BM w.heap.size A/\∃y,w'=w.more y) \/
 (rB l=false/\e=.returned (.tuple #[(),false])/\∃y,w'=w.more y)
theorem Bm {l:List UInt8} (h:∀j,j<l.length->∃c,l[j]?=some c/\xd c=true):rB l=true:=by
 unfold rB;rw[Bk];intro c I;obtain⟨j,o,rfl⟩:=List.getElem_of_mem I;obtain⟨c,e,J⟩:=h j o;rw[qn o]at e;cases e;exact J
theorem K6 {l:List UInt8} {j:Nat} {c:UInt8} (h:l[j]?=some c) (hc:xd c=false):rB l=false:=by
 unfold rB;rw[List.all_eq_false];obtain⟨o,e⟩:=rq.1 h;exact⟨c,by rw[<- e];exact Fq o,by simp[hc]⟩
theorem It (s:yB) (w:yM) (hs:s.size<=2000000) :
  Calls prog 185 #[s] w (SQ w s.data.toList s.size):=by
 go_in;go_wp2_with fail;go_loopw [4,8] (fun v i wr=>∃(k:Nat) (A:zA) (c:Nat),k<=s.size/\i=.int .i64 k/\v=.slice A k c/\Hid (wr.ownsRow w 4 1 (.slice A k c) k (bv (pY (s.data.toList.take k))))/\Hid (∀j,j<k->∃c,s.data.toList[j]?=some c/\xd c=true)/\ik w wr) (fun _ i _=>s.size-(intOf i).toNat)
 ·exact⟨0,none,0,iu,rfl,rfl,FL _ _ _ _,fun j h=>by omega,iR⟩
 case round=>
 obtain⟨k,A,c,hk,rfl,rfl,HO,HD,a8⟩:=hrel;by_cases a1:k<s.size
 ·have a7:(k:Int)<(s.size:Int):=iu
  have hb:=zy a1;have HT:=iy (Bi hb);have HB:=iy hb;clear hb;rcases I0 s[k] with⟨e,t1,t2,t3,t4⟩ | ⟨e,t1,t2,t3,t4⟩ | ⟨e,t1,t2,t3,t4⟩
  ·replace e:=iy e
   go_wp2_with (at_builtin;refine mh (w0:=w) wr rfl (.tmp 21) (.tmp 26) 257 rfl 4 _ 1 underlying257 Io rfl (.slice A k c) k _ (.bool false) rfl HO rfl rfl iu iu ?_;intro v1 w4 hown1 haft1;replace hown1:=iy hown1)
   obtain⟨R,J,rfl,_,_⟩:=ji hown1;go_roundw
   case rel=>exact⟨k+1,R,J,iu,by go_num,rfl,by show World.ownsRow _ _ _ _ _ _ _;rw[HT.out,e.out];exact hown1,fun j hj=>by
      rcases qa j k with h | h
      ·exact HD j h
      obtain rfl:j=k:=iu;exact⟨_,HB,by rw[e.out];rfl⟩,haft1⟩
   case measure=>simp[intOf];omega
  ·replace e:=iy e
   go_wp2_with (at_builtin;refine mh (w0:=w) wr rfl (.tmp 21) (.tmp 26) 257 rfl 4 _ 1 underlying257 Io rfl (.slice A k c) k _ (.bool true) rfl HO rfl rfl iu iu ?_;intro v1 w4 hown1 haft1;replace hown1:=iy hown1)
   obtain⟨R,J,rfl,_,_⟩:=ji hown1;go_roundw
   case rel=>exact⟨k+1,R,J,iu,by go_num,rfl,by show World.ownsRow _ _ _ _ _ _ _;rw[HT.out,e.out];exact hown1,fun j hj=>by
      rcases qa j k with h | h
      ·exact HD j h
      obtain rfl:j=k:=iu;exact⟨_,HB,by rw[e.out];rfl⟩,haft1⟩
   case measure=>simp[intOf];omega
  replace e:=iy e;go_wp2_with fail;go_ret2;exact .inr ⟨K6 HB e,rfl,jP _ _⟩
 obtain rfl:k=s.size:=iu;have hl:s.data.toList=s.size:=(ow rfl).symm;have U:=HO.out;rw[Dn iu]at U;have o:(pY s.data.toList).length=s.size:=by rw[zM,hl]
 have I:Hid (wr.ownsRow w 4 1 (.slice A s.size c) (pY s.data.toList).length (bv (pY s.data.toList))):=by rw[o];exact U
 obtain⟨R,J,e1,x1⟩:=RB.so I (by rw[o];omega);injection e1 with e1 e2 e3
 subst e1;subst e3;have X1:=iy x1;have n1:=BM.so I;have a6:=iy (Bm (l:=s.data.toList) (fun j hj=>HD j iu));clear x1 U o e2 hl;go_wp2_with fail;go_ret2;exact .inl ⟨a6,_,_,rfl,X1,n1,jP _ _⟩
def ph (l:List UInt8):List UInt8:=l.takeWhile xd
def mg (c:Int):Bool:=(decide (97<=c)&&decide (c<=122))||(decide (65<=c)&&decide (c<=90))
def jw (c:Int):Bool:=decide (48<=c)&&decide (c<=57)
def jQ (c:Int):Bool:=mg c||jw c||c==95
theorem yg (c:Int) (w:yM):Calls prog 109 #[.int .u8 c] w fun e w'=>e=.returned (.bool (mg c))/\ik w w':=by
 go_in;go_wp2;all_goals
  go_ret;exact⟨iK (by unfold mg;apply Bool.eq_iff_iff.2;simp;omega),iR⟩
theorem Aw (c:Int) (w:yM):Calls prog 111 #[.int .u8 c] w fun e w'=>e=.returned (.bool (jw c))/\ik w w':=by
 go_in;go_wp2;all_goals
  go_ret;exact⟨iK (by unfold jw;apply Bool.eq_iff_iff.2;simp;omega),iR⟩
theorem Ed (c:Int) (w:yM):Calls prog 146 #[.int .u8 c] w fun e w'=>e=.returned (.bool (jQ c))/\ik w w':=by
 obtain⟨a,I⟩:=jt (mg c);obtain⟨b,o⟩:=jt (jw c);have J:Hid (jQ c=(a||b||c==95)):=by show _=_;unfold jQ;rw[I,o]
 have R:Hid (∀U,Calls prog 109 #[.int .u8 c] U fun e w'=>e=.returned (.bool a)/\ik U w'):=fun U=>I▸yg c U
 have G2:Hid (∀U,Calls prog 111 #[.int .u8 c] U fun e w'=>e=.returned (.bool b)/\ik U w'):=fun U=>o▸Aw c U
 cases a
 ·cases b
  all_goals
   go_in;go_wp2_with fail;refine (R _).mono ?_;rintro e w2 ⟨rfl,j⟩;go_wp2_with fail;refine (G2 _).mono ?_;rintro e w3 ⟨rfl,k3⟩;have k4:=ij j k3;go_wp2;go_ret;exact⟨iK (by rw[J.out];first | rfl | simp),k4⟩
 go_in;go_wp2_with fail;refine (R _).mono ?_;rintro e w2 ⟨rfl,j⟩;go_wp2;go_ret;exact⟨iK (by rw[J.out];rfl),j⟩
def Tv:List (List UInt8):=[[97,115,115,117,109,101],[97,110,100],[97,117,116,111,109,97,116,111,110],[98,111,111,108],[99,111,110,116,105,110,117,101],[100,111],[100,111,110,101],[101,108,115,101],[101,110,100],[101,110,115,117,114,101],[101,118,101,114,121],[102,97,108,115,101],[102,98,121],[105,102],[105,110,116],[108,101,116],[109,101,114,103,101],[109,111,100],[110,111,100,101],[110,111,116],[111,114],[112,114,101],[114,101,116,117,114,110,115],[115,116,97,116,101],[116,101,108],[116,104,101,110],[116,114,117,101],[116,121,112,101],[117,110,108,101,115,115],[117,110,116,105,108],[118,97,114],[119,104,101,110],[120,111,114]]
def OM (s:yB):Bool:=Tv.any fun k=>s.toList==k
theorem AJ (s:yB) (w:yM):Calls prog 147 #[s] w fun e w'=>e=.returned (.bool (OM s))/\ik w w':=by
 have j:Hid (OM s=(s.toList==[97,115,115,117,109,101]||s.toList==[97,110,100]||s.toList==[97,117,116,111,109,97,116,111,110]||s.toList==[98,111,111,108]||s.toList==[99,111,110,116,105,110,117,101]||s.toList==[100,111]||s.toList==[100,111,110,101]||s.toList==[101,108,115,101]||s.toList==[101,110,100]||s.toList==[101,110,115,117,114,101]||s.toList==[101,118,101,114,121]||s.toList==[102,97,108,115,101]||s.toList==[102,98,121]||s.toList==[105,102]||s.toList==[105,110,116]||s.toList==[108,101,116]||s.toList==[109,101,114,103,101]||s.toList==[109,111,100]||s.toList==[110,111,100,101]||s.toList==[110,111,116]||s.toList==[111,114]||s.toList==[112,114,101]||s.toList==[114,101,116,117,114,110,115]||s.toList==[115,116,97,116,101]||s.toList==[116,101,108]||s.toList==[116,104,101,110]||s.toList==[116,114,117,101]||s.toList==[116,121,112,101]||s.toList==[117,110,108,101,115,115]||s.toList==[117,110,116,105,108]||s.toList==[118,97,114]||s.toList==[119,104,101,110]||s.toList==[120,111,114])):=by show _=_;simp only[OM,Tv,List.any_cons,List.any_nil,Bool.or_false,Bool.or_assoc]
 go_in;go_wp2;all_goals
  go_ret;first
   |(refine⟨iK ?_,iR⟩;rw[j.out];simp only[*,Bool.or_true,Bool.true_or,Bool.or_false,Bool.false_or];done)
   |(exfalso;simp_all;done)
def kT (s:yB):Bool:=decide (0<s.size)&&decide (s.size<=40)&&mg (s.data.toList.headD 0).toNat&&s.data.toList.all (fun c=>jQ c.toNat)&&!OM s
theorem Px {s:yB} (h:0<s.size):s.data.toList.headD 0=s[0]:=by
 have:=zy (k:=0) h;rw[List.headD_eq_head?_getD,List.head?_eq_getElem?,this];rfl
theorem nC (s:yB):s.toList=s.data.toList:=ByteArray.toList_eq s
theorem Ec {s:yB} (h:0<s.size):s.toList.isEmpty=false:=by
 rw[nC];have j:s.data.toList=s.size:=(ow rfl).symm;cases e:s.data.toList with
 |nil=>rw[e]at j;simp at j;omega
 |cons a l=>rfl
theorem Ie {s:yB} (h:s.size=0):s=⟨#[]⟩:=by
 have j:s.data.toList=s.size:=(ow rfl).symm;rw[h]at j;exact Ig (B_ j)
theorem Q9 {s:yB} {k:Nat} (h:k<s.size) (hc:jQ s[k].toNat=false):s.data.toList.all (fun c=>jQ c.toNat)=false:=by
 rw[List.all_eq_false];obtain⟨j,e⟩:=rq.1 (zy h);exact⟨s[k],by rw[<- e];exact Fq j,by simp[hc]⟩
theorem O8 {s:yB} (h:∀k (hk:k<s.size),jQ s[k].toNat=true):s.data.toList.all (fun c=>jQ c.toNat)=true:=by
 rw[Bk];intro c I;obtain⟨j,o,rfl⟩:=List.getElem_of_mem I;have J:s.data.toList=s.size:=(ow rfl).symm;have hk:j<s.size:=by omega
 have e:=zy hk;rw[qn o]at e;injection e with e
 rw[e];exact h j hk
theorem Ap (s:yB) (hs:s.size<=140737488355328) (w:yM):Calls prog 119 #[s] w fun e w'=>e=.returned (.bool (kT s))/\ik w w':=by
 by_cases h0:s.size=0
 ·have:=Ie h0
  subst this;go_in;go_wp2;go_ret;exact⟨rfl,zc⟩
 have hp:0<s.size:=by omega
 have ab:=Ec hp;have hI:(0:Int)<(s.size:Int):=by omega
 have HP:=iy hp;by_cases a':40<s.size
 ·have a_:(40:Int)<(s.size:Int):=by omega
  have HF:Hid (kT s=false):=by show _=_;unfold kT;rw[show decide (s.size<=40)=false by simpa using a'];simp
  go_in;go_wp2;go_ret;exact⟨iK (by rw[HF.out]),zc⟩
 have a_:(s.size:Int)<=40:=by omega
 obtain⟨a,ha⟩:=jt (mg (s[0].toNat:Int));obtain⟨q,hq⟩:=jt (OM s);have HD:Hid (kT s=(a&&s.data.toList.all (fun c=>jQ c.toNat)&&!q)):=by
  have e9:mg ((s.data.toList.headD 0).toNat:Int)=a:=by rw[Px hp];exact ha
  show _=_;unfold kT;rw[e9,hq,show decide (s.size<=40)=true by simp;omega,show decide (0<s.size)=true by simpa using hp];simp
 have G1:Hid (∀U,Calls prog 109 #[.int .u8 (s[0].toNat:Nat)] U fun e w'=>e=.returned (.bool a)/\ik U w'):=fun U=>ha▸yg _ U
 have G2:Hid (∀U,Calls prog 147 #[s] U fun e w'=>e=.returned (.bool q)/\ik U w'):=fun U=>hq▸AJ s U
 cases a
 ·go_in
  go_wp2_with fail;refine (G1 _).mono ?_;rintro e w1 ⟨rfl,I⟩;have o:ik w w1:=I;go_wp2;go_ret;exact⟨iK (by rw[HD.out];rfl),o⟩
 cases q
 ·go_in
  go_wp2_with fail;refine (G1 _).mono ?_;rintro e w1 ⟨rfl,I⟩;have o:ik w w1:=I;go_wp2_with fail;refine (G2 _).mono ?_;rintro e w2 ⟨rfl,a6⟩;have R:ik w w2:=ij o a6;go_wp2_with fail;go_loopw [23] (fun i wr=>∃k:Nat,k<=s.size/\i=.int .i64 (k:Nat)/\Hid (∀j (hj:j<s.size),j<k->jQ s[j].toNat=true)/\ik w wr) (fun i _=>s.size-(intOf i).toNat)
  ·exact⟨0,by omega,rfl,fun j _ h=>by omega,R⟩
  case round=>
  obtain⟨k,hk,rfl,HA,kr⟩:=hrel;by_cases a8:k<s.size
  ·have aa:(k:Int)<(s.size:Int):=by omega
   obtain⟨b,hb⟩:=jt (jQ (s[k].toNat:Int));have G3:Hid (∀U,Calls prog 146 #[.int .u8 (s[k].toNat:Nat)] U fun e w'=>e=.returned (.bool b)/\ik U w'):=fun U=>hb▸Ed _ U
   have HB:=iB hb;cases b
   ·go_wp2_with fail
    refine (G3 _).mono ?_;rintro e w5 ⟨rfl,a1⟩;have J:ik w w5:=ij kr a1;have HF:Hid (kT s=false):=by show _=_;rw[HD.out,Q9 a8 HB.out];simp
    go_wp2;go_ret;exact⟨iK (by rw[HF.out]),J⟩
   go_wp2_with fail;refine (G3 _).mono ?_;rintro e w5 ⟨rfl,a1⟩;have J:ik w w5:=ij kr a1;go_wp2;go_roundw
   case rel=>exact⟨k+1,by omega,by go_num,fun j hj h=>by
     rcases qa j k with h_ | h_
     ·exact HA j hj h_
     obtain rfl:j=k:=by omega
     exact HB,J⟩
   case measure=>simp[intOf];omega
  obtain rfl:k=s.size:=by omega
  have a7:=O8 (s:=s) (fun j hj=>HA j hj hj);have HF:Hid (kT s=true):=by show _=_;rw[HD.out,a7];rfl
  go_wp2;go_ret;exact⟨iK (by rw[HF.out]),kr⟩
 go_in;go_wp2_with fail;refine (G1 _).mono ?_;rintro e w1 ⟨rfl,I⟩;have o:ik w w1:=I;go_wp2_with fail;refine (G2 _).mono ?_;rintro e w2 ⟨rfl,a6⟩;have R:ik w w2:=ij o a6;go_wp2;go_ret;exact⟨iK (by rw[HD.out];simp),R⟩
structure F4 (w:yM) (A:zA) (c:Nat) (l:List yB):Prop where
 cells:∀k s,l[k]?=some s->∃b o,A=some ⟨b,o,none⟩/\b<w.heap.size/\w.cell? ⟨b,o+k,none⟩=some (.string s)
 le:l<=c
 cap:c<=9223372036854775807
 len:l.length<=140737488355328
theorem F4.below {w w':yM} {A c l} (h:F4 w A c l) (hb:Below w w w'):F4 w' A c l:=by
 refine⟨fun k s I=>?_,h.le,h.cap,h.len⟩;obtain⟨b,o,e,j,J⟩:=h.cells k s I;exact⟨b,o,e,rO j hb.size,(hb.cell (p:=(b,o+k)) j).trans J⟩
theorem F4.here {w0:yM} {A c l} (h:F4 w0 A c l) (w:yM) [k:ik w0 w]:F4 w A c l:=h.below k.below
theorem F4.at_ {w:yM} {A c l} (h:F4 w A c l) {k:Nat} (hk:k<l):∃b o s,A=some ⟨b,o,none⟩/\Le (b+1) w/\w.cell? ⟨b,o+k,none⟩=some (.string s)/\Hid (l[k]?=some s):=by
 obtain⟨b,o,e,j,I⟩:=h.cells k _ (qn hk);exact⟨b,o,_,e,⟨j⟩,I,qn hk⟩
theorem F4.Oh {w:yM} {g:Nat} {t:TypeId} {l:List yB} (h:iP w g t (l.map Value.string).toArray) (hl:l.length<=2000000):F4 w (some g) l.length l:=by
 refine⟨fun k s j=>⟨g,0,rfl,h.lt,?_⟩,js _,iu,iu⟩;rw[t_,h.cell];simp[j]
abbrev lM:=@iP.Og
abbrev BR:=@iP.mask
abbrev v_:=@ir.sub
abbrev uK:=@RB.Tq
def ke (c:Int):Bool:=c==32||c==9||c==10||c==13
def xj (c:Int):Bool:=!(c==10)
def yc (c:Int):Bool:=c==48||c==49||c==40||c==41
theorem Lp (c:Int) (w:yM):Calls prog 107 #[.int .u8 c] w fun e w'=>e=.returned (.bool (ke c))/\ik w w':=by
 go_in;go_wp2;all_goals
  go_ret;exact⟨iK (by unfold ke;apply Bool.eq_iff_iff.2;first | (simp;done) | (simp;omega)),iR⟩
theorem PW (c:Int) (w:yM):Calls prog 108 #[.int .u8 c] w fun e w'=>e=.returned (.bool (xj c))/\ik w w':=by
 go_in;go_wp2;all_goals
  go_ret;exact⟨iK (by unfold xj;apply Bool.eq_iff_iff.2;first | (simp;done) | (simp;omega)),iR⟩
theorem QV (c:Int) (w:yM):Calls prog 148 #[.int .u8 c] w fun e w'=>e=.returned (.bool (yc c))/\ik w w':=by
 go_in;go_wp2;all_goals
  go_ret;exact⟨iK (by unfold yc;apply Bool.eq_iff_iff.2;first | (simp;done) | (simp;omega)),iR⟩
def lO (w:yM) (q i:Nat):Nat:=match w.cell? (q,i) with | some (.int _ n)=>n.toNat | _=>0
theorem je {w:yM} {q i:Nat} {n:Int} {k:IntKind} (h:w.cell? (q,i)=some (.int k n)):lO w q i=n.toNat:=by unfold lO;rw[h]
def Sc (w:yM) (q:Nat) (s:yB) (a:Nat):Prop:=iP w q 148 #[s,(a:Nat)]
def jv (p:Int->Bool) (s:yB) (a:Nat):Nat:=((s.data.toList.drop a).takeWhile (fun c=>p c.toNat)).length
theorem oM (p:Int->Bool) (s:yB) (a:Nat) (h:a<=s.size):a+jv p s a<=s.size:=by
 unfold jv;have o:=(List.takeWhile_prefix (l:=s.data.toList.drop a) (fun c:UInt8=>p c.toNat)).length_le;have j:(s.data.toList.drop a).length=s.size-a:=by rw[nY];rfl
 omega
theorem tF (p:Int->Bool) {s:yB} {a:Nat} (h:s.size<=a):jv p s a=0:=by
 unfold jv;rw[Bn (by show s.data.toList.length<=a;exact h)];rfl
theorem BI {s:yB} {a:Nat} (h:a<s.size):s.data.toList.drop a=s[a]::s.data.toList.drop (a+1):=by
 have j:a<s.data.toList:=h;rw[MG j];rfl
theorem xi (p:Int->Bool) {s:yB} {a:Nat} (h:a<s.size) (hp:p s[a].toNat=false):jv p s a=0:=by
 unfold jv;rw[BI h,CZ,hp];rfl
theorem tp (p:Int->Bool) {s:yB} {a:Nat} (h:a<s.size) (hp:p s[a].toNat=true):jv p s a=jv p s (a+1)+1:=by
 unfold jv;rw[BI h,CZ,hp];rfl
abbrev SpO (p:Int->Bool) (f:Nat):Prop:=∀{q a:Nat} {s:yB},s.size<=140737488355328->a<=s.size->∀w,Sc w q s a->Calls prog 106 #[.pointer (some q),.func (.func f) #[] #[]] w fun e w'=>e=.returned (.string (s.extract a (a+jv p s a)))/\Sc w' q s (a+jv p s a)/\ik (iz q w) (iz q w')
abbrev SpG (p:Int->Bool) (f:Nat):Prop:=∀(c:Int) (w:yM),Calls prog f #[.int .u8 c] w fun e w'=>e=.returned (.bool (p c))/\ik w w'
theorem spn {f:Nat} (p:Int->Bool) (G:SpG p f) (H:∀p,SpG p f->SpO p f:=by
  intro p G0 q a s hs ha w h
  have a_:=oM p s a ha;obtain⟨z,hz⟩:=jt (a+jv p s a);rw[hz]at a_⊢;have HZ:=iB hz;have l0:=h.is_le;have c0:=(h.cell 0).trans rfl;have c1:=(h.cell 1).trans rfl;have HS:=iB h;go_in;go_wp2_with fail;go_loopw [] (fun wr=>∃k:Nat,a<=k/\k<=s.size/\Hid (k+jv p s k=z)/\Hid (Sc wr q s k)/\ik (iz q w) (iz q wr)) (fun wr=>s.size-lO wr q 1)
  ·exact⟨a,js _,ha,HZ,HS,iq _⟩
  case round=>
  obtain⟨k,a',hk,hn,I,aw⟩:=hrel;have l0:=I.is_le;have c0:=(I.cell 0).trans rfl;have c1:=(I.cell 1).trans rfl;have f1:=I.frozen 1;have d1:Hid (lO wr q 1=k):=iB (je c1);by_cases o:k<s.size
  ·have J:(k:Int)<(s.size:Int):=by omega
   obtain⟨b,hb⟩:=jt (p (s[k].toNat:Nat));have G:Hid (∀U,Calls prog _ #[.int .u8 (s[k].toNat:Nat)] U fun e w'=>e=.returned (.bool b)/\ik U w'):=fun U=>hb▸G0 _ U
   have HB:=iB hb;go_wp2_with fail;refine iE (by kernel_rfl) (by kernel_rfl) ?_;repeat (go_big_quiet_step (((first | go_at_call 107 | go_at_call 111 | go_at_call 146 | go_at_call 108 | go_at_call 148);exact mR ((G _).mono fun e w' h=>⟨h.1,jP _ _ (h:=h.2)⟩))))
   refine wpQuiet_nil ?_;rintro _ ⟨y_,rfl⟩;cases b
   ·go_wp2_with fail
    have j:z=k:=by
     have R:=hn.out;rw[xi p o HB.out]at R;omega
    subst j;have a8:(a:Int)<=(z:Int):=by omega
    have a7:(z:Int)<=(s.size:Int):=by omega
    refine iE (by kernel_rfl) (by kernel_rfl) ?_;repeat (go_big_quiet_step (fail))
    refine wpQuiet_nil ?_;rintro _ ⟨a6,rfl⟩;go_wp2;go_ret;exact⟨rfl,I.after (k:=zc),ij aw (im zc)⟩
   go_wp2_with fail;have a1:Sc ((wr.more y_).setCell (q,1) (.int .i64 (k+1))) q s (k+1):=((I.after (w':=wr.more y_)).jx 1 (.int .i64 (k+1)));exact⟨⟨k+1,by omega,by omega,(by have R:=hn.out;rw[tp p o HB.out]at R;show _=_;omega),a1,ij aw (by rw[jJ];exact im zc)⟩,by rw[je ((a1.cell 1).trans rfl),d1.out];omega⟩
  have J:¬((k:Int)<(s.size:Int)):=by omega
  go_wp2_with fail;refine iE (by kernel_rfl) (by kernel_rfl) ?_;repeat (go_big_quiet_step (fail))
  refine wpQuiet_nil ?_;rintro _ ⟨y_,rfl⟩;go_wp2_with fail;have j:z=k:=by
   have R:=hn.out;rw[tF p (wb o)]at R;omega
  subst j;have a8:(a:Int)<=(z:Int):=iu;have a7:(z:Int)<=(s.size:Int):=iu;refine iE kp kp ?_;repeat (go_big_quiet_step (fail))
  refine wpQuiet_nil ?_;rintro _ ⟨a6,rfl⟩;go_wp2;go_ret;exact⟨rfl,I.after (k:=iR),ij aw (im iR)⟩):SpO p f:=H p G
theorem IG:SpO ke 107:=spn ke Lp
theorem JD:SpO jw 111:=spn jw Aw
theorem Jf:SpO jQ 146:=spn jQ Ed
theorem N8:SpO xj 108:=spn xj PW
theorem Pn:SpO yc 148:=spn yc QV
structure Tk where
 kind:Int
 text:yB
def qM (s:yB) (a:Nat):Int:=(((s.data.toList.drop a).headD 0).toNat:Nat)
theorem zo {s:yB} {a:Nat} (h:a<s.size):qM s a=(s[a].toNat:Nat):=by unfold qM;rw[BI h];rfl
theorem zh (s:yB) (b:Nat):(s.extract b s.size).data.toList=s.data.toList.drop b:=by
 rw[Lib.extract_to_end]
theorem jr (s:yB):s.data.toList=s.size:=rfl
def uh:Nat->yB->Nat->Nat
 |0,_,a=>a
 |k+1,s,a=>if Lib.hasPrefix (s.data.toList.drop (a+jv ke s a)) [45,45] then uh k s (a+jv ke s a+jv xj s (a+jv ke s a)) else a+jv ke s a
theorem EU {s:yB} {a:Nat} (h:Lib.hasPrefix (s.data.toList.drop a) [45,45]=true):a<s.size/\0<jv xj s a:=by
 unfold jv;unfold Lib.hasPrefix at h;rw[List.isPrefixOf_iff_prefix]at h;obtain⟨t,j⟩:=h;rw[<- j];refine⟨?_,by simp[CZ,xj]⟩;rcases qa a s.size with o | o
 ·exact o
 rw[Bn (by show s.data.toList.length<=a;exact o)]at j;simp at j
theorem NC {q a:Nat} {s:yB} (hs:s.size<=140737488355328) (ha:a<=s.size) {f:Nat} (hf:s.size-a<f) (w:yM) (h:Sc w q s a) :
  Calls prog 66 #[.pointer (some q)] w fun e w'=>e=.returned (.tuple #[])/\uh f s a<=s.size/\Sc w' q s (uh f s a)/\ik (iz q w) (iz q w'):=by
 obtain⟨z,hz⟩:=jt (uh f s a);rw[hz];have HZ:=iB hz;have l0:=h.is_le;have HS:=iB h;go_in;go_wp2_with fail;go_loopw [] (fun wr=>∃k f:Nat,k<=s.size/\s.size-k<f/\Hid (uh f s k=z)/\Hid (Sc wr q s k)/\ik (iz q w) (iz q wr)) (fun wr=>s.size-lO wr q 1)
 ·exact⟨a,f,ha,hf,HZ,HS,iq _⟩
 case round=>
 obtain⟨k,f,hk,hf,hn,HR,aw⟩:=hrel;have d1:Hid (lO wr q 1=k):=iB (je ((HR.cell 1).trans rfl));obtain⟨f,rfl⟩:∃g,f=g+1:=⟨f-1,by omega⟩;go_wp2_with fail;refine (IG hs hk wr HR).mono ?_;have j:=oM ke s k hk;have HN:Hid ((if Lib.hasPrefix (s.data.toList.drop (k+jv ke s k)) [45,45] then uh f s (k+jv ke s k+jv xj s (k+jv ke s k)) else k+jv ke s k)=z):=iB hn;have J:k<=k+jv ke s k:=Nat.le_add_right _ _;revert HN j J;generalize k+jv ke s k=b;intro j HN J e w1;rintro⟨rfl,I,a1⟩;have I:=iB I;have l0:=I.is_le;have c0:=(I.cell 0).trans rfl;have c1:=(I.cell 1).trans rfl;have a7:(0:Int)<=(b:Int):=by omega
 have a6:(b:Int)<=(s.size:Int):=by omega
 obtain⟨d,hd⟩:=jt (Lib.hasPrefix (s.data.toList.drop b) [45,45]);have G:Hid (∀U,Calls prog 82 #[(s.extract b s.size),.string ⟨#[45,45]⟩] U fun e w'=>e=.returned (.bool d)/\w'=U):=fun U=>by
  have:=strings_HasPrefix (s.extract b s.size) ⟨#[45,45]⟩ U;rw[zh]at this;rw[<- hd];exact this
 have HD:=iB hd;go_wp2_with fail;refine iE (by kernel_rfl) (by kernel_rfl) ?_;repeat (go_big_quiet_step ((go_at_call 82;exact O5 ((G _).mono fun e w' h=>⟨h.1,h.2.symm⟩))))
 refine wpQuiet_nil ?_;rintro _ ⟨y_,rfl⟩;have R2:=iB (I.after (w':=w1.more y_));have a2:ik (iz q w) (iz q (w1.more y_)):=ij (ij aw a1) (im zc);cases d
 ·go_wp2_with fail
  have o:=HN.out;rw[HD.out]at o;simp only[if_false,Bool.false_eq_true]at o;exact jR (v:=.tuple #[]) (by simp[results,results66]) rfl ⟨rfl,o▸j,o▸R2,a2⟩
 have hm:=EU HD;go_wp2_with fail;refine (N8 hs j _ R2).mono ?_;have R:=oM xj s b j;rintro e w3 ⟨rfl,R3,a3⟩;have R3:=iB R3;go_wp2;go_roundw
 case rel=>
  have o:=HN.out;rw[iG HD.out]at o;exact⟨_,f,R,by omega,o,R3,ij a2 a3⟩
 case measure=>(rw[je ((R3.out.cell 1).trans rfl),d1.out];omega)
def Gr (q:Nat) (s:yB) (w:yM) (r:Option (Tk×Nat)) (e:Ending) (w':yM):Prop:=ik (iz q w) (iz q w')/\match r with
 |some (t,b)=>e=.returned (.tuple #[.agg #[t.kind,t.text,JX],JX])/\b<=s.size/\Sc w' q s b
 |none=>∃er:Int,e=.returned (.tuple #[.agg #[JX,.string ⟨#[]⟩,JX],er])/\er≠0/\0<=er/\er<=100
def tr (w:yM) (r:Nat) (k:Int) (t:yB):Prop:=iP w r 150 #[k,t,JX]
theorem rr {s:yB} {a n:Nat} (h:a+n<=s.size):(s.extract a (a+n)).size=n:=by
 rw[<- jr,Lib.extract_data,Fi,nY,jr];omega
theorem mV {w w1:yM} {r q b:Nat} {s:yB} {k0:Int} {t0:yB} (hB:tr w1 r k0 t0) (R:Sc w1 q s b) (hrq:r≠q) (aw:ik (iz q w) (iz q w1)) (hr:w<=r) (k:Int) (t:yB) :
  ∃W,((w1.setCell r (.int .i64 k)).setCell (r,1) (.string t)).setCell (r,2) (.int .i64 0)=W/\W.cell? r=k/\W.cell? (r,1)=t/\W.cell? (r,2)=JX/\Sc W q s b/\ik (iz q w) (iz q W):=by
 have j:=((hB.jx 0 (.int .i64 k)).jx 1 (.string t)).jx 2 (.int .i64 0);have o:uD (iz q w) r:=⟨by rw[iZ];exact hr⟩;refine⟨_,rfl,(j.cell 0).trans rfl,(j.cell 1).trans rfl,(j.cell 2).trans rfl,((R.qU (p:=⟨r,0,none⟩) (ls hrq) _).qU (p:=⟨r,1,none⟩) (ls hrq) _).qU (p:=⟨r,2,none⟩) (ls hrq) _,?_⟩;exact iJ (h:=iJ (h:=iJ (h:=aw) 0 _) 1 _) 2 _
def Bb (m:Nat) (t:yB) (b:Nat):Option (Tk×Nat):=if 40<m then none else some (⟨if OM t then 3 else 1,t⟩,b)
def BS (s:yB) (a:Nat):Option (Tk×Nat):=Bb (jv jQ s a) (s.extract a (a+jv jQ s a)) (a+jv jQ s a)
theorem Lb {q a:Nat} {s:yB} (hs:s.size<=140737488355328) (ha:a<=s.size) (w:yM) (h:Sc w q s a) :
  Calls prog 110 #[.pointer q] w (Gr q s w (BS s a)):=by
 have hq:=h.lt;obtain⟨r,hr⟩:=jt (w.heap.size);have U:=lI hr;have hB:tr (w.alloc (.cells #[JX,.string ⟨#[]⟩,JX] 150)) r 0 ⟨#[]⟩:=by have hb:=jC w 150 #[JX,.string ⟨#[]⟩,JX];rw[hr]at hb;exact hb
 obtain⟨w0,a7,a0,a'⟩:∃v,w.alloc (.cells #[JX,.string ⟨#[]⟩,JX] 150)=v/\ik (iz q w) (iz q v)/\Sc v q s a:=⟨_,rfl,by rw[tf w hq];exact iR,h.alloc _⟩;rw[a7]at hB;have o:r≠q:=iu;have HB:=iy (hB.mask o);have I:=oM jQ s a ha;have HC:=Jf hs ha w0 a';have HX:Hid (BS s a=Bb (jv jQ s a) (s.extract a (a+jv jQ s a)) (a+jv jQ s a)):=rfl;have R:=rr I;generalize s.extract a (a+jv jQ s a)=t at HX HC R;generalize BS s a=V at HX;generalize a_:a+jv jQ s a=b at HX HC I;generalize jv jQ s a=m at HX R a_;go_in;go_wp2_with fail;try rw[hr]
 try rw[a7]
 refine HC.mono ?_;rintro e w1 ⟨rfl,R1,a1⟩;have j:tr w1 r 0 ⟨#[]⟩:=lM (HB.after (w':=iz q w1) (k:=a1)) o;have l1:=j.is_le;have g0:=j.frozen 0;have g1:=j.frozen 1;have g2:=j.frozen 2;have f0:=(j.cell 0).trans rfl;have f1:=(j.cell 1).trans rfl;have f2:=(j.cell 2).trans rfl;have R1:=iy R1;have aw:=ij a0 a1;have HM:=iy R;have hm:m<=s.size:=iu;by_cases a6:40<t.size
 ·have a8:(40:Int)<(t.size:Int):=iu
  go_wp2_with fail;obtain⟨W,hW,x0,x1,x2,J,aW⟩:=mV j R1 o aw U (0) (⟨#[]⟩);rw[hW];exact jR (v:=.tuple #[.agg #[.int .i64 (0),.string (⟨#[]⟩),.int .i64 0],.int .i64 3]) (by simp[results,results110,go_sem,x0,x1,x2]) rfl ⟨aW,by rw[HX.out];unfold Bb;rw[iG (HM.out▸a6)];exact⟨3,rfl,iI,iI,iI⟩⟩
 have a8:(t.size:Int)<=40:=iu;obtain⟨d,hd⟩:=jt (OM t);have G:=iy (hd▸AJ t w1);have HD:=iy hd;go_wp2_with fail;refine G.mono ?_;rintro e w2 ⟨rfl,k2⟩;have j:tr w2 r 0 ⟨#[]⟩:=mZ (w:=w1) j;have R1:=iy (mZ (w':=w2) R1);have aw:=ij aw (im (q:=q) k2);have g0:=j.frozen 0;have g1:=j.frozen 1;have g2:=j.frozen 2;have f0:=(j.cell 0).trans rfl;have f1:=(j.cell 1).trans rfl;have f2:=(j.cell 2).trans rfl;cases d
 ·go_wp2_with fail
  obtain⟨W,hW,x0,x1,x2,J,aW⟩:=mV j R1 o aw U (1) (t);rw[hW];exact jR (v:=.tuple #[.agg #[.int .i64 (1),.string (t),.int .i64 0],.int .i64 0]) (by simp[results,results110,go_sem,x0,x1,x2]) rfl ⟨aW,by rw[HX.out];unfold Bb;rw[iV (HM.out▸a6),HD.out];exact⟨rfl,I,J⟩⟩
 go_wp2_with fail;obtain⟨W,hW,x0,x1,x2,J,aW⟩:=mV j R1 o aw U (3) (t);rw[hW];exact jR (v:=.tuple #[.agg #[.int .i64 (3),.string (t),.int .i64 0],.int .i64 0]) (by simp[results,results110,go_sem,x0,x1,x2]) rfl ⟨aW,by rw[HX.out];unfold Bb;rw[iV (HM.out▸a6),HD.out];exact⟨rfl,I,J⟩⟩
def Ft (t:yB):Bool:=!Op.bytesLess t.toList [51,50,55,54,56]&&!t.toList==[51,50,55,54,56]
def rh (m:Nat) (t:yB) (b:Nat):Option (Tk×Nat):=if (decide (1<m)&&qM t 0==48)=true then none else if (decide (5<m)||(decide (m=5)&&Ft t))=true then none else some (⟨2,t⟩,b)
def vw (s:yB) (a:Nat):Option (Tk×Nat):=rh (jv jw s a) (s.extract a (a+jv jw s a)) (a+jv jw s a)
theorem Gw {q a:Nat} {s:yB} (hs:s.size<=140737488355328) (ha:a<=s.size) (w:yM) (h:Sc w q s a) :
  Calls prog 112 #[.pointer q] w (Gr q s w (vw s a)):=by
 have hq:=h.lt;obtain⟨r,hr⟩:=jt (w.heap.size);have J:=lI hr;have hB:tr (w.alloc (.cells #[JX,.string ⟨#[]⟩,JX] 150)) r 0 ⟨#[]⟩:=by have hb:=jC w 150 #[JX,.string ⟨#[]⟩,JX];rw[hr]at hb;exact hb
 obtain⟨w0,a_,a0,ad⟩:∃v,w.alloc (.cells #[JX,.string ⟨#[]⟩,JX] 150)=v/\ik (iz q w) (iz q v)/\Sc v q s a:=⟨_,rfl,by rw[tf w hq];exact iR,h.alloc _⟩;rw[a_]at hB;have o:r≠q:=iu;have HB:=iy (hB.mask o);have a6:=oM jw s a ha;have HC:=JD hs ha w0 ad;have HX:Hid (vw s a=rh (jv jw s a) (s.extract a (a+jv jw s a)) (a+jv jw s a)):=rfl;have a7:=rr a6;generalize s.extract a (a+jv jw s a)=t at HX HC a7;generalize vw s a=V at HX;generalize ab:a+jv jw s a=b at HX HC a6;generalize jv jw s a=m at HX a7 ab;go_in;go_wp2_with fail;try rw[hr]
 try rw[a_]
 refine HC.mono ?_;rintro e w1 ⟨rfl,R1,a1⟩;have j:tr w1 r 0 ⟨#[]⟩:=lM (HB.after (w':=iz q w1) (k:=a1)) o;have l1:=j.is_le;have g0:=j.frozen 0;have g1:=j.frozen 1;have g2:=j.frozen 2;have f0:=(j.cell 0).trans rfl;have f1:=(j.cell 1).trans rfl;have f2:=(j.cell 2).trans rfl;have R1:=iB R1;have aw:=ij a0 a1;have HM:=iB a7;have hm:m<=s.size:=by omega
 by_cases h1:1<t.size
 ·have ae:(1:Int)<(t.size:Int):=by omega
  have af:0<t.size:=by omega
  have ah:(0:Int)<(t.size:Int):=by omega
  obtain⟨z,hz⟩:=jt (((t[0].toNat:Int)==48));have HA:Hid ((decide (1<m)&&qM t 0==48)=z):=by show _=_;rw[<- HM.out,lp h1,zo af];exact hz
  cases z
  ·by_cases h5:5<t.size
   ·have a':(5:Int)<(t.size:Int):=by omega
    have HV:Hid ((decide (5<m)||(decide (m=5)&&Ft t))=true):=by show _=_;rw[<- HM.out,lp h5];rfl
    go_wp2_with fail;obtain⟨W,hW,x0,U,R,I,aW⟩:=mV j R1 o aw J (0) (⟨#[]⟩);rw[hW];exact jR (v:=.tuple #[.agg #[.int .i64 (0),.string (⟨#[]⟩),.int .i64 0],.int .i64 14]) (by simp[results,results112,go_sem,x0,U,R]) rfl ⟨aW,by rw[HX.out];unfold rh;rw[iV (by rw[HA.out];simp),iG HV.out];exact⟨14,rfl,by decide,by decide,by decide⟩⟩
   have a':¬((5:Int)<(t.size:Int)):=by omega
   by_cases h6:t.size=5
   ·have a8:(t.size:Int)=5:=by omega
    obtain⟨z5,aa⟩:=jt ((!Op.bytesLess t.toList [51,50,55,54,56]&&!t.toList==[51,50,55,54,56]));have HV:Hid ((decide (5<m)||(decide (m=5)&&Ft t))=z5):=by show _=_;rw[<- HM.out,decide_eq_false h5,lp h6];exact aa
    cases z5
    ·go_wp2_with fail
     all_goals (try (exfalso;simp_all;done))
     obtain⟨W,hW,x0,U,R,I,aW⟩:=mV j R1 o aw J (2) (t);rw[hW];exact jR (v:=.tuple #[.agg #[.int .i64 (2),.string (t),.int .i64 0],.int .i64 0]) (by simp[results,results112,go_sem,x0,U,R]) rfl ⟨aW,by rw[HX.out];unfold rh;rw[iV (by rw[HA.out];simp),iV (by rw[HV.out];simp)];exact⟨rfl,a6,I⟩⟩
    go_wp2_with fail;all_goals (try (exfalso;simp_all;done))
    obtain⟨W,hW,x0,U,R,I,aW⟩:=mV j R1 o aw J (0) (⟨#[]⟩);rw[hW];exact jR (v:=.tuple #[.agg #[.int .i64 (0),.string (⟨#[]⟩),.int .i64 0],.int .i64 14]) (by simp[results,results112,go_sem,x0,U,R]) rfl ⟨aW,by rw[HX.out];unfold rh;rw[iV (by rw[HA.out];simp),iG HV.out];exact⟨14,rfl,by decide,by decide,by decide⟩⟩
   have a8:¬((t.size:Int)=5):=by omega
   have ag:((t.size:Int)==5)=false:=by rw[beq_eq_false_iff_ne];exact a8
   have HV:Hid ((decide (5<m)||(decide (m=5)&&Ft t))=false):=by show _=_;rw[<- HM.out,decide_eq_false h5,decide_eq_false h6];rfl
   go_wp2_with fail;obtain⟨W,hW,x0,U,R,I,aW⟩:=mV j R1 o aw J (2) (t);rw[hW];exact jR (v:=.tuple #[.agg #[.int .i64 (2),.string (t),.int .i64 0],.int .i64 0]) (by simp[results,results112,go_sem,x0,U,R]) rfl ⟨aW,by rw[HX.out];unfold rh;rw[iV (by rw[HA.out];simp),iV (by rw[HV.out];simp)];exact⟨rfl,a6,I⟩⟩
  go_wp2_with fail;obtain⟨W,hW,x0,U,R,I,aW⟩:=mV j R1 o aw J (0) (⟨#[]⟩);rw[hW];exact jR (v:=.tuple #[.agg #[.int .i64 (0),.string (⟨#[]⟩),.int .i64 0],.int .i64 5]) (by simp[results,results112,go_sem,x0,U,R]) rfl ⟨aW,by rw[HX.out];unfold rh;rw[iG HA.out];exact⟨5,rfl,iI,iI,iI⟩⟩
 have ae:¬((1:Int)<(t.size:Int)):=iu;have HA:Hid ((decide (1<m)&&qM t 0==48)=false):=by show _=_;rw[<- HM.out,decide_eq_false h1];rfl
 have h5:¬(5<t.size):=iu;have h6:¬(t.size=5):=iu;have a':¬((5:Int)<(t.size:Int)):=iu;have a8:¬((t.size:Int)=5):=iu;have HV:Hid ((decide (5<m)||(decide (m=5)&&Ft t))=false):=by show _=_;rw[<- HM.out,decide_eq_false h5,decide_eq_false h6];rfl
 go_wp2_with fail;obtain⟨W,hW,x0,U,R,I,aW⟩:=mV j R1 o aw J (2) (t);rw[hW];exact jR (v:=.tuple #[.agg #[.int .i64 (2),.string (t),.int .i64 0],.int .i64 0]) (by simp[results,results112,go_sem,x0,U,R]) rfl ⟨aW,by rw[HX.out];unfold rh;rw[iV (by rw[HA.out];simp),iV (by rw[HV.out];simp)];exact⟨rfl,a6,I⟩⟩
def BL (s:yB) (a:Nat):Option (Tk×Nat):=if a+1+jv yc s (a+1)<s.size/\qM s (a+1+jv yc s (a+1))=39 then some (⟨5,s.extract (a+1) (a+1+jv yc s (a+1))⟩,a+1+jv yc s (a+1)+1) else none
theorem Ld {q a:Nat} {s:yB} (hs:s.size<=140737488355328) (ha:a<s.size) (w:yM) (h:Sc w q s a) :
  Calls prog 113 #[.pointer q] w (Gr q s w (BL s a)):=by
 have hq:=h.lt;have l0:=h.is_le;obtain⟨r,hr⟩:=jt (w.heap.size);have a6:=lI hr;have hB:tr (w.alloc (.cells #[JX,.string ⟨#[]⟩,JX] 150)) r 0 ⟨#[]⟩:=by have hb:=jC w 150 #[JX,.string ⟨#[]⟩,JX];rw[hr]at hb;exact hb
 obtain⟨w0,a8,a0,U⟩:∃v,w.alloc (.cells #[JX,.string ⟨#[]⟩,JX] 150)=v/\ik (iz q w) (iz q v)/\Sc v q s a:=⟨_,rfl,by rw[tf w hq];exact iR,h.alloc _⟩;rw[a8]at hB;have J:r≠q:=by omega
 have HB:=iB (hB.mask J);have a':=oM yc s (a+1) ha;have HC:=fun W (hW:Sc W q s (a+1))=>Pn hs ha W hW
 have HX:Hid (BL s a=if a+1+jv yc s (a+1)<s.size/\qM s (a+1+jv yc s (a+1))=39 then some (⟨5,s.extract (a+1) (a+1+jv yc s (a+1))⟩,a+1+jv yc s (a+1)+1) else none):=rfl;generalize s.extract (a+1) (a+1+jv yc s (a+1))=t at HX HC;generalize BL s a=V at HX;generalize ab:a+1+jv yc s (a+1)=b at HX HC a';have c1:=(U.cell 1).trans rfl;have c9:=U.frozen 1;have l0:=U.is_le;have S1:Sc (w0.setCell (q,1) (.int .i64 (a+1))) q s (a+1):=U.jx 1 (.int .i64 (a+1));have e1:(w0.setCell (q,1) (.int .i64 (a+1)))=(w0.setCell (q,1) (.int .i64 (a+1))):=rfl;have HC:=iB (HC _ S1);have af:(a:Int)+1<=s.size:=by omega
 have ag:=iy U;go_in;go_wp2_with fail;try rw[hr]
 try rw[a8]
 refine HC.mono ?_;rintro e I ⟨rfl,o,a1⟩;rw[jJ]at a1;have j:tr I r 0 ⟨#[]⟩:=lM (HB.after (w':=iz q I) (k:=a1)) J;have l1:=j.is_le;have g0:=j.frozen 0;have g1:=j.frozen 1;have g2:=j.frozen 2;have f0:=(j.cell 0).trans rfl;have f1:=(j.cell 1).trans rfl;have f2:=(j.cell 2).trans rfl;have o:=iB o;have aw:=ij a0 a1;have l0:=o.is_le;have c0:=(o.cell 0).trans rfl;have c1:=(o.cell 1).trans rfl;have c9:=o.frozen 1;by_cases hb:b<s.size
 ·have ae:(b:Int)<(s.size:Int):=by omega
  have a_:¬((b:Int)=(s.size:Int)):=by omega
  have ad:((b:Int)==(s.size:Int))=false:=by rw[beq_eq_false_iff_ne];exact a_
  obtain⟨z,hz⟩:=jt (((s[b].toNat:Int)==39));have HV:Hid ((qM s b==39)=z):=by show _=_;rw[zo hb];exact hz
  cases z
  ·go_wp2_with fail
   refine iE (by kernel_rfl) (by kernel_rfl) ?_;repeat (go_big_quiet_step (fail))
   refine wpQuiet_nil ?_;rintro _ ⟨R,rfl⟩;have aw:=ij aw (im (q:=q) (w:=I) (w':=I.more R) zc);have j:tr (I.more R) r 0 ⟨#[]⟩:=mZ (w:=I) j;have o:=iB (mZ (w':=I.more R) o);go_wp2_with fail;obtain⟨W,hW,x0,x1,x2,a7,aW⟩:=mV j o J aw a6 (0) (⟨#[]⟩);rw[hW];exact jR (v:=.tuple #[.agg #[.int .i64 (0),.string (⟨#[]⟩),.int .i64 0],.int .i64 5]) (by simp[results,results113,go_sem,x0,x1,x2]) rfl ⟨aW,by rw[HX.out,iV (by intro h;have:=HV.out;rw[h.2]at this;exact absurd this (by decide))];exact⟨5,rfl,by decide,by decide,by decide⟩⟩
  go_wp2_with fail;refine iE (by kernel_rfl) (by kernel_rfl) ?_;repeat (go_big_quiet_step (fail))
  refine wpQuiet_nil ?_;rintro _ ⟨R,rfl⟩;have aw:=ij aw (im (q:=q) (w:=I) (w':=I.more R) zc);have j:tr (I.more R) r 0 ⟨#[]⟩:=mZ (w:=I) j;have o:=iB (mZ (w':=I.more R) o);have c1:=(o.cell 1).trans rfl;have l0:=o.is_le;have c9:=o.frozen 1;go_wp2_with fail;obtain⟨v,hv,k1,k2,k3⟩:∃v,((I.more R).setCell ⟨q,1,none⟩ (.int .i64 (b+1)))=v/\tr v r 0 ⟨#[]⟩/\Sc v q s (b+1)/\ik (iz q w) (iz q v):=⟨_,rfl,j.qU (p:=⟨q,1,none⟩) J _,o.jx 1 (.int .i64 (b+1)),by rw[jJ];exact aw⟩;try rw[hv]
  have j:=k1;have o:=iB k2;have aw:=k3;obtain⟨W,hW,x0,x1,x2,a7,aW⟩:=mV j o J aw a6 (5) (t);rw[hW];exact jR (v:=.tuple #[.agg #[.int .i64 (5),.string (t),.int .i64 0],.int .i64 0]) (by simp[results,results113,go_sem,x0,x1,x2]) rfl ⟨aW,by rw[HX.out,iG ⟨hb,by simpa using HV.out⟩];exact⟨rfl,hb,a7⟩⟩
 have a_:(b:Int)=(s.size:Int):=by omega
 have aa:b=s.size:=by omega
 subst aa;go_wp2_with fail;refine iE (by kernel_rfl) (by kernel_rfl) ?_;repeat (go_big_quiet_step (fail))
 refine wpQuiet_nil ?_;rintro _ ⟨R,rfl⟩;have aw:=ij aw (im (q:=q) (w:=I) (w':=I.more R) zc);have j:tr (I.more R) r 0 ⟨#[]⟩:=mZ (w:=I) j;have o:=iB (mZ (w':=I.more R) o);go_wp2_with fail;obtain⟨W,hW,x0,x1,x2,a7,aW⟩:=mV j o J aw a6 (0) (⟨#[]⟩);rw[hW];exact jR (v:=.tuple #[.agg #[.int .i64 (0),.string (⟨#[]⟩),.int .i64 0],.int .i64 5]) (by simp[results,results113,go_sem,x0,x1,x2]) rfl ⟨aW,by rw[HX.out,iV (by intro h;exact absurd h.1 (Nat.lt_irrefl _))];exact⟨5,rfl,iI,iI,iI⟩⟩
end Go.Proofs.YtnigblndonocfaaGreatDoor
