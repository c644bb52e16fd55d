/- A part of the proof. -/
import Derived.Test.YtnigblndonocfaaGreatDoorBase
import Derived.Maps.AppendAt
import Derived.Deep.AppendLies
import Derived.RegionTactic
import Derived.OwnWalk
set_option linter.unusedVariables false
set_option linter.unusedSimpArgs false
namespace Go.Proofs.YtnigblndonocfaaGreatDoor
set_option maxRecDepth 100000
set_option maxHeartbeats 1600000
open Go.RowKit
section
def iP (w:World) (g:Nat) (t:TypeId) (cs:Array Value):Prop:=w.heap[g]?=some (.cells cs t (0,0))
section
variable {w w':World} {g:Nat} {t:TypeId} {cs:Array Value}
theorem iP.lt (h:iP w g t cs):g<w.heap.size:=by
 rcases Nat.lt_or_ge g w.heap.size with hlt | hge
 ·exact hlt
 unfold iP at h;rw[Array.getElem?_eq_none hge]at h;cases h
theorem iP.is_le (h:iP w g t cs):Le (g+1) w:=⟨h.lt⟩
theorem iP.cell (h:iP w g t cs) (i:Nat):w.cell? ⟨g,i,none⟩=cs[i]?:=cell_of_row w g i cs t (0,0) h
theorem iP.frozen (h:iP w g t cs) (i:Nat):w.frozen? ⟨g,i,none⟩=false:=by
 unfold iP at h;simp[World.frozen?,h]
theorem iP.new (w:World) (t:TypeId) (cs:Array Value):iP (w.alloc (.cells cs t)) w.heap.size t cs:=heap_alloc_new w _
theorem iP.drew (h:iP w g t cs):iP w.drew g t cs:=h
theorem iP.alloc (h:iP w g t cs) (o:Obj):iP (w.alloc o) g t cs:=(Below.heap_alloc w o g h.lt).trans h
theorem iP.jx (h:iP w g t cs) (i:Nat) (u:Value):iP (w.setCell ⟨g,i,none⟩ u) g t (cs.setIfInBounds i u):=by
 unfold iP at h⊢;simp[World.setCell,Array.getElem?_modify,h]
theorem iP.qU (h:iP w g t cs) {p:Addr} (hp:g≠p.block) (u:Value):iP (w.setCell p u) g t cs:=(Below.heap_setCell w p u g hp).trans h
theorem iP.more (h:iP w g t cs) (y:World):iP (w.more y) g t cs:=((qB w y).block g h.lt).trans h
theorem iP.after (h:iP w g t cs) [k:ik w w']:iP w' g t cs:=(k.below.block g h.lt).trans h
theorem iP.grown (h:iP w g t cs) {row:Option Nat} (hb:w.grownBy w' row) (hg:some g≠row):iP w' g t cs:=(hb.block g h.lt hg).trans h
end
theorem vm {w0 wr w':World} [h:ik w0 wr] {B:Nat} {e:TypeId} {size n:Nat} {v:Value} {xs:List Value} (hown:wr.ownsRow B e size v n xs) (hB:w0.heap.size<=B) (hg:wr.grownBy w' v.ownBlock):ik w0 w':=
 ⟨h.below.grown hg h.below.size fun k hk=>Nat.le_trans hB (hown.lt k hk).1⟩
end
section
open Go.RowKit Go.BigFrame
theorem kp {p:Prop} (h:p:=by kernel_rfl):p:=h
theorem iu {p:Prop} (h:p:=by omega):p:=h
theorem iI {p:Prop} (h:p:=by decide):p:=h
theorem iR {p:Prop} (h:p:=by exact inferInstance):p:=h
theorem iy {p:Prop} (h:p):Hid p:=h
theorem jt {α:Type} (a:α):∃x,a=x:=⟨a,rfl⟩
theorem sC:(∀{α:Type} (l:List α) (i:Nat) (a:α),l.toArray.setIfInBounds i a=(l.set i a).toArray)/\(∀{α:Type} (x:α) (xs:List α) (b:α),(x::xs).set 0 b=b::xs)/\(∀{α:Type} (x:α) (xs:List α) (n:Nat) (b:α),(x::xs).set (n+1) b=x::xs.set n b):=⟨fun l i a=>List.setIfInBounds_toArray l i a,fun _ _ _=>List.set_cons_zero,fun _ _ _ _=>List.set_cons_succ⟩
section
variable {w:World} {g:Nat} {t:TypeId}
theorem iP.c2 {x0 x1:Value} (h:iP w g t #[x0,x1]):w.cell? ⟨g,0,none⟩=some x0/\w.cell? ⟨g,1,none⟩=some x1:=⟨(h.cell 0).trans rfl,(h.cell 1).trans rfl⟩
theorem iP.c3 {x0 x1 x2:Value} (h:iP w g t #[x0,x1,x2]):w.cell? ⟨g,0,none⟩=some x0/\w.cell? ⟨g,1,none⟩=some x1/\w.cell? ⟨g,2,none⟩=some x2:=⟨(h.cell 0).trans rfl,(h.cell 1).trans rfl,(h.cell 2).trans rfl⟩
theorem iP.c4 {x0 x1 x2 x3:Value} (h:iP w g t #[x0,x1,x2,x3]):w.cell? ⟨g,0,none⟩=some x0/\w.cell? ⟨g,1,none⟩=some x1/\w.cell? ⟨g,2,none⟩=some x2/\w.cell? ⟨g,3,none⟩=some x3:=⟨(h.cell 0).trans rfl,(h.cell 1).trans rfl,(h.cell 2).trans rfl,(h.cell 3).trans rfl⟩
theorem iP.c5 {x0 x1 x2 x3 x4:Value} (h:iP w g t #[x0,x1,x2,x3,x4]):w.cell? ⟨g,0,none⟩=some x0/\w.cell? ⟨g,1,none⟩=some x1/\w.cell? ⟨g,2,none⟩=some x2/\w.cell? ⟨g,3,none⟩=some x3/\w.cell? ⟨g,4,none⟩=some x4:=⟨(h.cell 0).trans rfl,(h.cell 1).trans rfl,(h.cell 2).trans rfl,(h.cell 3).trans rfl,(h.cell 4).trans rfl⟩
theorem iP.c6 {x0 x1 x2 x3 x4 x5:Value} (h:iP w g t #[x0,x1,x2,x3,x4,x5]):w.cell? ⟨g,0,none⟩=some x0/\w.cell? ⟨g,1,none⟩=some x1/\w.cell? ⟨g,2,none⟩=some x2/\w.cell? ⟨g,3,none⟩=some x3/\w.cell? ⟨g,4,none⟩=some x4/\w.cell? ⟨g,5,none⟩=some x5:=⟨(h.cell 0).trans rfl,(h.cell 1).trans rfl,(h.cell 2).trans rfl,(h.cell 3).trans rfl,(h.cell 4).trans rfl,(h.cell 5).trans rfl⟩
theorem iP.c7 {x0 x1 x2 x3 x4 x5 x6:Value} (h:iP w g t #[x0,x1,x2,x3,x4,x5,x6]):w.cell? ⟨g,0,none⟩=some x0/\w.cell? ⟨g,1,none⟩=some x1/\w.cell? ⟨g,2,none⟩=some x2/\w.cell? ⟨g,3,none⟩=some x3/\w.cell? ⟨g,4,none⟩=some x4/\w.cell? ⟨g,5,none⟩=some x5/\w.cell? ⟨g,6,none⟩=some x6:=⟨(h.cell 0).trans rfl,(h.cell 1).trans rfl,(h.cell 2).trans rfl,(h.cell 3).trans rfl,(h.cell 4).trans rfl,(h.cell 5).trans rfl,(h.cell 6).trans rfl⟩
theorem iP.c8 {x0 x1 x2 x3 x4 x5 x6 x7:Value} (h:iP w g t #[x0,x1,x2,x3,x4,x5,x6,x7]):w.cell? ⟨g,0,none⟩=some x0/\w.cell? ⟨g,1,none⟩=some x1/\w.cell? ⟨g,2,none⟩=some x2/\w.cell? ⟨g,3,none⟩=some x3/\w.cell? ⟨g,4,none⟩=some x4/\w.cell? ⟨g,5,none⟩=some x5/\w.cell? ⟨g,6,none⟩=some x6/\w.cell? ⟨g,7,none⟩=some x7:=⟨(h.cell 0).trans rfl,(h.cell 1).trans rfl,(h.cell 2).trans rfl,(h.cell 3).trans rfl,(h.cell 4).trans rfl,(h.cell 5).trans rfl,(h.cell 6).trans rfl,(h.cell 7).trans rfl⟩
theorem iP.f2 {cs:Array Value} (h:iP w g t cs):w.frozen? ⟨g,0,none⟩=false/\w.frozen? ⟨g,1,none⟩=false:=⟨h.frozen 0,h.frozen 1⟩
theorem iP.f3 {cs:Array Value} (h:iP w g t cs):w.frozen? ⟨g,0,none⟩=false/\w.frozen? ⟨g,1,none⟩=false/\w.frozen? ⟨g,2,none⟩=false:=⟨h.frozen 0,h.frozen 1,h.frozen 2⟩
theorem iP.f4 {cs:Array Value} (h:iP w g t cs):w.frozen? ⟨g,0,none⟩=false/\w.frozen? ⟨g,1,none⟩=false/\w.frozen? ⟨g,2,none⟩=false/\w.frozen? ⟨g,3,none⟩=false:=⟨h.frozen 0,h.frozen 1,h.frozen 2,h.frozen 3⟩
theorem iP.f5 {cs:Array Value} (h:iP w g t cs):w.frozen? ⟨g,0,none⟩=false/\w.frozen? ⟨g,1,none⟩=false/\w.frozen? ⟨g,2,none⟩=false/\w.frozen? ⟨g,3,none⟩=false/\w.frozen? ⟨g,4,none⟩=false:=⟨h.frozen 0,h.frozen 1,h.frozen 2,h.frozen 3,h.frozen 4⟩
theorem iP.f6 {cs:Array Value} (h:iP w g t cs):w.frozen? ⟨g,0,none⟩=false/\w.frozen? ⟨g,1,none⟩=false/\w.frozen? ⟨g,2,none⟩=false/\w.frozen? ⟨g,3,none⟩=false/\w.frozen? ⟨g,4,none⟩=false/\w.frozen? ⟨g,5,none⟩=false:=⟨h.frozen 0,h.frozen 1,h.frozen 2,h.frozen 3,h.frozen 4,h.frozen 5⟩
theorem iP.f7 {cs:Array Value} (h:iP w g t cs):w.frozen? ⟨g,0,none⟩=false/\w.frozen? ⟨g,1,none⟩=false/\w.frozen? ⟨g,2,none⟩=false/\w.frozen? ⟨g,3,none⟩=false/\w.frozen? ⟨g,4,none⟩=false/\w.frozen? ⟨g,5,none⟩=false/\w.frozen? ⟨g,6,none⟩=false:=⟨h.frozen 0,h.frozen 1,h.frozen 2,h.frozen 3,h.frozen 4,h.frozen 5,h.frozen 6⟩
theorem iP.f8 {cs:Array Value} (h:iP w g t cs):w.frozen? ⟨g,0,none⟩=false/\w.frozen? ⟨g,1,none⟩=false/\w.frozen? ⟨g,2,none⟩=false/\w.frozen? ⟨g,3,none⟩=false/\w.frozen? ⟨g,4,none⟩=false/\w.frozen? ⟨g,5,none⟩=false/\w.frozen? ⟨g,6,none⟩=false/\w.frozen? ⟨g,7,none⟩=false:=⟨h.frozen 0,h.frozen 1,h.frozen 2,h.frozen 3,h.frozen 4,h.frozen 5,h.frozen 6,h.frozen 7⟩
end
end
abbrev iB:=@Lib.hid
abbrev mW:=@Option.bind_eq_some_iff
abbrev oF:=@List.setIfInBounds_toArray
abbrev mo:=@List.length_append
abbrev lp:=@decide_eq_true
abbrev iV:=@if_neg
abbrev jW:=@Nat.le_trans
abbrev py:=@List.length_cons
abbrev oq:=@List.set_cons_succ
abbrev oB:=@List.set_cons_zero
abbrev iG:=@if_pos
abbrev js:=@Nat.le_refl
abbrev kD:=@List.append_assoc
abbrev uW:=@List.mem_cons
abbrev jR:=@bodyPost_ret
abbrev TC:=@List.not_mem_nil
abbrev lP:=@List.cons_append
abbrev om:=@List.mem_of_getElem?
abbrev nG:=@List.mem_cons_self
abbrev mT:=@Bool.and_eq_true
abbrev qn:=@List.getElem?_eq_getElem
abbrev rq:=@List.getElem?_eq_some_iff
abbrev lI:=@Nat.le_of_eq
abbrev wJ:=@List.length_nil
abbrev nY:=@List.length_drop
abbrev mJ:=@List.map_cons
abbrev qj:=@List.mem_cons_of_mem
abbrev nQ:=@congrArg
abbrev pf:=@List.take_length
abbrev t_:=@Nat.zero_add
abbrev oV:=@List.append_nil
abbrev pZ:=@List.flatMap_cons
abbrev pE:=@List.length_map
abbrev rO:=@Nat.lt_of_lt_of_le
abbrev sD:=@List.take_succ_cons
abbrev wk:=@List.getElem?_append_left
abbrev wC:=@List.getD_eq_getElem?_getD
abbrev qu:=@Bool.false_and
abbrev xK:=@List.getElem?_append_right
abbrev yE:=@Bool.false_ne_true
abbrev qT:=@Bool.and_false
abbrev uB:=@List.drop_succ_cons
abbrev sb:=@List.nil_append
abbrev ls:=@Ne.symm
abbrev qa:=@Nat.lt_or_ge
abbrev ry:=@List.tail_cons
abbrev sI:=@Option.some.inj
abbrev rP:=@List.take_zero
abbrev s_:=@List.map_append
abbrev xH:=@List.length_singleton
abbrev sS:=@List.drop_zero
abbrev B_:=@List.eq_nil_of_length_eq_zero
abbrev ue:=@List.mem_append
abbrev vO:=@of_decide_eq_true
abbrev wc:=@Nat.le_succ_of_le
abbrev xL:=@List.mem_map_of_mem
abbrev uG:=@Bool.or_eq_true
abbrev wb:=@Nat.le_of_not_lt
abbrev Bn:=@List.drop_eq_nil_of_le
abbrev yw:=@List.mem_singleton
abbrev tW:=@List.map_nil
abbrev FF:=@Array.getElem?_eq_none
abbrev IX:=@List.take_succ_eq_append_getElem
abbrev Dn:=@List.take_of_length_le
abbrev CZ:=@List.takeWhile_cons
abbrev Dj:=@World.cell?_of_block
abbrev uR:=@Nat.le_succ
abbrev xI:=@Bool.true_and
abbrev Bk:=@List.all_eq_true
abbrev Fw:=@Array.replicate_succ
abbrev EO:=@Array.replicate_zero
abbrev KY:=@Array.getElem?_setIfInBounds
abbrev wB:=@Nat.zero_le
abbrev Fa:=@List.flatMap_append
abbrev FK:=@List.append_toArray
abbrev Gv:=@List.take_append_drop
abbrev yQ:=@List.mem_map
abbrev zH:=@Nat.zero_mul
abbrev Lj:=@List.mem_or_eq_of_mem_set
abbrev FL:=@World.ownsRow_nil
abbrev yr:=@Nat.mul_one
abbrev Fu:=@List.size_toArray
abbrev EY:=@List.push_toArray
abbrev IV:=@List.length_replicate
abbrev Bh:=@List.all_cons
abbrev Cx:=@List.mapM_cons
abbrev Fq:=@List.getElem_mem
abbrev Fi:=@List.length_take
abbrev CL:=@Nat.add_assoc
abbrev IL:=@List.map_congr_left
abbrev MG:=@List.drop_eq_getElem_cons
abbrev LH:=@List.getElem?_eq_none
abbrev CQ:=@Nat.le_of_lt
abbrev IU:=@Bool.not_eq_true'
abbrev JL:=@List.getElem?_map
abbrev Nc:=@Nat.add_sub_cancel_left
abbrev I':=@List.getElem?_set
abbrev He:=@List.all_append
abbrev Gh:=@List.length_set
abbrev L6:=@List.replicate_succ
abbrev xZ:=@List.map_map
abbrev yb:=@Addr.add_lit
abbrev xP:=@Nat.add_zero
instance cI:Coe Int Value:=⟨fun x=>.int .i64 x⟩
instance cS:Coe ByteArray Value:=⟨fun x=>.string x⟩
instance cA:Coe Nat Addr:=⟨fun b=>⟨b,0,none⟩⟩
theorem xT:(∀{α:Type} (x:α) (xs:List α),(x::xs).length=xs.length+1)/\(∀{α:Type},([]:List α).length=0)/\(∀n:Nat,0+n=n):=⟨fun _ _=>rfl,rfl,Nat.zero_add⟩
theorem la:(∀{α:Type} {a b:α} {l:List α},(a∈b::l)=(a=b\/a∈l))/\(∀{α:Type} {a:α},(a∈([]:List α))=False)/\(∀(p:Prop),(p\/False)=p):=⟨propext List.mem_cons,eq_false List.not_mem_nil,or_false⟩
section
section
variable {P:Program} (w:World)
theorem yP (base:Nat) (t ty e:TypeId) (i:TypeInfo) (size:Nat) (ht:P.underlying t=some (.slice e)) (hi:P.info? e=some i)
  (v:Value) (n:Nat) (xs:List Value) (hown:w.ownsRow base e size v n xs) (c:Nat):(Builtin.append_ #[t,t] ty #[v,.slice none 0 c]).run P w=.ok v w:=by
 rcases hown.2 with⟨rfl,rfl⟩ | ⟨g,cap,cur,rfl,_,_,hnc,_⟩
 ·simp[Builtin.append_,run_underlying ht,sizeOf,typeInfo,hi,Builtin.lenOf,Builtin.firstCells]
 simp[Builtin.append_,run_underlying ht,sizeOf,typeInfo,hi,Builtin.lenOf,Builtin.firstCells,hnc,storeCells]
theorem CP (base:Nat) (t ty e:TypeId) (i:TypeInfo) (z:Value) (size bytes:Nat) (ht:P.underlying t=some (.slice e)) (hi:P.info? e=some i) (hz:i.zero=some z)
  (hsize:i.size=size) (hby:i.bytes=bytes) (hzs:z.cells.size=size) (hsz:0<size)
  (v:Value) (n:Nat) (xs:List Value) (hown:w.ownsRow base e size v n xs)
  (B:Nat) (A:Option Addr) (m c:Nat) (news:List Value) (hr:oZ w B size A m news) (h1:∀u∈news,u.oneCell'=true)
  (h63:n+m<=maxLen) (hbytes:(n+m)*bytes<=140737488355328) (hbase:base<=w.heap.size) :
  ∃v' w',(Builtin.append_ #[t,t] ty #[v,.slice A m c]).run P w=.ok v' w'/\w'.ownsRow base e size v' (n+m) (xs++news)/\w.grownBy w' v.ownBlock /\
   (v'.ownBlock=v.ownBlock\/v'.ownBlock=some w.heap.size):=by
 rcases A with _ | U
 ·have hm:m=0:=by
   rcases Nat.eq_zero_or_pos m with I | I
   ·exact I
   obtain⟨U,h,_⟩:=hr.2 I;cases h
  subst hm;have R:=B_ (by simpa using hr.1);subst R;exact⟨v,w,yP w base t ty e i size ht hi v n xs hown c,by simpa using hown,World.grownBy.refl w _,.inl rfl⟩
 have o:∀j u,news[j]?=some u->w.cell? (U.add j)=some u:=by
  intro j u hu;rcases Nat.eq_zero_or_pos m with I | I
  ·subst I
   have R:=B_ (by simpa using hr.1);subst R;simp at hu
  obtain⟨a1,h,_,hc⟩:=hr.2 I;injection h with h
  subst h;exact hc j u hu
 obtain⟨v',w',J,h2,h3,_,h5⟩:=run_append_own_at (P:=P) w base t ty e i z size bytes ht hi hz hsize hby hzs hsz v n xs hown U m c news hr.1 o h1 h63 hbytes hbase;exact⟨v',w',J,h2,h3,h5⟩
theorem jZ {o:Oper} {a:Act} {K:Act->World->Prop} {Q:Exit->Act->World->Prop} (s x:Operand) (t:TypeId)
  (ho:o.op=.call { callee:=.builtin .append,args:=#[s,x],argTypes:=#[t,t] })
  (base:Nat) (e:TypeId) (i:TypeInfo) (z:Value) (size bytes:Nat) (ht:P.underlying t=some (.slice e)) (hi:P.info? e=some i) (hz:i.zero=some z)
  (hsize:i.size=size) (hby:i.bytes=bytes) (hzs:z.cells.size=size) (hsz:0<size)
  (v:Value) (n:Nat) (xs:List Value) (hs:a.eval s=v) (hown:w.ownsRow base e size v n xs)
  (B:Nat) (A:Option Addr) (m c:Nat) (news:List Value) (hx:a.eval x=.slice A m c) (hr:oZ w B size A m news) (h1:∀u∈news,u.oneCell'=true)
  (h63:n+m<=maxLen) (hbytes:(n+m)*bytes<=140737488355328) (hbase:base<=w.heap.size)
  (h:∀v' w',w'.ownsRow base e size v' (n+m) (xs++news)->w.grownBy w' v.ownBlock->(v'.ownBlock=v.ownBlock\/v'.ownBlock=some w.heap.size)->K (a.put o.dst v') w'):o.wp P a w K Q:=by
 obtain⟨v',w',j,R,J,I⟩:=CP (P:=P) w base t o.type e i z size bytes ht hi hz hsize hby hzs hsz v n xs hown B A m c news hr h1 h63 hbytes hbase;unfold Oper.wp execOp;simp only[ho,resolve,invoke,builtin,Sem.run_bind,Sem.run_pure,Result.andThen_ok,List.map_toArray,mJ,tW,hs,hx,j];exact h v' w' R J I
theorem ka {ops:Array Oper} {rest:List Oper} {o:Oper} {a:Act} {Q:Exit->Act->World->Prop} (hgd:o.guard=none) (s x:Operand) (t:TypeId)
  (ho:o.op=.call { callee:=.builtin .append,args:=#[s,x],argTypes:=#[t,t] })
  (base:Nat) (e:TypeId) (i:TypeInfo) (z:Value) (size bytes:Nat) (ht:P.underlying t=some (.slice e)) (hi:P.info? e=some i) (hz:i.zero=some z)
  (hsize:i.size=size) (hby:i.bytes=bytes) (hzs:z.cells.size=size) (hsz:0<size)
  (v:Value) (n:Nat) (xs:List Value) (hs:a.eval s=v) (hown:w.ownsRow base e size v n xs)
  (B:Nat) (A:Option Addr) (m c:Nat) (news:List Value) (hx:a.eval x=.slice A m c) (hr:oZ w B size A m news) (h1:∀u∈news,u.oneCell'=true)
  (h63:n+m<=maxLen) (hbytes:(n+m)*bytes<=140737488355328) (hbase:base<=w.heap.size)
  (h:∀v' w',w'.ownsRow base e size v' (n+m) (xs++news)->w.grownBy w' v.ownBlock->(v'.ownBlock=v.ownBlock\/v'.ownBlock=some w.heap.size)->wpList P ops Q rest (a.put o.dst v') w'):wpList P ops Q (o::rest) a w:=
 wpList_plain hgd fun _ hK=>jZ w s x t ho base e i z size bytes ht hi hz hsize hby hzs hsz v n xs hs hown B A m c news hx hr h1 h63 hbytes hbase fun v' w' h2 h3 h4=>hK _ _ (h v' w' h2 h3 h4)
end
end
section
open Go.RowKit Go.BigFrame
inductive Tx where
 |mk (k o t v:Int) (s:ByteArray) (A:Option Addr) (c:Nat) (xs:List Tx)
namespace Tx
def kind:Tx->Int | mk k _ _ _ _ _ _ _=>k
def op:Tx->Int | mk _ o _ _ _ _ _ _=>o
def ty:Tx->Int | mk _ _ t _ _ _ _ _=>t
def va:Tx->Int | mk _ _ _ v _ _ _ _=>v
def name:Tx->ByteArray | mk _ _ _ _ s _ _ _=>s
def ad:Tx->Option Addr | mk _ _ _ _ _ A _ _=>A
def cap:Tx->Nat | mk _ _ _ _ _ _ c _=>c
def args:Tx->List Tx | mk _ _ _ _ _ _ _ xs=>xs
def val (e:Tx):Value:=.agg #[.int .i64 e.kind,.int .i64 e.op,.int .i64 e.ty,.int .i64 e.va,.string e.name,.slice e.ad e.args.length e.cap]
def cells (e:Tx):Array Value:=#[.int .i64 e.kind,.int .i64 e.op,.int .i64 e.ty,.int .i64 e.va,.string e.name,.slice e.ad e.args.length e.cap]
mutual
def size:Tx->Nat
 |mk _ _ _ _ _ _ _ xs=>sizes xs+1
def sizes:List Tx->Nat
 |[]=>0
 |a::xs=>size a+sizes xs
end
mutual
def depth:Tx->Nat
 |mk _ _ _ _ _ _ _ xs=>depths xs+1
def depths:List Tx->Nat
 |[]=>0
 |a::xs=>max (depth a) (depths xs)
end
mutual
def list:Tx->List Tx
 |mk k o t v s A c xs=>mk k o t v s A c xs::lists xs
def lists:List Tx->List Tx
 |[]=>[]
 |a::xs=>list a++lists xs
end
theorem sizes_append (a b:List Tx):sizes (a++b)=sizes a+sizes b:=by
 induction a with
 |nil=>simp[sizes]
 |cons x a ih=>rw[lP,sizes,sizes,ih];omega
theorem lists_append (a b:List Tx):lists (a++b)=lists a++lists b:=by
 induction a with
 |nil=>simp[lists]
 |cons x a ih=>rw[lP,lists,lists,ih,kD]
theorem depths_append (a b:List Tx):depths (a++b)=max (depths a) (depths b):=by
 induction a with
 |nil=>simp[depths]
 |cons x a ih=>rw[lP,depths,depths,ih];omega
theorem sizes_one (a:Tx):sizes [a]=size a:=by simp[sizes]
theorem lists_one (a:Tx):lists [a]=list a:=by simp[lists]
theorem depths_one (a:Tx):depths [a]=depth a:=by simp[depths]
theorem take_succ {l:List Tx} {k:Nat} {e:Tx} (h:l[k]?=some e):l.take (k+1)=l.take k++[e]:=by
 obtain⟨j,rfl⟩:=rq.1 h;exact IX j
theorem sizes_take {l:List Tx} {k:Nat} {e:Tx} (h:l[k]?=some e):sizes (l.take (k+1))=sizes (l.take k)+size e:=by rw[take_succ h,sizes_append,sizes_one]
theorem depths_take {l:List Tx} {k:Nat} {e:Tx} (h:l[k]?=some e):depths (l.take (k+1))=max (depths (l.take k)) (depth e):=by rw[take_succ h,depths_append,depths_one]
theorem lists_take {l:List Tx} {k:Nat} {e:Tx} (h:l[k]?=some e):lists (l.take (k+1))=lists (l.take k)++list e:=by rw[take_succ h,lists_append,lists_one]
theorem sizes_mem {l:List Tx} {k:Nat} {e:Tx} (h:l[k]?=some e):size e<=sizes l:=by
 have o:=sizes_take h;have j:=sizes_append (l.take (k+1)) (l.drop (k+1));rw[Gv]at j;omega
theorem sizes_take_le (l:List Tx) (k:Nat):sizes (l.take k)<=sizes l:=by
 have j:=sizes_append (l.take k) (l.drop k);rw[Gv]at j;omega
mutual
theorem list_length:∀e:Tx,(list e).length=size e
 |mk k o t v s A c xs=>by rw[list,size,py,lists_length xs]
theorem lists_length:∀xs:List Tx,(lists xs).length=sizes xs
 |[]=>rfl
 |a::xs=>by rw[lists,sizes,mo,list_length a,lists_length xs]
end
mutual
theorem depth_le_size:∀e:Tx,depth e<=size e
 |mk k o t v s A c xs=>by rw[depth,size];have:=depths_le_sizes xs;omega
theorem depths_le_sizes:∀xs:List Tx,depths xs<=sizes xs
 |[]=>by simp[depths]
 |a::xs=>by rw[depths,sizes];have:=depth_le_size a;have:=depths_le_sizes xs;omega
end
end Tx
structure Kf (w:World) (b o:Nat) (e:Tx):Prop where
 c0:w.cell? ⟨b,o,none⟩=some (.int .i64 e.kind)
 c1:w.cell? ⟨b,o+1,none⟩=some (.int .i64 e.op)
 c2:w.cell? ⟨b,o+2,none⟩=some (.int .i64 e.ty)
 c3:w.cell? ⟨b,o+3,none⟩=some (.int .i64 e.va)
 c4:w.cell? ⟨b,o+4,none⟩=some (.string e.name)
 c5:w.cell? ⟨b,o+5,none⟩=some (.slice e.ad e.args.length e.cap)
mutual
def RX (w:World):Tx->Prop
 |.mk _ _ _ _ s A c xs=>s.size<=140737488355328/\xs.length<=c/\c<=9223372036854775807/\xs.length<=140737488355328/\(xs=[]\/∃b o,A=some ⟨b,o,none⟩/\b<w.heap.size/\xX w b o xs)
def xX (w:World) (b:Nat):Nat->List Tx->Prop
 |_,[]=>True
 |o,e::es=>Kf w b o e/\RX w e/\xX w b (o+6) es
end
theorem Kf.keep {w w':World} {b o:Nat} {e:Tx} (h:Kf w b o e) (hk:∀i,w'.cell? ⟨b,i,none⟩=w.cell? ⟨b,i,none⟩):Kf w' b o e:=
 ⟨(hk _).trans h.c0,(hk _).trans h.c1,(hk _).trans h.c2,(hk _).trans h.c3,(hk _).trans h.c4,(hk _).trans h.c5⟩
mutual
theorem RX.below {w w':World} (hb:Below w.heap.size w w'):∀{e:Tx},RX w e->RX w' e
 |.mk _ _ _ _ s A c xs,h=>by
  rw[RX]at h⊢;obtain⟨h1,h2,h3,h4,h5⟩:=h;refine⟨h1,h2,h3,h4,?_⟩;rcases h5 with h5 | ⟨b,o,h5,h6,h7⟩
  ·exact .inl h5
  exact .inr ⟨b,o,h5,rO h6 hb.size,xX.below hb h6 h7⟩
theorem xX.below {w w':World} (hb:Below w.heap.size w w') {b:Nat} (hlt:b<w.heap.size):∀{o:Nat} {es:List Tx},xX w b o es->xX w' b o es
 |_,[],_=>by rw[xX];trivial
 |o,e::es,h=>by
  rw[xX]at h⊢;exact⟨h.1.keep (fun i=>hb.cell (p:=⟨b,i,none⟩) hlt),RX.below hb h.2.1,xX.below hb hlt h.2.2⟩
end
theorem RX.here {w0:World} {e:Tx} (h:RX w0 e) (w:World) [k:ik w0 w]:RX w e:=h.below k.below
theorem RX.bounds {w:World} {e:Tx} (h:RX w e):e.name.size<=140737488355328/\e.args.length<=e.cap/\e.cap<=9223372036854775807/\e.args.length<=140737488355328:=by
 cases e;rw[RX]at h;exact⟨h.1,h.2.1,h.2.2.1,h.2.2.2.1⟩
theorem xX.get {w:World} {b:Nat}:∀{o:Nat} {es:List Tx} {i:Nat} {e:Tx},xX w b o es->es[i]?=some e->Kf w b (o+i*6) e/\RX w e
 |o,[],i,e,_,hi=>by simp at hi
 |o,a::es,0,e,h,hi=>by rw[xX]at h;simp at hi;subst hi;exact⟨by simpa using h.1,h.2.1⟩
 |o,a::es,i+1,e,h,hi=>by
  rw[xX]at h;have:=xX.get h.2.2 (i:=i) (e:=e) (by simpa using hi);rw[show o+(i+1)*6=o+6+i*6 by omega];exact this
theorem RX.arg {w:World} {e:Tx} (h:RX w e) {i:Nat} (hi:i<e.args.length) :
  ∃b o a,e.ad=some ⟨b,o,none⟩/\Le (b+1) w/\e.args[i]?=some a/\Kf w b (o+i*6) a/\RX w a:=by
 cases e with
 |mk k o t v s A c xs=>
 rw[RX]at h;rcases h.2.2.2.2 with I | ⟨b,o,I,h6,h7⟩
 ·simp[Tx.args,I]at hi
 have j:=qn hi;obtain⟨R,J⟩:=h7.get j;exact⟨b,o,xs[i],I,⟨h6⟩,j,R,J⟩
theorem xX.all {w:World} {b:Nat}:∀{o:Nat} {es:List Tx},xX w b o es->∀x∈es,RX w x
 |_,[],_,x,hx=>by simp at hx
 |o,e::es,h,x,hx=>by
  rw[xX]at h;rcases uW.1 hx with rfl | hx
  ·exact h.2.1
  exact xX.all h.2.2 x hx
theorem RX.all {w:World} {e:Tx} (h:RX w e):∀x∈e.args,RX w x:=by
 cases e with
 |mk k o t v s A c xs=>
 rw[RX]at h;rcases h.2.2.2.2 with j | ⟨b,o,j,h6,h7⟩
 ·simp[Tx.args,j]
 exact h7.all
theorem RX.part {w:World} {k o t v:Int} {s:ByteArray} {A:Option Addr} {c:Nat} {xs:List Tx} (h:RX w (.mk k o t v s A c xs)) {i:Nat} (hi:i<xs.length) :
  ∃b p k1 o1 t1 v1 s1 A1 c1 xs1,A=some ⟨b,p,none⟩/\Le (b+1) w/\Hid (xs[i]?=some (.mk k1 o1 t1 v1 s1 A1 c1 xs1))/\Hid (RX w (.mk k1 o1 t1 v1 s1 A1 c1 xs1)) /\
   w.cell? ⟨b,p+i*6,none⟩=some (.int .i64 k1)/\w.cell? ⟨b,p+i*6+1,none⟩=some (.int .i64 o1)/\w.cell? ⟨b,p+i*6+2,none⟩=some (.int .i64 t1)/\w.cell? ⟨b,p+i*6+3,none⟩=some (.int .i64 v1) /\
   w.cell? ⟨b,p+i*6+4,none⟩=some (.string s1)/\w.cell? ⟨b,p+i*6+5,none⟩=some (.slice A1 xs1.length c1):=by
 obtain⟨b,p,a,e,R,I,j,J⟩:=h.arg (i:=i) hi;cases a with
 |mk k1 o1 t1 v1 s1 A1 c1 xs1=>exact⟨b,p,k1,o1,t1,v1,s1,A1,c1,xs1,e,R,I,J,j.c0,j.c1,j.c2,j.c3,j.c4,j.c5⟩
end
section
open Go.RowKit Go.BigFrame
structure nB (α:Type) where
 A:Option Addr
 c:Nat
 l:List α
def nB.val {α:Type} (x:nB α):Value:=.slice x.A x.l.length x.c
structure sO where
 name:ByteArray
 t:Int
 tag:Int
structure iO where
 name:ByteArray
 ty:Int
 clock:nB sO
structure iW where
 name:ByteArray
 tags:nB ByteArray
structure oX where
 left:nB ByteArray
 right:Tx
structure ma where
 cond:Tx
 dst:Int
 res:Bool
mutual
inductive StT where
 |mk (name:ByteArray) (locals:nB iO) (eqs:nB oX) (A:Option Addr) (c:Nat) (autos:List AuT) (unl:nB ma) (unt:nB ma)
inductive AuT where
 |mk (A:Option Addr) (c:Nat) (states:List StT)
end
structure nh where
 name:ByteArray
 ins:nB iO
 outs:nB iO
 locals:nB iO
 eqs:nB oX
 autos:nB AuT
 assume:nB Tx
 ensure:nB Tx
structure Il where
 enums:nB iW
 nodes:nB nh
structure ir {α:Type} (sz:Nat) (P:World->Nat->Nat->α->Prop) (w:World) (x:nB α):Prop where
 cells:x.l=[]\/∃b p,x.A=some ⟨b,p,none⟩/\b<w.heap.size/\∀i y,x.l[i]?=some y->P w b (p+i*sz) y
 le:x.l.length<=x.c
 cap:x.c<=9223372036854775807
 len:x.l.length<=140737488355328
def tO {α:Type} (P:World->Nat->Nat->α->Prop):Prop:=∀(w w':World) (b o:Nat) (y:α),Below w.heap.size w w'->b<w.heap.size->P w b o y->P w' b o y
theorem ir.below {α:Type} {sz:Nat} {P:World->Nat->Nat->α->Prop} (hP:tO P) {w w':World} {x:nB α} (h:ir sz P w x) (hb:Below w.heap.size w w'):ir sz P w' x:=by
 refine⟨?_,h.le,h.cap,h.len⟩;rcases h.cells with e | ⟨b,p,e,hlt,hc⟩
 ·exact .inl e
 exact .inr ⟨b,p,e,rO hlt hb.size,fun i y j=>hP _ _ _ _ _ hb hlt (hc i y j)⟩
theorem ir.part {α:Type} {sz:Nat} {P:World->Nat->Nat->α->Prop} {w:World} {x:nB α} (h:ir sz P w x) {i:Nat} (hi:i<x.l.length) :
  ∃b p y,x.A=some ⟨b,p,none⟩/\Le (b+1) w/\Hid (x.l[i]?=some y)/\P w b (p+i*sz) y:=by
 rcases h.cells with e | ⟨b,p,e,hlt,hc⟩
 ·rw[e]at hi;simp at hi
 exact⟨b,p,x.l[i],e,⟨hlt⟩,qn hi,hc i _ (qn hi)⟩
theorem ir.elem {α:Type} {sz:Nat} {P:World->Nat->Nat->α->Prop} {w:World} {x:nB α} (h:ir sz P w x) {i:Nat} {y:α} (hy:x.l[i]?=some y):∃b o,P w b o y:=by
 rcases h.cells with e | ⟨b,p,e,hlt,hc⟩
 ·rw[e]at hy;simp at hy
 exact⟨b,_,hc i y hy⟩
theorem ir.nil {α:Type} {sz:Nat} {P:World->Nat->Nat->α->Prop} (w:World):ir sz P w ⟨none,0,[]⟩:=⟨.inl rfl,by simp,wB _,by simp⟩
def FY (e:Tx):Prop:=∀x∈e.list,x.ty<=9223372036854775807
def sR (w:World) (b o:Nat) (s:ByteArray):Prop:=w.cell? ⟨b,o,none⟩=some (.string s)/\s.size<=140737488355328
structure KJ (w:World) (b o:Nat) (x:sO):Prop where
 tb:x.t<=9223372036854775807
 c0:w.cell? ⟨b,o,none⟩=some (.string x.name)
 c1:w.cell? ⟨b,o+1,none⟩=some (.int .i64 x.t)
 c2:w.cell? ⟨b,o+2,none⟩=some (.int .i64 x.tag)
 nm:x.name.size<=140737488355328
structure jG (w:World) (b o:Nat) (x:iO):Prop where
 tb:x.ty<=9223372036854775807
 c0:w.cell? ⟨b,o,none⟩=some (.string x.name)
 c1:w.cell? ⟨b,o+1,none⟩=some (.int .i64 x.ty)
 c2:w.cell? ⟨b,o+2,none⟩=some (.slice x.clock.A x.clock.l.length x.clock.c)
 nm:x.name.size<=140737488355328
 cl:ir 3 KJ w x.clock
structure sM (w:World) (b o:Nat) (x:iW):Prop where
 c0:w.cell? ⟨b,o,none⟩=some (.string x.name)
 c1:w.cell? ⟨b,o+1,none⟩=some (.slice x.tags.A x.tags.l.length x.tags.c)
 nm:x.name.size<=140737488355328
 tg:ir 1 sR w x.tags
structure xv (S:Prop) (w:World) (b o:Nat) (x:oX):Prop where
 tb:FY x.right
 sz:S->x.right.size<=2000000
 c0:w.cell? ⟨b,o,none⟩=some (.slice x.left.A x.left.l.length x.left.c)
 six:Kf w b (o+1) x.right
 lf:ir 1 sR w x.left
 ri:RX w x.right
structure Eo (S:Prop) (w:World) (b o:Nat) (x:ma):Prop where
 tb:FY x.cond
 sz:S->x.cond.size<=2000000
 six:Kf w b o x.cond
 c6:w.cell? ⟨b,o+6,none⟩=some (.int .i64 x.dst)
 c7:w.cell? ⟨b,o+7,none⟩=some (.bool x.res)
 co:RX w x.cond
structure Bu (S:Prop) (w:World) (b o:Nat) (x:Tx):Prop where
 tb:FY x
 sz:S->x.size<=2000000
 six:Kf w b o x
 rx:RX w x
namespace AuT
def ad:AuT->Option Addr | mk A _ _=>A
def cap:AuT->Nat | mk _ c _=>c
def states:AuT->List StT | mk _ _ l=>l
end AuT
namespace StT
def name:StT->ByteArray | mk n _ _ _ _ _ _ _=>n
def locals:StT->nB iO | mk _ l _ _ _ _ _ _=>l
def eqs:StT->nB oX | mk _ _ e _ _ _ _ _=>e
def ad:StT->Option Addr | mk _ _ _ A _ _ _ _=>A
def cap:StT->Nat | mk _ _ _ _ c _ _ _=>c
def autos:StT->List AuT | mk _ _ _ _ _ a _ _=>a
def unl:StT->nB ma | mk _ _ _ _ _ _ u _=>u
def unt:StT->nB ma | mk _ _ _ _ _ _ _ u=>u
end StT
structure Bp (w:World) (b o:Nat) (x:StT):Prop where
 c0:w.cell? ⟨b,o,none⟩=some (.string x.name)
 c1:w.cell? ⟨b,o+1,none⟩=some (.slice x.locals.A x.locals.l.length x.locals.c)
 c2:w.cell? ⟨b,o+2,none⟩=some (.slice x.eqs.A x.eqs.l.length x.eqs.c)
 c3:w.cell? ⟨b,o+3,none⟩=some (.slice x.ad x.autos.length x.cap)
 c4:w.cell? ⟨b,o+4,none⟩=some (.slice x.unl.A x.unl.l.length x.unl.c)
 c5:w.cell? ⟨b,o+5,none⟩=some (.slice x.unt.A x.unt.l.length x.unt.c)
mutual
def tY (S:Prop) (w:World):StT->Prop
 |.mk n l e A c a u v=>n.size<=140737488355328/\ir 3 jG w l/\ir 7 (xv S) w e/\ir 8 (Eo S) w u/\ir 8 (Eo S) w v/\a.length<=c/\c<=9223372036854775807/\a.length<=140737488355328/\(a=[]\/∃b p,A=some ⟨b,p,none⟩/\b<w.heap.size/\sa S w b p a)
def sd (S:Prop) (w:World) (b:Nat):Nat->List StT->Prop
 |_,[]=>True
 |o,x::l=>Bp w b o x/\tY S w x/\sd S w b (o+6) l
def zS (S:Prop) (w:World):AuT->Prop
 |.mk A c l=>l.length<=c/\c<=9223372036854775807/\l.length<=140737488355328/\(l=[]\/∃b p,A=some ⟨b,p,none⟩/\b<w.heap.size/\sd S w b p l)
def sa (S:Prop) (w:World) (b:Nat):Nat->List AuT->Prop
 |_,[]=>True
 |o,x::l=>w.cell? ⟨b,o,none⟩=some (.slice x.ad x.states.length x.cap)/\zS S w x/\sa S w b (o+1) l
end
def xM (S:Prop) (w:World) (b o:Nat) (x:AuT):Prop:=w.cell? ⟨b,o,none⟩=some (.slice x.ad x.states.length x.cap)/\zS S w x
def OZ (S:Prop) (w:World) (b o:Nat) (x:StT):Prop:=Bp w b o x/\tY S w x
structure Gy (S:Prop) (w:World) (b o:Nat) (x:nh):Prop where
 c0:w.cell? ⟨b,o,none⟩=some (.string x.name)
 c1:w.cell? ⟨b,o+1,none⟩=some (.slice x.ins.A x.ins.l.length x.ins.c)
 c2:w.cell? ⟨b,o+2,none⟩=some (.slice x.outs.A x.outs.l.length x.outs.c)
 c3:w.cell? ⟨b,o+3,none⟩=some (.slice x.locals.A x.locals.l.length x.locals.c)
 c4:w.cell? ⟨b,o+4,none⟩=some (.slice x.eqs.A x.eqs.l.length x.eqs.c)
 c5:w.cell? ⟨b,o+5,none⟩=some (.slice x.autos.A x.autos.l.length x.autos.c)
 c6:w.cell? ⟨b,o+6,none⟩=some (.slice x.assume.A x.assume.l.length x.assume.c)
 c7:w.cell? ⟨b,o+7,none⟩=some (.slice x.ensure.A x.ensure.l.length x.ensure.c)
 nm:x.name.size<=140737488355328
 r1:ir 3 jG w x.ins
 r2:ir 3 jG w x.outs
 r3:ir 3 jG w x.locals
 r4:ir 7 (xv S) w x.eqs
 r5:ir 1 (xM S) w x.autos
 r6:ir 6 (Bu S) w x.assume
 r7:ir 6 (Bu S) w x.ensure
structure FJ (S:Prop) (w:World) (x:Il):Prop where
 enums:ir 2 sM w x.enums
 nodes:ir 8 (Gy S) w x.nodes
variable {S:Prop}
section
variable {w w':World}
theorem mH {b j:Nat} (hb:Below w.heap.size w w') (hlt:b<w.heap.size):w'.cell? ⟨b,j,none⟩=w.cell? ⟨b,j,none⟩:=hb.cell (p:=⟨b,j,none⟩) hlt
theorem lD:tO sR:=fun w w' b o y hb hlt h=>⟨(mH hb hlt).trans h.1,h.2⟩
theorem qF:tO KJ:=fun w w' b o y hb hlt h=>⟨h.tb,(mH hb hlt).trans h.c0,(mH hb hlt).trans h.c1,(mH hb hlt).trans h.c2,h.nm⟩
theorem iM:tO jG:=fun w w' b o y hb hlt h=>⟨h.tb,(mH hb hlt).trans h.c0,(mH hb hlt).trans h.c1,(mH hb hlt).trans h.c2,h.nm,h.cl.below qF hb⟩
theorem lU:tO sM:=fun w w' b o y hb hlt h=>⟨(mH hb hlt).trans h.c0,(mH hb hlt).trans h.c1,h.nm,h.tg.below lD hb⟩
theorem mX:tO (xv S):=fun w w' b o y hb hlt h=>⟨h.tb,h.sz,(mH hb hlt).trans h.c0,h.six.keep fun i=>mH hb hlt,h.lf.below lD hb,h.ri.below hb⟩
theorem As:tO (Eo S):=fun w w' b o y hb hlt h=>⟨h.tb,h.sz,h.six.keep fun i=>mH hb hlt,(mH hb hlt).trans h.c6,(mH hb hlt).trans h.c7,h.co.below hb⟩
theorem nH:tO (Bu S):=fun w w' b o y hb hlt h=>⟨h.tb,h.sz,h.six.keep fun i=>mH hb hlt,h.rx.below hb⟩
theorem Bp.keep {b o:Nat} {x:StT} (hb:Below w.heap.size w w') (hlt:b<w.heap.size) (h:Bp w b o x):Bp w' b o x:=
 ⟨(mH hb hlt).trans h.c0,(mH hb hlt).trans h.c1,(mH hb hlt).trans h.c2,(mH hb hlt).trans h.c3,(mH hb hlt).trans h.c4,(mH hb hlt).trans h.c5⟩
mutual
theorem tY.below (hb:Below w.heap.size w w'):∀(x:StT),tY S w x->tY S w' x
 |.mk n l e A c a u v,h=>by
  rw[tY]at h⊢;obtain⟨h1,h2,h3,h4,h5,h6,h7,h8,h9⟩:=h;refine⟨h1,h2.below iM hb,h3.below mX hb,h4.below As hb,h5.below As hb,h6,h7,h8,?_⟩;rcases h9 with h9 | ⟨b,p,e1,hlt,h9⟩
  ·exact .inl h9
  exact .inr ⟨b,p,e1,rO hlt hb.size,sa.below hb hlt p a h9⟩
theorem sd.below (hb:Below w.heap.size w w') {b:Nat} (hlt:b<w.heap.size):∀(o:Nat) (l:List StT),sd S w b o l->sd S w' b o l
 |_,[],_=>by rw[sd];trivial
 |o,x::l,h=>by
  rw[sd]at h⊢;exact⟨h.1.keep hb hlt,tY.below hb x h.2.1,sd.below hb hlt (o+6) l h.2.2⟩
theorem zS.below (hb:Below w.heap.size w w'):∀(x:AuT),zS S w x->zS S w' x
 |.mk A c l,h=>by
  rw[zS]at h⊢;obtain⟨h1,h2,h3,h4⟩:=h;refine⟨h1,h2,h3,?_⟩;rcases h4 with h4 | ⟨b,p,e1,hlt,h4⟩
  ·exact .inl h4
  exact .inr ⟨b,p,e1,rO hlt hb.size,sd.below hb hlt p l h4⟩
theorem sa.below (hb:Below w.heap.size w w') {b:Nat} (hlt:b<w.heap.size):∀(o:Nat) (l:List AuT),sa S w b o l->sa S w' b o l
 |_,[],_=>by rw[sa];trivial
 |o,x::l,h=>by
  rw[sa]at h⊢;exact⟨(mH hb hlt).trans h.1,zS.below hb x h.2.1,sa.below hb hlt (o+1) l h.2.2⟩
end
theorem qO:tO (xM S):=fun w w' b o y hb hlt h=>⟨(mH hb hlt).trans h.1,zS.below hb y h.2⟩
theorem Lw:tO (OZ S):=fun w w' b o y hb hlt h=>⟨h.1.keep hb hlt,tY.below hb y h.2⟩
theorem Ax:tO (Gy S):=fun w w' b o y hb hlt h=>
 ⟨(mH hb hlt).trans h.c0,(mH hb hlt).trans h.c1,(mH hb hlt).trans h.c2,(mH hb hlt).trans h.c3,(mH hb hlt).trans h.c4,(mH hb hlt).trans h.c5,(mH hb hlt).trans h.c6,(mH hb hlt).trans h.c7,h.nm,
  h.r1.below iM hb,h.r2.below iM hb,h.r3.below iM hb,h.r4.below mX hb,h.r5.below qO hb,h.r6.below nH hb,h.r7.below nH hb⟩
theorem FJ.below {x:Il} (h:FJ S w x) (hb:Below w.heap.size w w'):FJ S w' x:=⟨h.enums.below lU hb,h.nodes.below Ax hb⟩
end
theorem FJ.here {w0:World} {x:Il} (h:FJ S w0 x) (w:World) [k:ik w0 w]:FJ S w x:=h.below k.below
theorem ir.enums {w0:World} {x:nB iW} (h:ir 2 sM w0 x) (w:World) [k:ik w0 w]:ir 2 sM w x:=h.below lU k.below
theorem ir.decls {w0:World} {x:nB iO} (h:ir 3 jG w0 x) (w:World) [k:ik w0 w]:ir 3 jG w x:=h.below iM k.below
theorem ir.Sq {w0:World} {x:nB sO} (h:ir 3 KJ w0 x) (w:World) [k:ik w0 w]:ir 3 KJ w x:=h.below qF k.below
theorem ir.eqs {w0:World} {x:nB oX} (h:ir 7 (xv S) w0 x) (w:World) [k:ik w0 w]:ir 7 (xv S) w x:=h.below mX k.below
theorem ir.trs {w0:World} {x:nB ma} (h:ir 8 (Eo S) w0 x) (w:World) [k:ik w0 w]:ir 8 (Eo S) w x:=h.below As k.below
theorem ir.txs {w0:World} {x:nB Tx} (h:ir 6 (Bu S) w0 x) (w:World) [k:ik w0 w]:ir 6 (Bu S) w x:=h.below nH k.below
theorem ir.strs {w0:World} {x:nB ByteArray} (h:ir 1 sR w0 x) (w:World) [k:ik w0 w]:ir 1 sR w x:=h.below lD k.below
theorem ir.Ru {w0:World} {x:nB AuT} (h:ir 1 (xM S) w0 x) (w:World) [k:ik w0 w]:ir 1 (xM S) w x:=h.below qO k.below
theorem ir.sts {w0:World} {x:nB StT} (h:ir 6 (OZ S) w0 x) (w:World) [k:ik w0 w]:ir 6 (OZ S) w x:=h.below Lw k.below
theorem ir.Sr {w0:World} {x:nB nh} (h:ir 8 (Gy S) w0 x) (w:World) [k:ik w0 w]:ir 8 (Gy S) w x:=h.below Ax k.below
theorem sa.get {w:World} {b:Nat}:∀{o:Nat} {l:List AuT},sa S w b o l->∀i y,l[i]?=some y->xM S w b (o+i*1) y
 |_,[],_,i,y,h=>by simp at h
 |o,x::l,h,0,y,hy=>by
  rw[sa]at h;simp at hy;subst hy;exact⟨by simpa using h.1,h.2.1⟩
 |o,x::l,h,i+1,y,hy=>by
  rw[sa]at h;have:=sa.get h.2.2 i y (by simpa using hy);rw[show o+(i+1)*1=o+1+i*1 by omega];exact this
theorem sd.get {w:World} {b:Nat}:∀{o:Nat} {l:List StT},sd S w b o l->∀i y,l[i]?=some y->OZ S w b (o+i*6) y
 |_,[],_,i,y,h=>by simp at h
 |o,x::l,h,0,y,hy=>by
  rw[sd]at h;simp at hy;subst hy;exact⟨by simpa using h.1,h.2.1⟩
 |o,x::l,h,i+1,y,hy=>by
  rw[sd]at h;have:=sd.get h.2.2 i y (by simpa using hy);rw[show o+(i+1)*6=o+6+i*6 by omega];exact this
theorem zS.rows {w:World} {A c l} (h:zS S w (.mk A c l)):ir 6 (OZ S) w ⟨A,c,l⟩:=by
 rw[zS]at h;obtain⟨J,I,o,j⟩:=h;refine⟨?_,J,I,o⟩;rcases j with j | ⟨b,p,e,hlt,j⟩
 ·exact .inl j
 exact .inr ⟨b,p,e,hlt,j.get⟩
theorem tY.parts {w:World} {n l e A c a u v} (h:tY S w (.mk n l e A c a u v)):n.size<=140737488355328/\ir 3 jG w l/\ir 7 (xv S) w e/\ir 8 (Eo S) w u/\ir 8 (Eo S) w v/\ir 1 (xM S) w ⟨A,c,a⟩:=by
 rw[tY]at h;obtain⟨h1,h2,h3,U,R,J,I,o,j⟩:=h;refine⟨h1,h2,h3,U,R,⟨?_,J,I,o⟩⟩;rcases j with j | ⟨b,p,e,hlt,j⟩
 ·exact .inl j
 exact .inr ⟨b,p,e,hlt,j.get⟩
end
section
open Go.Proofs.Tryz
open Go.RowKit Go.BigFrame
theorem ij {w0 w1 w2:World} (a:ik w0 w1) (b:ik w1 w2):ik w0 w2:=⟨a.below.trans (b.below.mono a.below.size)⟩
theorem iP.Tp (w:World) (o:Obj) (t:TypeId) (cs:Array Value):iP ((w.alloc o).alloc (.cells cs t)) (w.heap.size+1) t cs:=by
 have:=iP.new (w.alloc o) t cs;rwa [iH]at this
theorem OX (N:Nat) (hN:N<=2000000):∀(k o t v:Int) (s:ByteArray) (A:Option Addr) (c:Nat) (xs:List Tx) (w0:World),(Tx.mk k o t v s A c xs).size<=N->RX w0 (.mk k o t v s A c xs)->∀w:World,ik w0 w ->
  Calls prog 159 #[.agg #[k,o,t,v,s,.slice A xs.length c]] w fun e w'=>e=.returned (.int .i64 ((Tx.mk k o t v s A c xs).depth:Nat))/\ik w w':=by
 induction N with
 |zero=>
  intro k o t v s A c xs w0 hs;simp[Tx.size]at hs
 |succ N ih=>
 intro k o t v s A c xs w0 hs x w aF;replace x:=iB x;replace ih:=iy (ih iu);rw[Tx.size]at hs;rw[Tx.depth];have a':=x.bounds;simp only[Tx.args,Tx.cap,Tx.name]at a';obtain⟨aO,aN,aM,aL⟩:=a';obtain⟨W0,ah,HK,a_,aw0⟩:∃W0,(w.alloc (.cells #[k,o,t,v,s,.slice A xs.length c] 73))=W0/\Hid (∀U:World,ik W0 U->U.cell? ⟨w.heap.size,0,none⟩=some (.int .i64 k)/\U.cell? ⟨w.heap.size,1,none⟩=some (.int .i64 o)/\U.cell? ⟨w.heap.size,2,none⟩=some (.int .i64 t)/\U.cell? ⟨w.heap.size,3,none⟩=some (.int .i64 v)/\U.cell? ⟨w.heap.size,4,none⟩=some (.string s)/\U.cell? ⟨w.heap.size,5,none⟩=some (.slice A xs.length c))/\w.heap.size<W0.heap.size/\ik w W0:=by
  refine⟨_,rfl,fun U k_=>?_,by simp,iR⟩;have f_:=(iP.new w 73 #[k,o,t,v,s,.slice A xs.length c]).after (w':=U);exact⟨by rw[f_.cell];rfl,by rw[f_.cell];rfl,by rw[f_.cell];rfl,by rw[f_.cell];rfl,by rw[f_.cell];rfl,by rw[f_.cell];rfl⟩
 have aG:ik W0 W0:=iR;have ab:Le (w.heap.size+1) W0:=⟨a_⟩;obtain⟨aE,aB,ay,av,ao,ak⟩:=HK W0 iR;go_in;go_wp2_with fail;try rw[ah]
 go_loopw [3,9] (fun n i wr=>∃j:Nat,j<=xs.length/\i=.int .i64 (j:Nat)/\n=.int .i64 ((Tx.depths (xs.take j):Nat):Int)/\ik W0 wr) (fun _ i _=>xs.length-(intOf i).toNat)
 case atStart=>exact⟨0,by omega,rfl,by simp[Tx.depths],inferInstance⟩
 case round=>
 obtain⟨j,hj,rfl,rfl,ar⟩:=hrel;have I:ik W0 wr:=ar;have aa:Le (w.heap.size+1) wr:=⟨jW a_ I.below.size⟩;obtain⟨aC,az,aw,aq,al,ai⟩:=HK wr I;have aH:=ij aF (ij aw0 I);have aP:=Tx.sizes_take_le xs j;have ag:=Tx.depths_le_sizes (xs.take j);by_cases ae:j<xs.length
 ·have aJ:(j:Int)<(xs.length:Int):=by omega
  obtain⟨b,p,k1,o1,t1,v1,s1,A1,c1,J,rfl,aR,a1,aI,e0,e1,e2,e3,e4,e5⟩:=(x.here wr).part (i:=j) ae;have a6:=iB (Tx.depths_take a1);have aQ:=Tx.sizes_mem a1;have aK:Tx.sizes (xs.take j)+(Tx.mk k1 o1 t1 v1 s1 A1 c1 J).size<=N:=by have:=Tx.sizes_take_le xs (j+1);have h_:=Tx.sizes_take a1;omega
  have af:=Tx.depth_le_size (Tx.mk k1 o1 t1 v1 s1 A1 c1 J);have HC:Hid (∀U,ik wr U->Calls prog 159 #[.agg #[k1,o1,t1,v1,s1,.slice A1 J.length c1]] U fun e w'=>e=.returned (.int .i64 ((Tx.mk k1 o1 t1 v1 s1 A1 c1 J).depth:Nat))/\ik U w'):=fun U hU=>ih _ _ _ _ _ _ _ _ wr (by omega) aI U hU
  obtain⟨z1,ad⟩:∃z,(Tx.mk k1 o1 t1 v1 s1 A1 c1 J).depth=z:=⟨_,rfl⟩;obtain⟨z0,a8⟩:∃z,Tx.depths (xs.take j)=z:=⟨_,rfl⟩;rw[ad]at HC af a6;rw[a8]at ag a6;rw[a8];go_wp2_with fail;refine (HC _ inferInstance).mono ?_;rintro e w2 ⟨rfl,k2⟩;have a7:ik wr w2:=ij inferInstance k2;have R:=ij ar a7;obtain⟨aD,aA,ax,au,an,aj⟩:=HK w2 R;go_wp2;go_roundw
  case rel=>exact⟨j+1,iu,by go_num,by rw[a6.out];go_num,ij ar a7⟩
  case measure=>simp[intOf];omega
 obtain rfl:j=xs.length:=iu;rw[pf]at *
 go_wp2;go_ret;exact⟨rfl,ij aw0 ar⟩
theorem Ep {k o t v:Int} {s:ByteArray} {A:Option Addr} {c:Nat} {xs:List Tx} {w0:World} (hs:(Tx.mk k o t v s A c xs).size<=2000000) (x:RX w0 (.mk k o t v s A c xs)) (w:World) (aft:ik w0 w) :
  Calls prog 159 #[.agg #[k,o,t,v,s,.slice A xs.length c]] w fun e w'=>e=.returned (.int .i64 ((Tx.mk k o t v s A c xs).depth:Nat))/\ik w w':=OX 2000000 (js _) _ _ _ _ _ _ _ _ _ hs x w aft
end
abbrev jo:=@iP.is_le
abbrev uJ:=@iP.cell
abbrev nL:=@iP.frozen
abbrev jC:=@iP.new
abbrev Hg:=@iP.jx
abbrev tV:=@iP.qU
abbrev mZ:=@iP.after
abbrev oY:=@iP.grown
abbrev Bc:=@iP.c2
abbrev rT:=@iP.c3
abbrev oN:=@iP.c6
abbrev wv:=@iP.c7
abbrev sX:=@iP.c8
abbrev tK:=@iP.f3
abbrev jU:=@iP.f6
abbrev yG:=@iP.f7
abbrev tC:=@iP.f8
abbrev H_:=@iP.Tp
end Go.Proofs.YtnigblndonocfaaGreatDoor
