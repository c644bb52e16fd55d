/- A part of the proof. -/
import Derived.Test.YtnigblndonocfaaGreatDoorP7
import Derived.Lib.Builder
import Derived.Lib.Walk
import Derived.Lib.UnsafeStr
import Derived.Lib.AppendStr
import Derived.Laws.Externs
import Derived.Shelf.Strings.BuilderX
import Derived.StillTail
import Derived.Deep.Quiet
set_option linter.unusedVariables false
set_option linter.unusedSimpArgs false
namespace Go.Proofs.YtnigblndonocfaaGreatDoor
set_option maxRecDepth 100000
set_option maxHeartbeats 6400000
open Go.RowKit Go.BigFrame Go.Proofs.Tryz
section
open Go.Shelf
attribute [local go_sem] Oper.semAt_some
def Mb (w:yM) (e:Tx):Prop:=RX w e/\FY e
theorem Mb.bounds {w:yM} {e:Tx} (h:Mb w e):e.name.size<=140737488355328/\e.args<=e.cap/\e.cap<=9223372036854775807/\e.args.length<=140737488355328:=h.1.bounds
theorem Mb.here {w0:yM} {e:Tx} (h:Mb w0 e) (w:yM) [k:ik w0 w]:RX w e:=h.1.here w
theorem FY.args {e:Tx} (h:FY e):∀y∈e.args,FY y:=by
 cases e with
 |mk k o t v s A c xs=>
 intro y j x I;refine h x ?_;rw[Tx.list,uW];refine .inr ?_;simp only[Tx.args]at j;clear h;induction xs with
 |nil=>cases j
 |cons a l ih=>
 rw[Tx.lists,ue];rcases uW.1 j with rfl | hm
 ·exact .inl I
 exact .inr (ih hm)
theorem FY.ty {e:Tx} (h:FY e):e.ty<=9223372036854775807:=h e (by cases e;rw[Tx.list];simp)
theorem Mb.all {w:yM} {e:Tx} (h:Mb w e):∀x∈e.args,Mb w x:=fun x hx=>⟨h.1.all x hx,h.2.args x hx⟩
instance:TP Mb:=⟨fun h=>h.1,fun h=>h.all⟩
abbrev Gc (w0:yM):Type:=HP Mb w0
attribute [local go_sem] Oper.semAt_some
def BN {w0:yM} (l:List (Gc w0)):List Tx:=l.map (·.1)
theorem Lu {w0:yM} (l:List (Gc w0)) (x:Gc w0):BN (l++[x])=BN l++[x.1]:=by simp[BN]
theorem Ms {x:nB iW} {k o t v:Int} {s:ByteArray} {A:Option Addr} {c:Nat} {xs:List Tx} {w0:World} (h:ir 2 sM w0 x) (hs:(Tx.mk k o t v s A c xs).size<=2000000) (h0:vj (.mk k o t v s A c xs)=0) (hX:RX w0 (.mk k o t v s A c xs)) (hB:FY (.mk k o t v s A c xs)) (w:World) (aft:ik w0 w) :
  CallsIn Fence.wide 3 prog 79 #[.slice x.A x.l.length x.c,.agg #[k,o,t,v,s,.slice A xs.length c]] w fun e w'=>e=.returned (.int .i64 (lv x.l (Tx.mk k o t v s A c xs).list))/\ik w w':=by
 have HZ:Hid (∀U,ik w0 U->CallsIn Fence.wide 2 prog 123 #[.agg #[k,o,t,v,s,.slice A xs.length c]] U fun e w'=>e=.returned (.int .i64 0)/\ik U w'):=iB fun U hU=>by
  have:=KS hs hX U hU;rw[h0]at this;exact callsIn_wide.2 this
 refine callsIn_of_wp_marks func79 rfl trivial ?_ rfl;simp only[ntmps79,Fu,py,wJ,Nat.reduceAdd,Nat.reduceSub,Fw,EO,EY,FK,sb,lP]
 gi_wp2_with fail
 refine⟨trivial,(HZ _ (by infer_instance)).mono ?_⟩;rintro _ w1 ⟨rfl,ha⟩;obtain⟨y1,rfl⟩:=@jP _ _ ha
 gi_wp2_with fail
 obtain⟨V,hV,bV,nV,aV,sV⟩:∃V,(((w.alloc (.cells #[.slice x.A x.l.length x.c] 22)).alloc (.cells #[k,o,t,v,s,.slice A xs.length c] 73)).alloc (.cells #[.int .i64 0] 26)).more y1=V/\iP V (w.heap.size+1+1) 26 #[.int .i64 0]/\iP V w.heap.size 22 #[.slice x.A x.l.length x.c]/\ik w V/\w.heap.size+3<=V.heap.size:=by
  refine⟨_,rfl,?_,?_,inferInstance,?_⟩
  ·have:=jC ((w.alloc (.cells #[.slice x.A x.l.length x.c] 22)).alloc (.cells #[k,o,t,v,s,.slice A xs.length c] 73)) 26 #[.int .i64 0]
   simp only[World.size_alloc]at this;exact this.more _
  ·exact (((jC w 22 #[.slice x.A x.l.length x.c]).alloc _).alloc _).more _
  have h2:=ik.size (((w.alloc (.cells #[.slice x.A x.l.length x.c] 22)).alloc (.cells #[k,o,t,v,s,.slice A xs.length c] 73)).alloc (.cells #[.int .i64 0] 26)) ((((w.alloc (.cells #[.slice x.A x.l.length x.c] 22)).alloc (.cells #[k,o,t,v,s,.slice A xs.length c] 73)).alloc (.cells #[.int .i64 0] 26)).more y1);simpa using h2
 rw[hV];refine⟨trivial,(yT Fence.wide 2 trivial rfl k o t v s A c xs _).mono ?_⟩;rintro e w' ⟨rfl,rfl⟩
 gi_wp2_with fail
 obtain⟨g,I⟩:∃g,V.heap.size=g:=⟨_,rfl⟩;obtain⟨U,hU,ah,nU,bU,bE,kU⟩:∃U,V.alloc (.cells #[k,o,t,v,s,.slice A xs.length c] 73)=U/\U.heap.size=g+1/\iP U w.heap.size 22 #[.slice x.A x.l.length x.c]/\iP U (w.heap.size+1+1) 26 #[.int .i64 0]/\iP U g 73 #[k,o,t,v,s,.slice A xs.length c]/\ik w U:=
  ⟨_,rfl,by simp[I],nV.alloc _,bV.alloc _,by rw[<- I];exact jC V _ _,inferInstance⟩
 have a8:=yz (P:=Mb) Fence.wide rfl 2 trivial trivial rfl g g w0 k o t v s A c xs ⟨hX,hB⟩ U (ij aft kU) (by omega) bE;have aj:=aft.below.size;rw[hU,I];rw[I]at sV;refine wpIn_rangeFunc_ownH rfl (by decide) (gf:=161) (lb:=#[.pointer (some g)]) rfl trivial (enters_of func161 (by kernel_rfl) rfl) a8 ti.trans (ti.PY (by omega)) (Below.refl _ _) (fun _=>rfl)
  (fun j W=>iP W (w.heap.size+1+1) 26 #[.int .i64 0]/\Hid (lv x.l (BN j)=0)/\Below w.heap.size w W/\U.heap.size<=W.heap.size/\iP W w.heap.size 22 #[.slice x.A x.l.length x.c])
  (fun c j W=>c=.ret/\iP W (w.heap.size+1+1) 26 #[.int .i64 (lv x.l (BN j))]/\Hid (lv x.l (BN j)≠0)/\Below w.heap.size w W)
  (fun s A B aa hs I hr=>⟨hs.1.grown I (fun e=>by have:=(hr _ e.symm).1;omega),hs.2.1,hs.2.2.1.grown I hs.2.2.1.size (fun k e=>by have:=(hr _ e).1;omega),jW hs.2.2.2.1 I.size,hs.2.2.2.2.grown I (fun e=>by have:=(hr _ e.symm).1;omega)⟩)
  (fun c s A B aa hs I hr=>⟨hs.1,hs.2.1.grown I (fun e=>by have:=(hr _ e.symm).1;omega),hs.2.2.1,hs.2.2.2.grown I hs.2.2.2.size (fun k e=>by have:=(hr _ e).1;omega)⟩) ⟨bU,rfl,kU.below,js _,nU⟩
  (fun y a' W=>J_ U.heap.size (fun p=>{ tmps:=#[.slice x.A x.l.length x.c,.agg #[k,o,t,v,s,.slice A xs.length c],.pointer (some ⟨w.heap.size,0,none⟩),.pointer (some ⟨w.heap.size+1,0,none⟩),.pointer (some ⟨w.heap.size+1+1,0,none⟩),.int .i64 0,p,undef,.agg #[k,o,t,v,s,.slice A xs.length c],.int .i64 0,.int .i64 0,.bool false,undef,.agg #[k,o,t,v,s,.slice A xs.length c],.func (.func 161) #[] #[.pointer (some g)],y.1.val,undef,undef,undef,undef,undef,undef],defers:=[] }) y.1 a' W)
  (fun x a'=>At) ?assign ?body ?done ?stop
 case assign=>
  rintro l j ⟨⟨k1,o1,t1,v1,s1,A1,c1,ai⟩,hx⟩ W K ⟨i1,i2,R,i4,i5⟩ hK;simp only[Tx.val,txs]
  gi_wp2
  exact hK _ _ ((KeepsOthers.alloc _ _).from _) (ti.after (by omega) inferInstance) ⟨i1.alloc _,i2,R.alloc R.size _,by simp;omega,i5.alloc _⟩ ⟨W.heap.size,i4,jC _ _ _,rfl⟩
 case body=>
  rintro l j ⟨e,hx⟩ a' W hl _ ⟨i1,i2,R,i4,i5⟩ ⟨Bx,al,bX,rfl⟩ ak;have c0:W.cell? Bx=some (.int .i64 e.kind):=by rw[bX.cell];rfl
  have c1:W.cell? ⟨Bx,1,none⟩=some (.int .i64 e.op):=by rw[bX.cell];rfl
  have c2:W.cell? ⟨Bx,2,none⟩=some (.int .i64 e.ty):=by rw[bX.cell];rfl
  have c3:W.cell? ⟨Bx,3,none⟩=some (.int .i64 e.va):=by rw[bX.cell];rfl
  have c4:W.cell? ⟨Bx,4,none⟩=some (.string e.name):=by rw[bX.cell];rfl
  have c5:W.cell? ⟨Bx,5,none⟩=some (.slice e.ad e.args.length e.cap):=by rw[bX.cell];rfl
  have lX:=bX.is_le;have n0:W.cell? ⟨w.heap.size,0,none⟩=some (.slice x.A x.l.length x.c):=by rw[i5.cell];rfl
  have ln:=i5.is_le;obtain⟨r,hr⟩:∃r,Bl x.l e=r:=⟨_,rfl⟩;have HC:Hid (∀m,CallsIn (Fence.wide.inRound l) m prog 125 #[.slice x.A x.l.length x.c,.agg #[.int .i64 e.kind,.int .i64 e.op,.int .i64 e.ty,.int .i64 e.va,.string e.name,.slice e.ad e.args.length e.cap]] W fun en w'=>en=.returned (.int .i64 r)/\ik W w'):=iB fun m=>by
   have hb:=hx.bounds;have:=GM h W (ij aft ⟨R⟩) e.kind e.op e.ty e.va e.name e.ad e.args.length e.cap hx.2.ty hb.2.2.2;rw[show Dl x.l e.kind e.ty e.va e.args.length=r from hr]at this;exact CallsIn.inRound l (callsIn_wide.2 this)
  have a6:Hid (lv x.l (BN (j++[⟨e,hx⟩]))=r):=by show _=_;rw[Lu,IA,iG i2.out,hr]
  gi_wp2_with fail
  refine⟨trivial,(HC _).mono ?_⟩;rintro _ w2 ⟨rfl,ha⟩;have J:iP w2 (w.heap.size+1+1) 26 #[.int .i64 0]:=i1.after (k:=ha);have a7:Below w.heap.size w w2:=R.trans (ha.below.mono R.size);have ae:U.heap.size<=w2.heap.size:=jW i4 ha.below.size;have cr:w2.cell? ⟨w.heap.size+1+1,0,none⟩=some (.int .i64 0):=by rw[J.cell];rfl
  have fr:=J.frozen 0;have lr:=J.is_le;have ab:iP w2 w.heap.size 22 #[.slice x.A x.l.length x.c]:=i5.after (k:=ha);by_cases h0:r=0
  ·subst h0
   gi_wp2
   exact⟨(KeepsOthers.rJ ha).from _,ti.after (by omega) ha,J,a6,a7,ae,ab⟩
  have an:(r != 0)=true:=by simpa using h0
  gi_wp2
  refine⟨((KeepsOthers.rJ ha).trans (KeepsOthers.setCell _ _ _)).from _,rfl,?_,?_,a7.setCell (p:=⟨w.heap.size+1+1,0,none⟩) (by show w.heap.size<=w.heap.size+1+1;omega) _⟩
  ·rw[a6.out];exact J.jx 0 (.int .i64 r)
  show _≠_;rw[a6.out];exact h0
 case done=>
  rintro D ys W hD af ⟨i1,i2,R,i4,i5⟩ hK;have HS:Hid (lv x.l (Tx.mk k o t v s A c xs).list=0):=by have:=i2.out;rwa [show BN ys=_ from af]at this
  have c2:W.cell? ⟨w.heap.size+1+1,0,none⟩=some (.int .i64 0):=by rw[i1.cell];rfl
  have f2:=i1.frozen 0;have l2:=i1.is_le;have i5:=iB (i1.jx 0 (.int .i64 0));have a1:=(KeepsOthers.setCell W ⟨w.heap.size+1+1,0,none⟩ (.int .i64 0)).same D _ hK rfl;have ck:((W.setCell ⟨w.heap.size+1+1,0,none⟩ (.int .i64 0)).putObj D (.deferred none)).cell? ⟨w.heap.size+1+1,0,none⟩=some (.int .i64 0):=cell_kept (by rw[i5.out.cell];rfl) (grownBy_putObj' _ D (.deferred none)) (fun r e=>by cases e;exact⟨_,a1,rfl⟩);have ag:=(R.setCell (p:=⟨w.heap.size+1+1,0,none⟩) (by show w.heap.size<=w.heap.size+1+1;omega) (.int .i64 0)).trans (belowK_b (w:=w) (js _) (W.setCell ⟨w.heap.size+1+1,0,none⟩ (.int .i64 0)) D _ (.deferred none) (by omega) a1 rfl rfl)
  gi_wp2
  refine⟨by simp,.inl ⟨_,_,rfl,run_takeDeferred a1,?_⟩⟩;exact⟨.int .i64 0,by simp[results,results79,go_sem,ck],by rw[HS.out],⟨ag⟩⟩
 case stop=>
 rintro D c j W hD a_ ⟨rfl,i1,i2,R⟩ hK;have HS:=iy (Ji x.l (show BN j <+: _ from a_) i2);have ck:(W.putObj D (.deferred none)).cell? ⟨w.heap.size+1+1,0,none⟩=some (.int .i64 (lv x.l (BN j))):=cell_kept (by rw[i1.cell];rfl) (grownBy_putObj' _ D (.deferred none)) (fun r e=>by cases e;exact⟨_,hK,rfl⟩)
 gi_wp2
 refine⟨by simp,.inl ⟨_,_,rfl,run_takeDeferred hK,?_⟩⟩;exact⟨.int .i64 (lv x.l (BN j)),by simp[results,results79,go_sem,ck],by rw[HS.out],⟨R.trans (belowK_b (w:=w) (js _) W D _ _ (by omega) hK rfl rfl)⟩⟩
theorem zX {x:nB iW} {k o t v:Int} {s:yB} {A:zA} {c:Nat} {xs:List Tx} {w0:yM} (h:ir 2 sM w0 x) (hs:(Tx.mk k o t v s A c xs).size<=2000000) (hX:RX w0 (.mk k o t v s A c xs)) (hB:FY (.mk k o t v s A c xs)) (w:yM) (aft:ik w0 w) :
  Calls prog 79 #[(x.A,x.l,x.c),.agg #[k,o,t,v,s,(A,xs,c)]] w fun e w'=>e=.returned (.int .i64 (qk x.l (.mk k o t v s A c xs)))/\ik w w':=by
 by_cases j:vj (.mk k o t v s A c xs)=0
 ·have:=(callsIn_wide (n:=3)).1 (Ms h hs j hX hB w aft)
  unfold qk;rw[iG j];exact this
 have I:Hid (qk x.l (.mk k o t v s A c xs)=vj (.mk k o t v s A c xs)):=by show _=_;unfold qk;rw[iV j]
 have J:Hid (∀U,ik w0 U->Calls prog 123 #[.agg #[k,o,t,v,s,(A,xs,c)]] U fun e w'=>e=.returned (.int .i64 (vj (.mk k o t v s A c xs)))/\ik U w'):=iy fun U hU=>KS hs hX U hU
 obtain⟨q,R⟩:=jt (vj (.mk k o t v s A c xs));rw[R]at I J j;have z1:(q==0)=false:=by rw[beq_eq_false_iff_ne];exact j
 go_in;go_wp2_with fail;refine (J _ iR).mono ?_;rintro _ w1 ⟨rfl,ha⟩;obtain⟨y1,rfl⟩:=@jP _ _ ha;go_wp2_with fail;refine jR (v:=.int .i64 q) (by simp[results,results79,go_sem]) rfl ⟨by rw[I.out],iR⟩
section
open Go.RowKit Go.BigFrame
def jD (a b:Int):Int:=if a=0 then b else a
theorem lR {a b:Int} (h:a≠0):jD a b=a:=iV h
theorem kC {a b:Int} (h:a=0):jD a b=b:=iG h
theorem Lf (a b c:Int):jD (jD a b) c=jD a (jD b c):=by unfold jD;by_cases h:a=0<;>simp[h]
theorem kE (a:Int):jD a 0=a:=by unfold jD;split<;>omega
def iX (b:Bool) (e:Int):Int:=if b then 0 else e
def iw {α:Type} (f:α->Int):List α->Int
 |[]=>0
 |x::l=>jD (f x) (iw f l)
theorem xY {α:Type} (f:α->Int) (l m:List α):iw f (l++m)=jD (iw f l) (iw f m):=by
 induction l with
 |nil=>simp[iw,jD]
 |cons a l ih=>rw[lP,iw,iw,ih,Lf]
theorem kt {α:Type} (f:α->Int) {l:List α} {j:Nat} {x:α} (h:l[j]?=some x) (h0:iw f (l.take j)=0):iw f (l.take (j+1))=f x:=by
 rw[List.take_add_one,h,xY,kC h0];simp[iw,kE]
theorem kN {α:Type} (f:α->Int) {l:List α} {j:Nat} {x:α} (h:l[j]?=some x) (h0:iw f (l.take j)=0) (hx:f x≠0):iw f l=f x:=by
 have o:=xY f (l.take (j+1)) (l.drop (j+1));rw[Gv,kt f h h0,lR hx]at o;exact o
theorem lh {α:Type} (f:α->Int) {l:List α} {j:Nat} (hj:¬j<l) (h0:iw f (l.take j)=0):iw f l=0:=by
 rwa [Dn iu]at h0
def jA (s:yB):Int:=iX (kT s) 6
def oy (u:iW):Int:=jD (jA u.name) (jD (iX (decide ((0:Int)<(u.tags.l:Int))) 8) (jD (iX (decide ((u.tags.l:Int)<=16)) 3) (iw jA u.tags.l)))
def vR (en:List iW) (o:sO):Int:=jD (jA o.name) (iX (!(o.t==2)&&nq en o.t o.tag) 5)
def jN (en:List iW) (port:Bool) (d:iO):Int:=
 jD (jA d.name) (jD (iX (decide ((0:Int)<(jV en d.ty:Int))) 10) (jD (iX (!port||(d.clock.l:Int)==0) 11) (jD (iX (decide ((d.clock.l:Int)<=4)) 3) (iw (vR en) d.clock.l))))
def nN (en:List iW) (port:Bool) (l:List iO):Int:=iw (jN en port) l
noncomputable def rN (en:List iW) (q:oX):Int:=
 jD (iX (decide ((0:Int)<(q.left.l.length:Int))) 8) (jD (iX (decide ((q.left.l.length:Int)<=64)) 3) (jD (iw jA q.left.l) (jD (qk en q.right) (iX ((q.left.l.length:Int)==1||q.right.kind==10) 5))))
noncomputable def tx (en:List iW) (n:Nat) (strong:Bool) (t:ma):Int:=
 jD (iX (decide (0<=t.dst)&&decide (t.dst<(n:Int))) 14) (jD (qk en t.cond) (iX (!strong||jL t.cond.list) 5))
mutual
noncomputable def AM (en:List iW) (n d:Nat):StT->Int
 |.mk nm lo eq _ _ au ul ut=>jD (jA nm) (jD (iX (decide ((lo.l:Int)<=256)&&(decide ((eq.l:Int)<=256)&&(decide ((au:Int)<=8)&&(decide ((ul.l:Int)<=4)&&decide ((ut.l:Int)<=4))))) 3)
  (jD (nN en false lo.l) (jD (iw (rN en) eq.l) (jD (yu en (d+1) au) (jD (iw (tx en n true) ul.l) (iw (tx en n false) ut.l))))))
noncomputable def yA (en:List iW) (n d:Nat):List StT->Int
 |[]=>0
 |x::l=>jD (AM en n d x) (yA en n d l)
noncomputable def rK (en:List iW) (d:Nat):AuT->Int
 |.mk _ _ l=>jD (iX (decide ((d:Int)<3)) 3) (jD (iX (decide ((0:Int)<(l:Int))) 8) (jD (iX (decide ((l:Int)<=8)) 3) (yA en l d l)))
noncomputable def yu (en:List iW) (d:Nat):List AuT->Int
 |[]=>0
 |x::l=>jD (rK en d x) (yu en d l)
end
theorem Ff (en:List iW) (d:Nat) (l:List AuT):yu en d l=iw (rK en d) l:=by
 induction l with
 |nil=>rw[yu,iw]
 |cons a l ih=>rw[yu,iw,ih]
theorem EL (en:List iW) (n d:Nat) (l:List StT):yA en n d l=iw (AM en n d) l:=by
 induction l with
 |nil=>rw[yA,iw]
 |cons a l ih=>rw[yA,iw,ih]
theorem yt (en:List iW) (d:Nat) (A:zA) (c:Nat) (l:List StT):rK en d (.mk A c l)=jD (iX (decide ((d:Int)<3)) 3) (jD (iX (decide ((0:Int)<(l:Int))) 8) (jD (iX (decide ((l:Int)<=8)) 3) (iw (AM en l d) l))):=by
 rw[rK,EL]
theorem IY (en:List iW) (n d:Nat) (nm:yB) (lo:nB iO) (eq:nB oX) (A:zA) (c:Nat) (au:List AuT) (ul ut:nB ma):AM en n d (.mk nm lo eq A c au ul ut)=jD (jA nm) (jD (iX (decide ((lo.l:Int)<=256)&&(decide ((eq.l:Int)<=256)&&(decide ((au:Int)<=8)&&(decide ((ul.l:Int)<=4)&&decide ((ut.l:Int)<=4))))) 3)
  (jD (iw (jN en false) lo.l) (jD (iw (rN en) eq.l) (jD (iw (rK en (d+1)) au) (jD (iw (tx en n true) ul.l) (jD (iw (tx en n false) ut.l) 0)))))):=by
 rw[AM,Ff,kE];rfl
def Ek (en:List iW) (n:nh):Int:=
 jD (jA n.name) (jD (iX (decide ((n.ins.l:Int)<=64)&&(decide ((n.outs.l:Int)<=64)&&(decide ((n.locals.l.length:Int)<=256)&&(decide ((n.eqs.l:Int)<=256)&&(decide ((n.autos.l:Int)<=8)&&(decide ((n.assume.l:Int)<=8)&&decide ((n.ensure.l:Int)<=8))))))) 3)
  (jD (iX (decide ((0:Int)<(n.outs.l:Int))) 8) (jD (nN en true n.ins.l) (jD (nN en true n.outs.l) (nN en false n.locals.l)))))
noncomputable def KN (en:List iW) (n:nh):Int:=jD (iw (rK en 0) n.autos.l) (jD (iw (qk en) n.assume.l) (iw (qk en) n.ensure.l))
theorem tT {w0:yM} {g A n c nd q} (h:pK w0 g A n c nd q) (s:yB) (hs:s.size<=140737488355328) (w:yM) (hw:ik w0 w) :
  Calls prog 74 #[.pointer (some g),s] w fun e w'=>PE w nd q (jA s) e w':=by
 have J:=iy (fun (U:yM)=>Ap s hs U);have I:Hid (∀U,ik w0 U->Calls prog 39 #[.pointer (some g),(kT s),.int .i64 6] U fun e w'=>PE U nd q (jA s) e w'):=iy fun U hU=>rC (h.here U (k:=hU)) (kT s) 6 iI
 obtain⟨b,hb⟩:=jt (kT s);obtain⟨R,hR⟩:=jt (jA s);rw[hb]at J I;rw[hR]at I⊢;go_in;go_wp2_with fail;refine (J w).mono ?_;rintro e w1 ⟨rfl,o⟩;go_wp2_with fail;refine (I w1 (ij hw o)).mono ?_;rintro e w2 hp;by_cases hE:R=0
 ·subst hE
  obtain⟨rfl,j⟩:=hp.Tw;go_wp2;go_end0;exact zF (ij o j)
 obtain⟨rfl,j⟩:=hp.Oq hE;unfold uw;go_wp2;exact⟨rfl,CS hE (ij o j)⟩
theorem K_ {w0:yM} {g A n c nd q} (h:pK w0 g A n c nd q) (s:yB) (hs:s.size<=140737488355328) (x:nB yB) (hx:ir 1 sR w0 x) (w:yM) (hw:ik w0 w) :
  Calls prog 40 #[.pointer (some g),.agg #[s,(x.A,x.l,x.c)]] w fun e w'=>PE w nd q (oy ⟨s,x⟩) e w':=by
 have HI:Hid (∀s:yB,s.size<=140737488355328->∀U,ik w0 U->Calls prog 74 #[.pointer (some g),s] U fun e w'=>PE U nd q (jA s) e w'):=fun s hs U hU=>tT h s hs U hU
 have HM:Hid (∀b e,e≠0->∀U,ik w0 U->Calls prog 39 #[.pointer (some g),.bool b,.int .i64 e] U fun e' w'=>PE U nd q (iX b e) e' w'):=fun b e he U hU=>rC (h.here U (k:=hU)) b e he
 obtain⟨R,hR⟩:=jt (oy ⟨s,x⟩);have o:Hid (R=jD (jA s) (jD (iX (decide ((0:Int)<(x.l:Int))) 8) (jD (iX (decide ((x.l:Int)<=16)) 3) (jD (iw jA x.l) 0)))):=by
  show _=_
  rw[<- hR,kE];rfl
 rw[hR];obtain⟨A1,c1,l⟩:=x;simp only[]at o⊢;have XX:=iy hx;have an:=hx.len;simp only[]at an;obtain⟨W1,aq,HK,a1⟩:∃W1,w.alloc (.cells #[s,(A1,l,c1)] 57)=W1/\Hid (∀U:yM,ik W1 U->U.cell? w.heap.size=s/\U.cell? (w,1)=(A1,l,c1)/\Le (w+1) U)/\ik w W1:=by
  refine⟨_,rfl,fun U hU=>?_,iR⟩;have y0:=(jC w 57 #[s,(A1,l,c1)]).after (w':=U);exact⟨by rw[y0.cell];rfl,by rw[y0.cell];rfl,y0.is_le⟩
 obtain⟨k0,k1,kl⟩:=HK W1 iR;have af:=a1;go_in;go_wp2_with fail;refine (HI s hs W1 (ij hw a1)).mono ?_;rintro e w2 hp;by_cases hE:jA s=0;rotate_left
 ·obtain⟨F,hF,HP⟩:∃F,e=uw nd q F/\Hid (PE w nd q R (uw nd q F) w2):=by
   obtain⟨rfl,a7⟩:=hp.Oq hE;have HX:=iy (o.trans (lR hE));have HE:Hid (R=jA s):=HX;exact⟨_,rfl,iy (by rw[HE.out];exact CS hE (ij a1 a7))⟩
  subst hF;unfold uw;go_wp2;exact⟨rfl,HP⟩
 replace o:=iy (o.trans (kC hE));obtain⟨rfl,a7⟩:=hp.Rv hE;have d2:=ij a1 a7;have b2:=ij (iq W1) a7;obtain⟨k0,k1,kl⟩:=HK w2 (b2);go_wp2_with fail;refine (HM _ 8 iI w2 (ij hw d2)).mono ?_;rintro e w3 hp;replace hp:=hp.to (F:=iX (decide ((0:Int)<(l:Int))) 8) (nQ (fun b=>iX b 8) (decide_eq_decide.2 iu));by_cases hE:iX (decide ((0:Int)<(l:Int))) 8=0;rotate_left
 ·obtain⟨F,hF,HP⟩:∃F,e=uw nd q F/\Hid (PE w nd q R (uw nd q F) w3):=by
   obtain⟨rfl,a6⟩:=hp.Oq hE;have HX:=iy (o.trans (lR hE));have HE:Hid (R=iX (decide ((0:Int)<(l:Int))) 8):=HX;exact⟨_,rfl,iy (by rw[HE.out];exact CS hE (ij d2 a6))⟩
  subst hF;unfold uw;go_wp2;exact⟨rfl,HP⟩
 replace o:=iy (o.trans (kC hE));obtain⟨rfl,a6⟩:=hp.Rv hE;have d3:=ij d2 a6;have b3:=ij (b2) a6;obtain⟨k0,k1,kl⟩:=HK w3 (b3);go_wp2_with fail;refine (HM _ 3 (by decide) w3 (ij hw d3)).mono ?_;rintro e w4 hp;replace hp:=hp.to (F:=iX (decide ((l:Int)<=16)) 3) (nQ (fun b=>iX b 3) (decide_eq_decide.2 iu));by_cases hE:iX (decide ((l:Int)<=16)) 3=0;rotate_left
 ·obtain⟨F,hF,HP⟩:∃F,e=uw nd q F/\Hid (PE w nd q R (uw nd q F) w4):=by
   obtain⟨rfl,aa⟩:=hp.Oq hE;have HX:=iy (o.trans (lR hE));have HE:Hid (R=iX (decide ((l:Int)<=16)) 3):=HX;exact⟨_,rfl,iy (by rw[HE.out];exact CS hE (ij d3 aa))⟩
  subst hF;unfold uw;go_wp2;exact⟨rfl,HP⟩
 replace o:=iy (o.trans (kC hE));obtain⟨rfl,aa⟩:=hp.Rv hE;have b4:=ij (b3) aa;obtain⟨k0,k1,kl⟩:=HK w4 (b4);go_wp2_with fail;go_loopw [25] (fun i wr=>∃j:Nat,j<=l.length/\i=.int .i64 (j:Nat)/\Hid (iw jA (l.take j)=0)/\ik W1 wr) (fun i _=>l.length-(intOf i).toNat)
 ·exact⟨0,iu,rfl,iy (by simp[iw]),b4⟩
 case round=>
 obtain⟨j,hj,rfl,ab,a8⟩:=hrel;have J:ik w wr:=ij af a8;obtain⟨rj,ak⟩:=jt wr;rw[ak]at a8 J⊢;obtain⟨k0,k1,kl⟩:=HK rj (a8);by_cases a_:j<l
 ·have al:(j:Int)<(l:Int):=by omega
  obtain⟨bj,pj,yj,rfl,ao,ag,ae⟩:=(XX.strs rj (k:=ij hw J)).part (i:=j) a_;have y0:rj.cell? (bj,pj+j)=yj:=by have:=ae.1;rwa [yr]at this
  have aj:=ae.2;have ah:Hid ((jA yj)≠0->R=(jA yj)):=iB fun h=>by
   have h1:=kN jA ag ab h;have h2:R=(jA yj):=o.trans ((lR (by rw[h1];exact h)).trans h1);exact h2
  have I:Hid ((jA yj)=jD (jA yj) 0):=iB (kE _).symm;have ai:Hid ((jA yj)=0->iw jA (l.take (j+1))=0):=iB fun h=>(kt jA ag ab).trans h
  obtain⟨X1,ad⟩:∃X,X=(jA yj):=⟨_,rfl⟩;replace I:=iB (ad.trans I);rw[<- ad]at ah ai;go_wp2_with fail;refine (HI yj aj rj (ij hw J)).mono ?_;rintro e w5 hp;by_cases hE:jA yj=0;rotate_left
  ·obtain⟨F,hF,HP⟩:∃F,e=uw nd q F/\Hid (PE w nd q R (uw nd q F) w5):=by
    obtain⟨rfl,a'⟩:=hp.Oq hE;have HX:=iy (I.trans (lR hE));have HE:=iy ((ah (by rw[HX.out];exact hE)).trans HX);exact⟨_,rfl,iy (by rw[HE.out];exact CS hE (ij J a'))⟩
   subst hF;unfold uw;go_wp2;exact⟨rfl,HP⟩
  replace I:=iy (I.trans (kC hE));obtain⟨rfl,a'⟩:=hp.Rv hE;have b5:=ij (a8) a';obtain⟨k0,k1,kl⟩:=HK w5 (b5);go_wp2;go_roundw
  case rel=>exact⟨j+1,iu,by go_num,iy (ai I),b5⟩
  case measure=>simp only[intOf];omega
 replace o:=iy (o.trans (kC (lh jA a_ ab)));go_wp2;go_end0;exact by have hz:=o.out;rw[hz];exact zF J
end
end
def El (L:List (List Pc)):List yB:=L.map fun p=>lG (iY p)
theorem zI (L:List (List Pc)) (sep:List Pc):Lib.join ((El L).map (·.data.toList)) (iY sep)=iY (mq sep L):=by
 rw[wV];congr 1;unfold El;rw[xZ];exact IL fun a _=>Cd _
theorem H0 {L:List (List Pc)} {k:Nat} {p:List Pc} (hk:L[k]?=some p) {x:List UInt8} (hx:iY p=x):G0 (El (L.take k))++[.string (lG x)]=G0 (El (L.take (k+1))):=by
 obtain⟨j,o⟩:=rq.1 hk;rw[<- hx,<- o,IX j];unfold G0 El;rw[s_,s_];rfl
def Lk (el:List iW) (o:sO):List Pc:=FX el o.t o.tag o.name
def o_ (el:List iW) (l:List sO):List Pc:=mq [.sp 32] (l.map (Lk el))
def F6 (el:List iW) (t:Int):Pc:=
 if t=1 then mB [98,111,111,108] else if t=2 then mB [105,110,116] else match el[(t-3).toNat]? with | some u=>rM u.name | none=>.sp 32
def pv (el:List iW) (d:iO):List Pc:=rM d.name::mf [58]::.sp 32::F6 el d.ty::(if d.clock.l.length=0 then [] else .sp 32::o_ el d.clock.l)
def kO (el:List iW) (l:List iO):List Pc:=mq [mf [59],.sp 32] (l.map (pv el))
theorem Qu {el:List iW} {t v:Int} (h2:t≠2) (h:nq el t v=true):qS el t:=by
 refine yX fun j=>?_
 unfold nq at h;rw[iV h2,j]at h;simp only[mT,decide_eq_true_eq]at h;omega
theorem jI {a b:Int} (h:jD a b=0):a=0/\b=0:=by
 unfold jD at h;by_cases j:a=0
 ·rw[iG j]at h;exact⟨j,h⟩
 rw[iV j]at h;exact absurd h j
theorem nJ {b:Bool} {e:Int} (he:e≠0) (h:iX b e=0):b=true:=by
 unfold iX at h;cases b with
 |true=>rfl
 |false=>simp at h;exact absurd h he
theorem jd {α:Type} {f:α->Int}:∀{l:List α},iw f l=0->∀x∈l,f x=0
 |[],_,x,h=>by simp at h
 |a::l,h0,x,h=>by
  rw[iw]at h0;obtain⟨h1,h2⟩:=jI h0;rcases uW.1 h with rfl | h
  ·exact h1
  exact jd h2 x h
theorem Fb {el:List iW} {o:sO} (h:vR el o=0):kT o.name=true/\o.t≠2/\qS el o.t/\nq el o.t o.tag=true:=by
 unfold vR at h;obtain⟨R,J⟩:=jI h;have I:=nJ iI R;have j:=nJ iI J;simp only[mT,IU,beq_eq_false_iff_ne]at j;exact⟨I,j.1,Qu j.1 j.2,j.2⟩
theorem OC {el:List iW} (hT:mL el) {o:sO} (h:vR el o=0):(iY (Lk el o)).length<=100:=by
 obtain⟨J,h2,h3,I⟩:=Fb h;have U:=jM J;have R:=xw hT I;have j:=jr o.name;unfold Lk FX;rw[kH,jn,iC,jl,lQ,jl,ja];simp;omega
theorem za {m s:Nat} {sep:List Pc} (hs:(iY sep).length=s):∀{l:List (List Pc)},(∀x∈l,(iY x).length<=m)->(iY (mq sep l)).length<=l.length*(m+s)
 |[],_=>by rw[mq,ja];simp
 |[a],h=>by rw[mq];have:=h a (by simp);simp;omega
 |a::b::l,h=>by
  rw[mq,iC,iC];have h1:=h a (by simp);have h2:=za hs (l:=b::l) fun x hx=>h x (qj _ hx)
  simp only[mo,py,Nat.add_mul]at h2⊢;omega
theorem yC {el:List iW} (hT:mL el) {l:List sO} (h:iw (vR el) l=0) (h4:l.length<=4):(iY (o_ el l)).length<=404:=by
 have J:(iY (o_ el l)).length<=(l.map (Lk el)).length*(100+1):=za (by decide) fun x j=>by
  obtain⟨o,I,rfl⟩:=yQ.1 j;exact OC hT (jd h o I)
 rw[pE]at J;omega
section
variable {w0:yM} {eA:zA} {ec:Nat} {el:List iW} {mb:Nat}
theorem L9 (hS:ID w0 eA ec el) (hT:mL el) {A:zA} {c:Nat} {l:List sO} (hR:ir 3 KJ w0 ⟨A,c,l⟩) (hE:iw (vR el) l=0) (h4:l.length<=4) (w:yM) (hw:ik w0 w) :
  Calls prog 86 #[.agg #[(eA,el,ec),.map (some mb)],(A,l,c)] w fun e w'=>e=.returned (.string (lG (iY (o_ el l))))/\∃y,w'=w.more y:=by
 have R:=yC hT hE h4;obtain⟨L,hL⟩:=jt (l.map (Lk el));have a_:L.length=l:=by rw[<- hL,pE]
 unfold o_ at R⊢;rw[hL]at R⊢;have HL:=iy hL;have j:=iB a_;have HJ:=iB (show (Lib.join ((El L).map (·.data.toList)) (⟨#[32]⟩:yB).data.toList).length<=140737488355328 from by rw[show ((⟨#[32]⟩:yB).data.toList)=iY [.sp 32] from rfl,zI];omega);obtain⟨J,hJ⟩:=jt (lG (iY (mq [.sp 32] L)));rw[hJ];have ab:=iB hJ;go_in;go_wp2_with fail;obtain⟨W1,a1⟩:∃W1,W1=(w.alloc (.cells #[(eA,el,ec),.map (some mb)] 47)):=⟨_,rfl⟩;go_loopw [5,10] (fun v i wr=>∃(k:Nat) (I:zA) (o:Nat),k<=l.length/\i=.int .i64 k/\v=.slice I k o/\Hid (wr.ownsRow W1 9 1 (.slice I k o) k (G0 (El (L.take k))))/\Hid (∃y,wr=W1.more y)) (fun _ i _=>l.length-(intOf i).toNat)
 ·exact⟨0,none,0,by omega,rfl,rfl,FL _ _ _ _,by show ∃y,_=W1.more y;rw[a1];exact jP _ _⟩
 case round=>
 obtain⟨k,I,o,hk,rfl,rfl,HO,HW⟩:=hrel;obtain⟨y0,rfl⟩:=HW.out;subst a1;by_cases a7:k<l
 ·obtain⟨b,p,⟨on,ot,og⟩,a6,ad,HY,hP⟩:=(hR.Sq ((w.alloc (.cells #[(eA,el,ec),.map (some mb)] 47)).more y0) (k:=ij hw zc)).part (i:=k) a7
  simp only[]at a6;subst a6;have a8:(k:Int)<(l:Int):=by omega
  have d0:=hP.c0;have d1:=hP.c1;have d2:=hP.c2;have he:=jd hE _ (om HY.out);obtain⟨i1,i2,i3,i4⟩:=Fb he;have i5:=jM i1;have i6:=xw hT i4;simp only[]at d0 d1 d2 i1 i2 i3 i4 i5 i6;have a':L[k]?=some (Lk el ⟨on,ot,og⟩):=by rw[<- HL.out,JL,HY.out];rfl
  obtain⟨x,hx⟩:=jt (iY (Lk el ⟨on,ot,og⟩));have HT:=iB (H0 a' hx);have HC:=iB (fun U (hU:ik w U)=>yH (mb:=mb) hS U (ij hw hU) ot og on (by omega) i3 i4 (by omega));rw[show iY (FX el ot og on)=x from hx]at HC;go_wp2_with fail;refine (HC _ zc).mono ?_;rintro e V ⟨rfl,hy⟩;have aV:ik (w.alloc (.cells #[(eA,el,ec),.map (some mb)] 47)) V:=ny hy zc;have aa:Hid (V.ownsRow (w.alloc (.cells #[(eA,el,ec),.map (some mb)] 47)).heap.size 9 1 (.slice I k o) k (G0 (El (L.take k)))):=nF HO (ny hy zc);go_wp2_with (at_builtin;refine mh (w0:=w.alloc (.cells #[(eA,el,ec),.map (some mb)] 47)) V rfl (.tmp 14) (.tmp 18) 55 rfl 9 _ 16 underlying55 Cr rfl (.slice I k o) k _ (.string (lG x)) rfl aa rfl rfl (by omega) (by omega) ?_;intro v1 w4 hown1 haft1;replace hown1:=iB hown1)
  obtain⟨A1,c1,rfl,_,_⟩:=ji hown1.out;go_roundw
  case rel=>exact⟨k+1,A1,c1,iu,by go_num,rfl,by show World.ownsRow _ _ _ _ _ _ _;rw[<- HT.out];exact hown1,jP _ _⟩
  case measure=>simp[intOf];omega
 obtain rfl:k=l:=iu;have a8:¬((l:Int)<(l:Int)):=iu;have HS:=iy (show qi ((w.alloc (.cells #[(eA,el,ec),.map (some mb)] 47)).more y0) I o (El L) from by
  have:=qi.so HO (by unfold El;rw[pE,Fi,j.out];omega) iu;rwa [Dn (by rw[j.out];omega)]at this)
 have HC:=iy (fun U hU=>HS.join ⟨#[32]⟩ HJ U hU);rw[show (El L).length=l.length by unfold El;rw[pE,j.out],show ((⟨#[32]⟩:yB).data.toList)=iY [.sp 32] from rfl,zI,ab.out]at HC;generalize l=n9 at *
 go_wp2_with fail;refine (HC _ iR).mono ?_;rintro e w' ⟨rfl,y,rfl⟩;go_wp2;go_ret;exact⟨rfl,jP _ _⟩
theorem Pg {el:List iW} {t:Int} (h:qS el t):Rz el t=lG (iY [F6 el t]):=by
 unfold Rz F6;by_cases o:t=1
 ·rw[iG o,iG o];rfl
 rw[iV o,iV o];by_cases j:t=2
 ·rw[iG j,iG j];rfl
 rw[iV j,iV j];have I:(t-3).toNat<el.length:=by
  rcases h with h | h | h
  ·exact absurd h o
  ·exact absurd h j
  omega
 rw[qn I];show el[(t-3).toNat].name=lG (iY [rM el[(t-3).toNat].name])
 rw[lQ,ja,oV,qd]
def pB (el:List iW):Prop:=∀u∈el,u.name.size<=40
theorem Nv {el:List iW} (hN:pB el) (t:Int):(iY [F6 el t]).length<=40:=by
 unfold F6;by_cases o:t=1
 ·rw[iG o];decide
 rw[iV o];by_cases j:t=2
 ·rw[iG j];decide
 rw[iV j];cases hu:el[(t-3).toNat]? with
 |none=>show (iY [.sp 32]).length<=40;decide
 |some u=>
 show (iY [rM u.name]).length<=40
 rw[lQ,ja,oV,jr];exact hN u (om hu)
theorem yL {el:List iW} {port:Bool} {d:iO} (h:jN el port d=0):kT d.name=true/\qS el d.ty/\d.clock.l.length<=4/\iw (vR el) d.clock.l=0:=by
 unfold jN at h;obtain⟨J,h⟩:=jI h;obtain⟨o,h⟩:=jI h;obtain⟨R,h⟩:=jI h;obtain⟨j,I⟩:=jI h;have o:=nJ iI o;have j:=nJ iI j;simp only[decide_eq_true_eq]at o j;exact⟨nJ iI J,yX iu,iu,I⟩
theorem KX {el:List iW} (hT:mL el) (hN:pB el) {port:Bool} {d:iO} (h:jN el port d=0):(iY (pv el d)).length<=500:=by
 obtain⟨J,h2,I,o⟩:=yL h;have h5:=jM J;have U:=Nv hN d.ty;have R:=yC hT o I;have j:=jr d.name;unfold pv;rw[lQ,jl,jn,show F6 el d.ty::(if d.clock.l.length=0 then [] else .sp 32::o_ el d.clock.l)=[F6 el d.ty]++(if d.clock.l.length=0 then [] else .sp 32::o_ el d.clock.l) from rfl,iC];split
 ·simp[ja];omega
 rw[jn];simp;omega
theorem qC {el:List iW} (hT:mL el) (hN:pB el) {port:Bool} {l:List iO} (h:nN el port l=0) (h4:l.length<=1000):(iY (kO el l)).length<=502000:=by
 have J:(iY (kO el l)).length<=(l.map (pv el)).length*(500+2):=za (by decide) fun x j=>by
  obtain⟨o,I,rfl⟩:=yQ.1 j;exact KX hT hN (jd h o I)
 rw[pE]at J;omega
theorem Al (hS:ID w0 eA ec el) (hT:mL el) (hN:pB el) {A:zA} {c:Nat} {l:List iO} {port:Bool} (hR:ir 3 jG w0 ⟨A,c,l⟩) (hE:nN el port l=0) (h4:l.length<=1000) (w:yM) (hw:ik w0 w) :
  Calls prog 45 #[.agg #[(eA,el,ec),.map (some mb)],(A,l,c)] w fun e w'=>e=.returned (.string (lG (iY (kO el l))))/\∃y,w'=w.more y:=by
 have a1:=qC hT hN hE h4;obtain⟨L,hL⟩:=jt (l.map (pv el));have ab:L.length=l:=by rw[<- hL,pE]
 unfold kO at a1⊢;rw[hL]at a1⊢;have HL:=iy hL;have a_:=iy ab;have HJ:=iy (show (Lib.join ((El L).map (·.data.toList)) (⟨#[59,32]⟩:yB).data.toList).length<=140737488355328 from by rw[show ((⟨#[59,32]⟩:yB).data.toList)=iY [mf [59],.sp 32] from rfl,zI];omega);obtain⟨J,hJ⟩:=jt (lG (iY (mq [mf [59],.sp 32] L)));rw[hJ];have ai:=iy hJ;clear hL ab a1 hJ;go_in;go_wp2_with fail;obtain⟨W1,aa⟩:∃W1,W1=(w.alloc (.cells #[(eA,el,ec),.map (some mb)] 47)):=⟨_,rfl⟩;go_loopw [5,13] (fun v i wr=>∃(k:Nat) (A':zA) (c':Nat),k<=l.length/\i=.int .i64 k/\v=.slice A' k c'/\Hid (wr.ownsRow W1 9 1 (.slice A' k c') k (G0 (El (L.take k))))/\Hid (∃y,wr=W1.more y)) (fun _ i _=>l.length-(intOf i).toNat)
 ·exact⟨0,none,0,iu,rfl,rfl,FL _ _ _ _,by show ∃y,_=W1.more y;rw[aa];exact jP _ _⟩
 case round=>
 obtain⟨k,A',c',hk,rfl,rfl,HO,HW⟩:=hrel;obtain⟨y0,rfl⟩:=HW.out;subst aa;clear HW;by_cases ag:k<l
 ·obtain⟨b,p,⟨dn,o,⟨dA,dc,dl⟩⟩,ad,aj,HY,hP⟩:=(hR.decls ((w.alloc (.cells #[(eA,el,ec),.map (some mb)] 47)).more y0) (k:=ij hw iR)).part (i:=k) ag
  simp only[]at ad;subst ad;have ah:(k:Int)<(l:Int):=iu;have d0:=hP.c0;have d1:=hP.c1;have d2:=hP.c2;have R:=hP.cl;have he:=jd hE _ (om HY.out);obtain⟨i1,i2,i3,i4⟩:=yL he;have i5:=jM i1;have i6:=Nv hN o;have i7:=Pg i2;have i8:=yC hT i4 i3;simp only[]at d0 d1 d2 R i1 i2 i3 i4 i5 i6 i7 i8;have a7:L[k]?=some (pv el ⟨dn,o,⟨dA,dc,dl⟩⟩):=by rw[<- HL.out,JL,HY.out];rfl
  obtain⟨x,hx⟩:=jt (iY (pv el ⟨dn,o,⟨dA,dc,dl⟩⟩));have HT:=iy (H0 a7 hx);have I:=iy (fun U (hU:ik w U)=>If hS.ens U (ij hw hU) o i2);rw[i7]at I;have a':=jr dn;obtain⟨S1,e1,g1⟩:=jh (A:=dn) (B:=⟨#[58,32]⟩) (b:=[58,32]) (qd dn).symm rfl (by simp;omega);obtain⟨S2,e2,g2⟩:=jh (B:=lG (iY [F6 el o])) e1 rfl (by simp;omega);by_cases a6:dl.length=0
  ·have j:lG x=S2:=by
    rw[<- hx,e2];unfold pv;rw[iG a6,lQ,jl,jn];simp
   rw[j]at HT;rw[a6]at d2;generalize iY [F6 el o]=z at I g2;clear hR hE HY hP he i1 i2 i3 i4 i5 i6 i7 i8 a7 hx j hS hT hN R e1 e2 a';go_wp2_with fail;refine (I.out _ iR).mono ?_;rintro e w' ⟨rfl,y,rfl⟩;have a8:Hid ((((((w.alloc (.cells #[(eA,el,ec),.map (some mb)] 47)).more y0).alloc (.cells #[dn,o,.slice dA 0 dc] 77)).more y)).ownsRow (w.alloc (.cells #[(eA,el,ec),.map (some mb)] 47)).heap.size 9 1 (.slice A' k c') k (G0 (El (L.take k)))):=nF HO.out zc;clear HO;go_wp2_with (at_builtin;refine mh (w0:=(w.alloc (.cells #[(eA,el,ec),.map (some mb)] 47))) ((((w.alloc (.cells #[(eA,el,ec),.map (some mb)] 47)).more y0).alloc (.cells #[dn,o,.slice dA 0 dc] 77)).more y) rfl (.tmp 41) (.tmp 43) 55 rfl 9 _ 16 underlying55 Cr rfl (.slice A' k c') k _ (.string S2) rfl a8.out rfl rfl (by omega) (by omega) ?_;intro v1 w4 hown1 haft1;replace hown1:=iB hown1)
   obtain⟨A1,c1,rfl,_,_⟩:=ji hown1.out;go_roundw
   case rel=>exact⟨k+1,A1,c1,by omega,by go_num,rfl,by show World.ownsRow _ _ _ _ _ _ _;rw[<- HT.out];exact hown1.out,jP _ _⟩
   case measure=>simp[intOf];omega
  have j:∃S4,lG x=S4/\∃S3,(∀w:yM,(Op.stringOp .add ⟨#[32]⟩ (lG (iY (o_ el dl)))).run prog w=.ok (.string S3) w)/\∀w:yM,(Op.stringOp .add S2 S3).run prog w=.ok (.string S4) w:=by
   obtain⟨S3,e3,g3⟩:=jh (A:=⟨#[32]⟩) (a:=[32]) (B:=lG (iY (o_ el dl))) rfl rfl (by simp;omega);obtain⟨S4,e4,g4⟩:=jh e2 e3 (by simp;omega);refine⟨S4,?_,S3,g3,g4⟩;rw[<- hx,e4];unfold pv;rw[iV a6,lQ,jl,jn,show ∀q:List Pc,F6 el o::q=[F6 el o]++q from fun _=>rfl,iC,jn];simp
  obtain⟨S4,j,S3,g3,g4⟩:=j;rw[j]at HT;have ae:ID ((w.alloc (.cells #[(eA,el,ec),.map (some mb)] 47)).more y0) eA ec el:=hS.here _ (ij hw zc);have af:=iB (fun U (hU:ik ((w.alloc (.cells #[(eA,el,ec),.map (some mb)] 47)).more y0) U)=>L9 (mb:=mb) ae hT R i4 i3 U hU);generalize iY [F6 el o]=z at I g2;generalize lG (iY (o_ el dl))=ck at af g3;generalize dl=n9 at *
  have ak:(0:Int)<(n9:Int):=by omega
  clear hR hE HY hP he i1 i2 i3 i4 i5 i6 i7 i8 a7 hx j hS hT hN R e1 e2 a' ae;go_wp2_with fail;refine (I.out _ zc).mono ?_;rintro e w' ⟨rfl,y,rfl⟩;go_wp2_with fail;refine (af.out _ zc).mono ?_;rintro e w' ⟨rfl,y2,rfl⟩;have a8:Hid (((((((w.alloc (.cells #[.slice eA el ec,.map (some mb)] 47)).more y0).alloc (.cells #[dn,o,.slice dA n9 dc] 77)).more y).more y2)).ownsRow (w.alloc (.cells #[.slice eA el ec,.map (some mb)] 47)).heap.size 9 1 (.slice A' k c') k (G0 (El (L.take k)))):=nF HO zc;go_wp2_with (at_builtin;refine mh (w0:=(w.alloc (.cells #[.slice eA el ec,.map (some mb)] 47))) (((((w.alloc (.cells #[.slice eA el ec,.map (some mb)] 47)).more y0).alloc (.cells #[dn,o,.slice dA n9 dc] 77)).more y).more y2) rfl (.tmp 41) (.tmp 43) 55 rfl 9 _ 16 underlying55 Cr rfl (.slice A' k c') k _ (.string S4) rfl a8 rfl rfl iu iu ?_;intro v1 w4 hown1 haft1;replace hown1:=iy hown1)
  obtain⟨A1,c1,rfl,_,_⟩:=ji hown1.out;go_roundw
  case rel=>exact⟨k+1,A1,c1,iu,by go_num,rfl,by show World.ownsRow _ _ _ _ _ _ _;rw[<- HT.out];exact hown1,jP _ _⟩
  case measure=>simp[intOf];omega
 obtain rfl:k=l:=iu;have ah:¬((l:Int)<(l:Int)):=iu;have HS:=iy (show qi ((w.alloc (.cells #[(eA,el,ec),.map (some mb)] 47)).more y0) A' c' (El L) from by
  have:=qi.so HO (by unfold El;rw[pE,Fi,a_.out];omega) iu;rwa [Dn (by rw[a_.out];omega)]at this)
 have HC:=iy (fun U hU=>HS.join ⟨#[59,32]⟩ HJ U hU);rw[show (El L).length=l.length by unfold El;rw[pE,a_.out],show ((⟨#[59,32]⟩:yB).data.toList)=iY [mf [59],.sp 32] from rfl,zI,ai.out]at HC;generalize l=n9 at *
 go_wp2_with fail;refine (HC _ iR).mono ?_;rintro e w' ⟨rfl,y,rfl⟩;go_wp2;go_ret;exact⟨rfl,jP _ _⟩
end
theorem Mk:(prog.info? 5).map (fun i=>(i.zero,i.size,i.bytes))=some (some (.int .u8 0),1,1):=by kernel_rfl
theorem P9:(prog.info? 52).map (·.size)=some 2:=by kernel_rfl
theorem RV:liesAt prog prog.depth 54 (4 / prog.cellsOf 54) 2 52 1=true:=by kernel_rfl
def rR (w:yM) (g:Nat):Option Nat:=(w.cell? (g,3)).bind Value.ownBlock
structure vP (g:Nat) (w w':yM):Prop where
 os:w'.os=w.os
 tape:w'.tape=w.tape
 output:w'.output=w.output
 size:w.heap.size<=w'
 keep:∀k,k<w.heap.size->k≠g->rR w g≠some k->w'.heap[k]?=w.heap[k]?
 buf:∀k,rR w' g=some k->rR w g=some k\/w.heap.size<=k
theorem vP.refl (g:Nat) (w:yM):vP g w w:=⟨rfl,rfl,rfl,js _,fun _ _ _ _=>rfl,fun k h=>.inl h⟩
theorem vP.trans {g:Nat} {w w1 w2:yM} (h:vP g w w1) (h':vP g w1 w2):vP g w w2:=by
 refine⟨h'.os.trans h.os,h'.tape.trans h.tape,h'.output.trans h.output,jW h.size h'.size,fun k j o I=>?_,fun k j=>?_⟩
 ·refine (h'.keep k (rO j h.size) o fun e=>?_).trans (h.keep k j o I)
  rcases h.buf k e with e | e
  ·exact I e
  omega
 rcases h'.buf k j with e | e
 ·exact h.buf k e
 exact .inr (jW h.size e)
theorem vP.rJ {g:Nat} {w w':yM} (h:ik w w') (hg:g<w):vP g w w':=
 ⟨h.below.os,h.below.tape,h.below.output,h.below.size,fun k hk _ _=>h.below.block k hk,fun k hk=>.inl (by unfold rR at hk⊢;rwa [show w'.cell? (g,3)=w.cell? (g,3) from h.below.cell (p:=(g,3)) hg]at hk)⟩
structure RA (g:Nat) (w:yM) (k:Nat):Prop where
 lt:k<w
 ne:k≠g
 nb:rR w g≠some k
theorem RA.Dh {g k:Nat} {w w':yM} (h:RA g w k) (s:vP g w w'):RA g w' k:=
 ⟨rO h.lt s.size,h.ne,fun e=>by
  rcases s.buf k e with e | e
  ·exact h.nb e
  have:=h.lt;omega⟩
theorem RA.blk {g k:Nat} {w w':yM} {T:TypeId} {cs:Array Value} (h:RA g w k) (s:vP g w w') (b:iP w k T cs):iP w' k T cs:=(s.keep k h.lt h.ne h.nb).trans b
structure Ln (B:yM) (g:Nat) (eA:zA) (n ec mb:Nat) (w:yM) (l:List UInt8):Prop where
 aft:ik B w
 hg:B<=g
 st:∃(p A:zA) (c:Nat),(p=none\/p=some ⟨g,2,none⟩)/\iP w g 54 #[(eA,n,ec),.map (some mb),.pointer p,(A,l,c)]/\w.ownsRow (g+1) 5 1 (.slice A l c) l.length (Lib.byteCells l)/\(l=[]->A=none/\c=0)
section
variable {B:yM} {g:Nat} {eA:zA} {n ec mb:Nat} {w w':yM} {l:List UInt8}
theorem Ln.lt (h:Ln B g eA n ec mb w l):g<w:=by
 obtain⟨p,A,c,_,j,_⟩:=h.st;exact j.lt
theorem Ln.buf (h:Ln B g eA n ec mb w l) {k:Nat} (e:rR w g=some k):g<k/\k<w:=by
 obtain⟨p,A,c,_,o,j,-⟩:=h.st;unfold rR at e;rw[o.cell 3]at e;have:=j.lt k e;exact⟨iu,this.2⟩
theorem Ln.after (h:Ln B g eA n ec mb w l) (a:ik w w'):Ln B g eA n ec mb w' l:=by
 obtain⟨p,A,c,hp,I,o,j⟩:=h.st;exact⟨ij h.aft a,h.hg,p,A,c,hp,I.after,nF o a,j⟩
theorem Ln.cells (h:Ln B g eA n ec mb w l):w.cell? g=(eA,n,ec)/\w.cell? (g,1)=some (.map (some mb)):=by
 obtain⟨p,A,c,hp,j,o,-⟩:=h.st;exact⟨by rw[j.cell];rfl,by rw[j.cell];rfl⟩
theorem Ln.loc (h:Ln B g eA n ec mb w l) {k:Nat} (a:ik w w') (h1:w<=k) (h2:k<w'):RA g w' k:=by
 have:=h.lt;refine⟨h2,iu,fun e=>?_⟩;have j:=(vP.rJ a h.lt).buf k e;rcases j with j | j
 ·have:=(h.buf j).2;omega
 obtain⟨p,A,c,hp,hb,ho,-⟩:=(h.after a).st;unfold rR at e;obtain⟨U,A',c',o,J,I,-⟩:=h.st;have R:=a.below.cell (p:=(g,3)) h.lt;rw[R]at e;have:=(h.buf (k:=k) (by unfold rR;exact e)).2;omega
end
theorem Rp (s:yB):s.data.toList=s.size:=rfl
theorem GQ (s:yB):Lib.strCells s=Lib.byteCells s.data.toList:=rfl
section
variable {P:Program} {w:yM}
theorem zq {ops:Array Oper} {rest:List Oper} {o:Oper} {a:Act} {Q:Exit->Act->yM->Prop} (hgd:o.guard=none) (sl x:Operand) (t u:TypeId)
  (ho:o.op=.call { callee:=.builtin .append,args:=#[sl,x],argTypes:=#[t,u] })
  (base:Nat) (e:TypeId) (i:TypeInfo) (ht:P.underlying t=some (.slice e)) (hu:P.underlying u=some .string) (hi:P.info? e=some i) (hz:i.zero=some (.int .u8 0))
  (hsize:i.size=1) (hby:i.bytes=1)
  (v:Value) (n:Nat) (xs:zO) (hs:a.eval sl=v) (hown:w.ownsRow base e 1 v n xs) (s:yB) (hx:a.eval x=.string s)
  (hbytes:n+s.size<=140737488355328) (hbase:base<=w)
  (h:∀v' w',w'.ownsRow base e 1 v' (n+s.size) (xs++Lib.strCells s)->w.grownBy w' v.ownBlock->v'.ownBlock=v.ownBlock\/v'.ownBlock=some w.heap.size->(v=.slice none 0 0->s.size=0->v'=.slice none 0 0)->wpList P ops Q rest (a.put o.dst v') w'):wpList P ops Q (o::rest) a w:=by
 obtain⟨v',w',J,h2,h3,h4⟩:=Lib.run_append_own_string (P:=P) w base t u o.type e i ht hu hi hz hsize hby v n xs hown s (by unfold maxLen;omega) hbytes hbase;have hb:v'.ownBlock=v.ownBlock\/v'.ownBlock=some w:=by
  have a1:xs=n:=by simpa using hown.1
  rcases hown.2 with⟨rfl,rfl⟩ | ⟨g,cap,cur,rfl,hbg,hg,hnc,hcm,hcs,htake⟩
  ·by_cases hm:s.size=0
   ·exact .inl (by rw[h4.2 ⟨rfl,hm⟩])
   have j:=run_append_nil_string (P:=P) w t u o.type e i (.int .u8 0) ht hu hi hz s iu iu (by rw[hby];omega);rw[j]at J;injection J with R U
   exact .inr (by rw[<- R];rfl)
  by_cases I:n+s.size<=cap
  ·have j:=Lib.run_append_room_string (P:=P) w t u o.type e i ht hu hi hsize g n cap cur hg s I iu
   rw[j]at J;injection J with R U
   exact .inl (by rw[<- R];rfl)
  have j:=Lib.run_append_grow_string (P:=P) w t u o.type e i (.int .u8 0) ht hu hi hz ⟨g,0,none⟩ n cap xs (by rw[hsize,yr];exact a1) (hown.cells (g:=g) rfl) s iu iu (by rw[hby];exact growslice_fits iu iu);rw[j]at J;injection J with R U
  exact .inr (by rw[<- R];rfl)
 refine wpList_plain hgd fun K hK=>?_
 unfold Oper.wp execOp;simp only[ho,resolve,invoke,builtin,Sem.run_bind,Sem.run_pure,Result.andThen_ok,List.map_toArray,mJ,tW,hs,hx,J];exact hK _ _ (h v' w' h2 h3 hb fun R U=>h4.2 ⟨R,U⟩)
end
theorem MZ (g:Nat) (w:yM) (h0:w.cell? (g,2)=(g,2)) :
  Calls prog 80 #[.pointer (some (g,2))] w fun e w'=>e=.returned (.tuple #[])/\w'=w:=by
 obtain⟨j,o,_⟩:=Option.map_eq_some_iff.1 P9;go_in;go_wp2;rw[Lib.run_neq_ptr_same w _ underlying49 o];go_wp2;go_end0;exact⟨rfl,rfl⟩
theorem LJ (g:Nat) (w:yM) (h0:w.cell? (g,2)=some (.pointer none)) (hsh:w.shape? g=some (54,4)) (hfz:w.frozen? (g,2)=false) :
  Calls prog 80 #[.pointer (some (g,2))] w fun e w'=>e=.returned (.tuple #[])/\w'=w.setCell (g,2) (.pointer (g,2)):=by
 obtain⟨j,I,o⟩:=Option.map_eq_some_iff.1 P9;go_in;go_wp2;rw[Lib.run_to_unsafe w ⟨g,2,none⟩ underlying49 underlying207 I (by rw[o];decide) hsh (by decide:2<4)];simp only[Result.andThen];rw[Oper.upon_value];go_wp2;rw[run_callFunc_extern func126 kp kp kp (e:=Extern.AbiNoEscape.same) kp];rw[Lib.run_noEscape];simp only[Result.andThen];rw[Oper.upon_value];go_wp2;rw[Lib.run_from_unsafe w ⟨g,2,none⟩ underlying207 underlying49 I hsh RV];simp only[Result.andThen];rw[Oper.upon_value];go_wp2;go_end0;exact⟨rfl,rfl⟩
section
variable {B:yM} {g:Nat} {eA:zA} {n ec mb:Nat}
theorem Pe (w:yM) (l:List UInt8) (h:Ln B g eA n ec mb w l) :
  Calls prog 80 #[.pointer (some (g,2))] w fun e w'=>e=.returned (.tuple #[])/\vP g w w'/\ik B w'/\∃(A:zA) (c:Nat),iP w' g 54 #[(eA,n,ec),.map (some mb),.pointer (g,2),(A,l,c)]/\w'.ownsRow (g+1) 5 1 (.slice A l c) l.length (Lib.byteCells l)/\rR w' g=rR w g/\(l=[]->A=none/\c=0):=by
 obtain⟨p,A,c,hp,j,R,U⟩:=h.st;rcases hp with rfl | rfl
 ·refine (LJ g w (by rw[j.cell];rfl) (by simp[World.shape?,show w.heap[g]?=_ from j]) (j.frozen 2)).mono ?_
  rintro e w' ⟨rfl,rfl⟩;have J:=j.jx 2 (.pointer (g,2));have I:rR (w.setCell (g,2) (.pointer (g,2))) g=rR w g:=by
   unfold rR;rw[j.cell,J.cell];rfl
  refine⟨rfl,⟨rfl,rfl,rfl,by simp[World.setCell],fun k o hg _=>Below.heap_setCell w _ _ k hg,fun k o=>.inl (by rw[I]at o;exact o)⟩,pQ (h:=h.aft) (k:=⟨h.hg⟩) _ _,A,c,J,?_,I,U⟩;refine R.kept (row:=some g) ⟨rfl,rfl,rfl,by simp[World.setCell],fun k _ o=>Below.heap_setCell _ _ _ _ (fun e=>o (by simp[e]))⟩ ?_;cases hv:Value.ownBlock (.slice A l.length c) with
  |none=>exact .inl rfl
  |some k=>exact .inr (by have:=R.lt k hv;intro e;injection e with e;omega)
 refine (MZ g w (by rw[j.cell];rfl)).mono ?_;rintro e w' ⟨rfl,rfl⟩;exact⟨rfl,vP.refl _ _,h.aft,A,c,j,R,rfl,U⟩
theorem Dm (l:List UInt8) (s:yB):Lib.byteCells l++Lib.strCells s=Lib.byteCells (l++s.data.toList):=by
 rw[GQ];unfold Lib.byteCells;rw[s_]
theorem OD (w:yM) (l:List UInt8) (s:yB) (h:Ln B g eA n ec mb w l) (hl:l+s.size<=140737488355328) :
  Calls prog 42 #[.pointer (some (g,2)),s] w fun e w'=>e=.returned (.tuple #[s.size,.nilIface])/\Ln B g eA n ec mb w' (l++s.data.toList)/\vP g w w':=by
 obtain⟨i0,hi,ag,af,ae⟩:=info_parts Mk;have R:(l++s.data.toList).length=l+s.size:=by rw[mo,Rp]
 have hg:=h.hg;have HC:=iB (Pe w l h);go_in;go_wp2_with (go_at_call 80;refine HC.mono ?_)
 rintro e w1 ⟨rfl,s1,a1,A,c,hb,ho,ar,hz⟩;replace hz:=iB hz;have c3:w1.cell? (g,3)=(A,l,c):=by rw[hb.cell];rfl
 have aq:=hb.lt;have HB:=iB hb;have HO:=iB ho;go_wp2_with (at_builtin;refine zq rfl _ _ 50 9 rfl (g+1) 5 i0 underlying50 underlying9 hi ag af ae _ _ _ rfl HO s rfl hl (by omega) ?_)
 intro v2 w2 a_ j ah U;replace U:=iB U;have aj:∀k,Value.ownBlock (.slice A l c)=some k->k≠g:=fun k o e=>by have:=HO.lt k o;omega
 have J:iP w2 g 54 #[(eA,n,ec),.map (some mb),.pointer (some (g,2)),(A,l,c)]:=HB.grown j (fun e=>aj g e.symm rfl);have f3:=J.frozen 3;have ao:=J.lt;have e3:w2.cell? (g,3)=(A,l,c):=by rw[J.cell];rfl
 obtain⟨A2,c2,rfl,_,_⟩:=ji a_;have an:=iB J;have ad:=iB a_;have a7:=j.size;go_wp2_with fail;have ab:=an.jx 3 (.slice A2 (l+s.size) c2);have I:rR w1 g=Value.ownBlock (.slice A l c):=by unfold rR;rw[c3];rfl
 have a6:rR (w2.setCell (g,3) (.slice A2 (l+s.size) c2)) g=Value.ownBlock (.slice A2 (l+s.size) c2):=by unfold rR;rw[ab.cell];rfl
 refine jR (v:=.tuple #[s.size,.nilIface]) (by simp[results,results42,go_sem]) rfl ⟨rfl,⟨?_,hg,some (g,2),A2,c2,.inr rfl,?_,?_,?_⟩,?_⟩
 ·refine pQ (h:=?_) (k:=⟨hg⟩) _ _
  exact⟨j.os.trans a1.below.os,j.tape.trans a1.below.tape,j.output.trans a1.below.output,jW a1.below.size a7,fun k o=>(j.block k (rO o a1.below.size) (fun e=>by have:=HO.lt k e.symm;omega)).trans (a1.below.block k o)⟩
 ·rw[R]
  exact ab
 ·rw[R,<- Dm]
  refine ad.kept (row:=some g) ⟨rfl,rfl,rfl,by simp[World.setCell],fun k _ o=>Below.heap_setCell _ _ _ _ (fun e=>o (by simp[e]))⟩ ?_;cases hv:Value.ownBlock (.slice A2 (l.length+s.size) c2) with
  |none=>exact .inl rfl
  |some k=>exact .inr (by have:=ad.lt k hv;intro e;injection e with e;omega)
 ·intro a'
  obtain⟨aa,a8⟩:=List.append_eq_nil_iff.1 a';obtain⟨rfl,rfl⟩:=hz aa;have ai:s=ByteArray.empty:=by cases s;simp at a8;subst a8;rfl
  have h9:=U rfl aa rfl ai;simp only[Value.slice.injEq]at h9;exact⟨h9.1,h9.2.2⟩
 refine s1.trans ⟨j.os,j.tape,j.output,by simpa[World.setCell] using a7,fun k o ak al=>?_,fun k o=>?_⟩
 ·exact (Below.heap_setCell w2 ⟨g,3,none⟩ _ k ak).trans (j.block k o fun e=>al (by rw[I];exact e.symm))
 rw[a6]at o;rw[I];rcases ah with e | e
 ·exact .inl (e▸o)
 rw[e]at o;injection o with o;exact .inr iu
end
def rL (k:Nat) (P:List Pc):List Pc:=List.replicate (2*k) (.sp 32)++(P++[.sp 10])
theorem KR (k:Nat):iY (List.replicate (2*k) (.sp 32))=Lib.repeatL [32,32] k:=by
 induction k with
 |zero=>rfl
 |succ k ih=>
 rw[show 2*(k+1)=2*k+1+1 by omega,L6,L6,jn,jn,ih];rfl
theorem KB (k:Nat) (P:List Pc):iY (rL k P)=Lib.repeatL [32,32] k++iY P++[10]:=by
 unfold rL;rw[iC,iC,KR,jn,ja,kD]
theorem Pb (k:Nat):(Lib.repeatL [32,32] k:List UInt8).length=2*k:=by
 rw[<- KR];induction k with
 |zero=>rfl
 |succ k ih=>rw[show 2*(k+1)=2*k+1+1 by omega,L6,L6,jn,jn,py,py,ih]
section
variable {B:yM} {g:Nat} {eA:zA} {n ec mb:Nat}
theorem rE (w:yM) (l:List UInt8) (k:Nat) (P:List Pc) (h:Ln B g eA n ec mb w l) (hk:k<=1000) (hl:l.length+(iY (rL k P)).length<=140737488355328) :
  Calls prog 17 #[.pointer (some g),k,(lG (iY P))] w fun e w'=>e=.returned (.tuple #[])/\Ln B g eA n ec mb w' (l++iY (rL k P))/\vP g w w':=by
 rw[KB]at hl⊢;simp only[mo,xH]at hl;generalize iY P=x at hl⊢;obtain⟨S1,e1,g1⟩:=jh (A:=⟨(Lib.repeatL [32,32] k).toArray⟩) (a:=Lib.repeatL [32,32] k) (B:=lG x) rfl rfl iu;obtain⟨I,e2,g2⟩:=jh (B:=⟨#[10]⟩) (b:=[10]) e1 rfl (by simp;omega);have HR:=iy (fun U=>strings_Repeat ⟨#[32,32]⟩ k U iu (by rw[show (⟨#[32,32]⟩:yB).size=2 from rfl];omega));have HW:Hid (∀U,ik w U->Calls prog 42 #[.pointer (some (g,2)),I] U fun e w'=>e=.returned (.tuple #[I.size,.nilIface])/\Ln B g eA n ec mb w' (l++(Lib.repeatL [32,32] k++x++[10]))/\vP g U w'):=iy fun U o=>by
  have:=OD U l I (h.after o) (by rw[e2,yK];simp;omega);rw[show I.data.toList=Lib.repeatL [32,32] k++x++[10] from by rw[e2,Cd]]at this;exact this
 have J:=h.lt;clear hl e1 e2 h;go_in;go_wp2_with fail;refine jm (fun U:yM=>True) [8] kp ?_;have j:(fun U:yM=>True) w.drew:=trivial;refine nZ 0 [1,2,8] (.pointer (some g)) rfl kp kp kp kp kp kp (fun _ _ _ h=>h) (Or.inl ⟨by rfl,?_⟩) j ?_
 ·intro U o;go_simp
 refine nZ 1 [2,8] (.pointer (some g)) rfl kp kp kp kp kp kp (fun _ _ _ h=>h) (Or.inl ⟨by rfl,?_⟩) j ?_
 ·intro U o;go_simp
 refine nZ 2 [8] (.pointer (some (g,2))) rfl kp kp kp kp kp kp (fun _ _ _ h=>h) (Or.inl ⟨by rfl,?_⟩) j ?_
 ·intro U o;go_simp
 refine nZ 3 [4,8] (.int .i64 k) rfl kp kp kp kp kp kp (fun _ _ _ h=>h) (Or.inl ⟨by rfl,?_⟩) j ?_
 ·intro U o;go_simp
 refine nZ 5 [6,7,8] (.string (lG x)) rfl kp kp kp kp kp kp (fun _ _ _ h=>h) (Or.inl ⟨by rfl,?_⟩) j ?_
 ·intro U o;go_simp
 clear j;refine lH 4 ?_;go_simp;go_at_call 43;refine (HR _).mono ?_;rintro e w1 ⟨rfl,R⟩;have a1:=ij (iR:ik w w.drew) ⟨R⟩;dsimp only;refine lH 6 ?_;go_simp;refine lH 7 ?_;go_simp;refine lH 8 ?_;go_simp;go_at_call 42;refine (HW w1 a1).mono ?_;rintro e w2 ⟨rfl,hL,hs⟩;dsimp only;refine iT kp ?_ _;go_wp2;go_end0;exact⟨rfl,hL,(vP.rJ a1 J).trans hs⟩
end
structure WB (B:yM) (eA:zA) (ec:Nat) (el:List iW) (mb:Nat):Prop where
 sh:ID B eA ec el
 sy:uH B mb 14 GG
 tg:mL el
 nm:pB el
def tG (B:yM) (g:Nat) (eA:zA) (n ec mb:Nat) (f:Nat) (args:zO) (P:List Pc):Prop:=
 ∀(w:yM) (l:List UInt8),Ln B g eA n ec mb w l->l.length+(iY P).length<=140737488355328 ->
  Calls prog f (.pointer (some g)::args).toArray w fun e w'=>e=.returned (.tuple #[])/\Ln B g eA n ec mb w' (l++iY P)/\vP g w w'
def nr (el:List iW) (k:Nat) (l:List iO):List Pc:=if l.length=0 then [] else rL k (mB [118,97,114]::.sp 32::(kO el l++[mf [59]]))
section
variable {B:yM} {g:Nat} {eA:zA} {ec mb:Nat} {el:List iW}
theorem ur {n:Nat} {w:yM} {l:List UInt8} (h:Ln B g eA n ec mb w l) (k:Nat) (hk:k<=1000) (P:List Pc) {S:yB} (hS:S=lG (iY P)) (hl:l.length+(iY (rL k P)).length<=140737488355328) :
  Hid (∀U,ik w U->Calls prog 17 #[.pointer (some g),k,S] U fun e w'=>e=.returned (.tuple #[])/\Ln B g eA n ec mb w' (l++iY (rL k P))/\vP g w w'):=by
 subst hS;refine iy fun U j=>(rE U l k P (h.after j) hk hl).mono ?_
 rintro e w' ⟨J,I,o⟩;exact⟨J,I,(vP.rJ j h.lt).trans o⟩
theorem BP (hB:WB B eA ec el mb) {A:zA} {c:Nat} {d:List iO} {port:Bool} (hR:ir 3 jG B ⟨A,c,d⟩) (hE:nN el port d=0) (h4:d.length<=1000) (k:Nat) (hk:k<=1000) :
  tG B g eA el ec mb 46 [k,(A,d,c)] (nr el k d):=by
 intro w l h j;show Calls prog _ #[.pointer g,k,(A,d,c)] w _
 unfold nr at j⊢;by_cases o:d.length=0
 ·rw[iG o,o,ja,oV]
  have HH:=iB h;clear hB hR hE h4 j h o;go_in;go_wp2;go_end0;exact⟨rfl,HH.out,vP.refl _ _⟩
 rw[iV o]at j⊢;have I:=qC hB.tg hB.nm hE h4;obtain⟨c0,c1⟩:=h.cells;have HD:=iB (fun U (hU:ik w U)=>Al (mb:=mb) hB.sh hB.tg hB.nm hR hE h4 U (ij h.aft hU));obtain⟨S1,e1,g1⟩:=jh (A:=⟨#[118,97,114,32]⟩) (a:=[118,97,114,32]) (B:=lG (iY (kO el d))) rfl rfl (by simp;omega);obtain⟨S2,R,g2⟩:=jh (B:=⟨#[59]⟩) (b:=[59]) e1 rfl (by simp;omega);have HA:=ur h k hk (mB [118,97,114]::.sp 32::(kO el d++[mf [59]])) (S:=S2) (by rw[R,kH,jn,iC,jl,ja];simp) j;generalize lG (iY (kO el d))=J at HD g1;generalize d=n9 at *
 have a1:(0:Int)<(n9:Int):=iu;clear hB hR hE h4 j h o I e1 R;go_in;go_wp2_with fail;refine (HD.out _ iR).mono ?_;rintro e w' ⟨rfl,y,rfl⟩;go_wp2_with fail;refine (HA.out _ iR).mono ?_;rintro e w2 ⟨rfl,hL,hs⟩;go_wp2;go_end0;exact⟨rfl,hL,hs⟩
end
section
variable {P:Program} {ops:Array Oper} {md:Region.Mode} {C:yM->Prop}
def wI (P:Program) (md:Region.Mode) (ops:Array Oper) (C:yM->Prop) (n:Nat) (L:Array Bool->Act->Prop):Nat->Array Bool->Act->Prop
 |0,t,a=>L t a
 |m+1,t,a=>Region.ready md ops t≠[]/\∀k∈Region.ready md ops t,k<n/\qOp P ops C k (wI P md ops C n L m (t.setIfInBounds k true)) a
theorem wI.any {n g:Nat} {L:Array Bool->Act->Prop} {Q:Exit->Act->yM->Prop} (hL:∀t a w,C w->L t a->wpAny P md ops Q g t a w) :
  ∀(m:Nat) (t:Array Bool) (a:Act) (w:yM),C w->wI P md ops C n L m t a->wpAny P md ops Q (m+g) t a w:=by
 intro m;induction m with
 |zero=>intro t a w o h;rw[t_];exact hL t a w o h
 |succ m ih=>
 intro t a w o h;rw[show m+1+g=(m+g)+1 by omega];exact⟨fun R=>absurd R h.1,fun k J=>wpOp_of_qOp o (fun a' I j U=>ih _ a' I j U) (h.2 k J).2⟩
theorem wI.first {n i:Nat} {oi:Oper} {v:Value} {L:Array Bool->Act->Prop} (hi:ops[i]?=some oi) (hsel:∀(j:Nat) (o:Oper) cs b,ops[j]?=some o->o.op≠.select cs b)
  (hs:Region.sinkB md ops n=true) (hc:Region.chainB md ops n=true) (hn:n<ops.size) (hin:i<n) (hdone:∀t a,L t a->∀j∈Region.ready md ops t,n<=j) :
  ∀(m:Nat) (t:Array Bool) (a:Act),HeadInv md ops n t ->
   (∀j oj,ops[j]?=some oj->j≠i->t.getD j true=false->(∀e∈oj.after,Region.binds md e=true->e.on≠i)->oi.apart ops oj=true) ->
   i∈Region.ready md ops t->YieldsIn P ops C oi v a ->
   wI P md ops C n L m (t.setIfInBounds i true) (a.put oi.dst v)->wI P md ops C n L (m+1) t a:=by
 intro m;induction m with
 |zero=>
  intro t a a1 _ hr hy H;have a6:=(mem_ready.1 hr).1;have R:∀j∈Region.ready md ops t,j<n:=fun j J=>by
   rcases qa j n with h | h
   ·exact h
   exact absurd J (tail_waits hs hc hn a1 _ i rfl hin a6 j h)
  refine⟨fun h=>(by rw[h]at hr;cases hr),fun j J=>⟨R j J,?_⟩⟩;by_cases I:j=i
  ·subst I;exact hy.qOp hi H
  have h1:=hdone _ _ H j (ready_mono J I);have h2:=R j J;omega
 |succ m ih=>
 intro t a a1 U hr hy H;have a6:=(mem_ready.1 hr).1;have R:∀j∈Region.ready md ops t,j<n:=fun j J=>by
  rcases qa j n with h | h
  ·exact h
  exact absurd J (tail_waits hs hc hn a1 _ i rfl hin a6 j h)
 refine⟨fun h=>(by rw[h]at hr;cases hr),fun j J=>⟨R j J,?_⟩⟩;by_cases I:j=i
 ·subst I;exact hy.qOp hi H
 have h1:=(H.2 j (ready_mono J I)).2;obtain⟨a8,oj,a_,ad⟩:=mem_ready.1 J;have aa:∀e∈oj.after,Region.binds md e=true->e.on≠i:=fun e he hb ag=>by
  have h3:=ad e he hb;rw[ag,getD_both a6]at h3;cases h3
 have h2:=qOp_put a_ (U j oj a_ I a8 aa) (fun cs b=>hsel i oi cs b hi) (fun cs b=>hsel j oj cs b a_) hy h1;have a7:∀k ok,ops[k]?=some ok->k≠i->(t.setIfInBounds j true).getD k true=false ->
   (∀e∈ok.after,Region.binds md e=true->e.on≠i)->oi.apart ops ok=true:=fun k ok hk af hu ae=>by
  refine U k ok hk af ?_ ae;by_cases ab:j=k
  ·subst ab;exact a8
  rw[getD_set_ne true ab]at hu;exact hu
 refine qOp_mono (fun a' h3=>ih (t.setIfInBounds j true) a' (a1.set J (R j J)) a7 (ready_mono hr (ls I)) h3.1 ?_) h2;rw[Array.setIfInBounds_comm _ _ I];exact h3.2
theorem wI.lex {n g:Nat} {Lq:Act->Prop} (hsel:Region.noSelect ops=true) (hs:Region.sinkB md ops n=true) (hc:Region.chainB md ops n=true) (hn:n<ops.size) :
  ∀(l:List Oper) (k:Nat) (t:Array Bool) (a:Act),(∀j,j<l.length->l[j]?=ops[k+j]?)->k+l=n->HeadInv md ops n t ->
  Region.lexHead md ops g l k t=true->wpQuiet P ops C Lq l a ->
  wI P md ops C n (fun t' a'=>Region.seqB md ops g n t'=true/\Lq a') l.length t a:=by
 intro l;induction l with
 |nil=>
  intro k t a _ U _ hB h;have:k=n:=by simpa using U
  subst this;exact⟨by simpa[Region.lexHead] using hB,h⟩
 |cons o l ih=>
 intro k t a hl U I hB h;have h0:ops[k]?=some o:=by simpa using (hl 0 (by simp)).symm
 simp only[py,Region.lexHead,mT]at hB;obtain⟨⟨hr,hf⟩,a6⟩:=hB;have R:k<n:=by simp only[py]at U;omega
 have J:k∈Region.ready md ops t:=by simpa using hr
 have a1:qOp P ops C k (wpQuiet P ops C Lq l) a:=by unfold qOp;simp only[h0];exact h
 obtain⟨v,hy,hK⟩:=yieldsIn_of_qOp h0 a1;exact wI.first h0 (Region.noSelect_spec hsel) hs hc hn R (fun t' a' hL=>seqB_ready hL.1) l.length t a I (Region.free_spec h0 hf) J hy
  (ih (k+1) _ _ (fun j hj=>by have:=hl (j+1) (by simp;omega);simpa[CL,Nat.add_comm 1 j] using this) (by simp only[py]at U;omega) (I.set J R) a6 hK)
theorem xe {id:Nat} {Q:Exit->Act->yM->Prop} {a:Act} {w:yM} {l:List Oper} (n:Nat) (hm:P.follows .mixedOrders=true) (hB:Region.lexTailB .any l.toArray n=true) (hC:C { w with drawn:=w.drawn+1 })
  (h:wpQuiet P l.toArray C (fun a'=>∀w',C w'->wpList P l.toArray Q (l.drop n) a' w') (l.take n) a):(Code.region id l.toArray true).wp P Q a w:=by
 simp only[Region.lexTailB,mT,decide_eq_true_eq]at hB;obtain⟨⟨⟨⟨J,hn⟩,hs⟩,hc⟩,R⟩:=hB;have a7:n<l:=by simpa using hn
 have o:(l.take n).length=n:=by simp;omega
 have U:(l.drop n).length=l.toArray.size-n:=by simp
 have I:HeadInv .any l.toArray n (Array.replicate l.toArray.size false):=
  ⟨by simp,fun j oj _ hl=>(by rw[getD_replicate_false]at hl;cases hl),fun t _ ht=>getD_in (by simpa using ht) (getD_replicate_false _ _)⟩
 have H:=wI.lex (md:=.any) (g:=l.toArray.size-n) J hs hc hn (l.take n) 0 _ a (fun j hj=>by
  have a6:j<n:=by rw[o]at hj;exact hj
  simp[a6]) (by simpa using o) I (by rw[o];exact R) h
 refine wp_region_any hm ?_;have:=wI.any (Q:=Q) (g:=l.toArray.size-n) (fun t a' w' a1 hL=>by
  have:=wpAny_of_seq (md:=.any) (Q':=Q) (l.drop n) n t a' w' (fun j=>by simp[List.getElem?_drop]) (by rw[U];exact hL.1) (hL.2 w' a1);rwa [U]at this) _ _ _ _ hC H
 rw[o,show n+(l.toArray.size-n)=l.toArray.size by omega]at this;exact this
end
theorem jf {P:Program} {id:Nat} {Q:Exit->Act->yM->Prop} {a:Act} {w:yM} {l:List Oper} (n:Nat) (hm:P.follows .mixedOrders=true) (hB:Region.lexTailB .any l.toArray n=true)
  (h:wpQuiet P l.toArray (fun w'=>∃y,w'=w.more y) (fun a'=>∀w',(∃y,w'=w.more y)->wpList P l.toArray Q (l.drop n) a' w') (l.take n) a):(Code.region id l.toArray true).wp P Q a w:=
 xe (C:=fun w'=>∃y,w'=w.more y) n hm hB (jP w w.drew) h
abbrev Iq:=@vP.refl
abbrev D_:=@vP.rJ
theorem ui {α:Type} (f:α->List Pc) {l:List α} {j:Nat} {x:α} (h:l[j]?=some x):iY ((l.take (j+1)).flatMap f)=iY ((l.take j).flatMap f)++iY (f x):=by
 obtain⟨o,I⟩:=rq.1 h;rw[IX o,I,Fa,iC];simp
theorem AK {α:Type} (f:α->List Pc) (l:List α) (j:Nat):(iY ((l.take j).flatMap f)).length<=(iY (l.flatMap f)).length:=by
 have h:l.flatMap f=(l.take j).flatMap f++(l.drop j).flatMap f:=by rw[<- Fa,Gv]
 rw[h,iC,mo];omega
def Aj (b:Bool):Pc:=if b then mB [99,111,110,116,105,110,117,101] else mB [116,104,101,110]
def On (el:List iW) (k:Nat) (wd:List UInt8) (nms:List yB) (t:ma):List Pc:=
 rL k (mB wd::.sp 32::(kX el t.cond.er++.sp 32::Aj t.res::.sp 32::rM (nms.getD t.dst.toNat ⟨#[]⟩)::[mf [59]]))
def sk (el:List iW) (k:Nat) (wd:List UInt8) (nms:List yB) (l:List ma):List Pc:=l.flatMap (On el k wd nms)
section
variable {B:yM} {g:Nat} {eA:zA} {ec mb:Nat} {el:List iW}
theorem Es (hB:WB B eA ec el mb) {A:zA} {c:Nat} {tl:List ma} (hR:ir 8 (Eo True) B ⟨A,c,tl⟩) {sA:zA} {sc:Nat} {sts:List StT} (hSt:ir 6 (OZ True) B ⟨sA,sc,sts⟩)
  (hE:∀t∈tl,qk el t.cond=0/\0<=t.dst/\t.dst<(sts:Int)) (hn:∀x∈sts,x.name.size<=40) (wd:List UInt8) (hwd:wd.length<=100) (k:Nat) (hk:k<=1000) :
  tG B g eA el ec mb 134 [k,(lG wd),.agg #[(sA,sts,sc)],(A,tl,c)] (sk el k wd (sts.map StT.name) tl):=by
 intro w l h hl;show Calls prog _ #[.pointer g,k,(lG wd),.agg #[(sA,sts,sc)],(A,tl,c)] w _
 have az:=hR.len;have aw:=hSt.len;simp only[]at az aw;obtain⟨TP,ad⟩:=jt (sk el k wd (sts.map StT.name) tl);have aB:=iy ad;have HH:=iy h;have HL:=iy hl;rw[ad];have aG:Le (g+1) w:=⟨h.lt⟩;clear h hl ad;go_in;go_wp2_with fail;obtain⟨W1,ab,af⟩:∃W1,W1=w.alloc (.cells #[(sA,sts,sc)] 131)/\ik w W1:=⟨_,rfl,iR⟩;have av:Hid (iP W1 w 131 #[(sA,sts,sc)]):=by show iP _ _ _ _;rw[ab];exact jC _ _ _
 have aC:=iy (HH.loc af (js _) av.lt);rw[<- ab];go_loopw [15] (fun i wr=>∃j:Nat,j<=tl.length/\i=.int .i64 j/\Hid (Ln B g eA el ec mb wr (l++iY (sk el k wd (sts.map StT.name) (tl.take j))))/\Hid (vP g W1 wr)) (fun i _=>tl.length-(intOf i).toNat)
 ·exact⟨0,iu,rfl,by show Ln _ _ _ _ _ _ _ _;rw[rP];show Ln _ _ _ _ _ _ _ (l++[]);rw[oV];exact HH.after af,Iq _ _⟩
 case round=>
 obtain⟨j,hj,rfl,HN,HS⟩:=hrel;have aa:=aC.blk HS av;have cb:=aa.cell 0;have lb:Le (w+1) wr:=⟨aa.lt⟩;have lg:Le (g+1) wr:=⟨HN.lt⟩;obtain⟨c0,c1⟩:=HN.cells;clear aa ab;simp only[List.getElem?_toArray,List.getElem?_cons_zero]at cb;by_cases ay:j<tl
 ·obtain⟨b,p,t,ar,aF,HY,R⟩:=(hR.trs wr (k:=HN.aft)).part (i:=j) ay
  simp only[]at ar;subst ar;have aA:(j:Int)<(tl:Int):=iu;obtain⟨al,ak,aj⟩:=hE t (om HY);obtain⟨b9,o9,ao⟩:=hR.elem HY;obtain⟨a8,I⟩:=vh (mb:=mb) hB.sh hB.sy hB.tg ao.co al;have a':=ui (l:=tl) (On el k wd (sts.map StT.name)) HY;have a1:=AK (On el k wd (sts.map StT.name)) tl (j+1);obtain⟨⟨kk,oo,tt,vv,ss,AA,cc,xs⟩,dst,a7⟩:=t;simp only[]at ak aj a8 I;obtain⟨m,rfl⟩:∃m:Nat,dst=m:=⟨dst.toNat,iu⟩;obtain⟨bs,ps,st,aq,aE,ag,an⟩:=(hSt.sts wr (k:=HN.aft)).part (i:=m) (by show m<sts.length;omega);simp only[]at aq;subst aq;have ah:=hn st (om ag);have ax:(m:Int)<(sts:Int):=iu;have s0:=an.1.c0;have f0:=R.six.c0;have f1:=R.six.c1;have f2:=R.six.c2;have f3:=R.six.c3;have f4:=R.six.c4;have f5:=R.six.c5;have f6:=R.c6;have f7:=R.c7;simp only[txs]at f0 f1 f2 f3 f4 f5 f6 f7;have J:(sts.map StT.name).getD m ⟨#[]⟩=st.name:=by rw[wC,JL,ag.out];rfl
  have aH:=jr st.name;obtain⟨x,o⟩:=jt (iY (kX el (Tx.mk kk oo tt vv ss AA cc xs).er));have HE:Hid (∀U,ik wr U->Calls prog 47 #[.agg #[(eA,el,ec),.map (some mb)],.agg #[kk,oo,tt,vv,ss,(AA,xs,cc)]] U fun e w'=>e=.returned (.string (lG x))/\∃z,w'=U.more z):=iB fun U hU=>by
   have:=a8 U (ij HN.aft hU);rwa [o]at this
  rw[o]at I;have a6:Hid (l+(iY (sk el k wd (sts.map StT.name) (tl.take j))).length+(iY (On el k wd (sts.map StT.name) ⟨Tx.mk kk oo tt vv ss AA cc xs,(m:Int),a7⟩)).length<=140737488355328):=by
   show _<=_
   have h1:=HL.out;rw[a',mo]at a1;unfold sk at h1⊢;omega
  have au:Hid (l++iY (sk el k wd (sts.map StT.name) (tl.take (j+1)))=l++iY (sk el k wd (sts.map StT.name) (tl.take j))++iY (On el k wd (sts.map StT.name) ⟨Tx.mk kk oo tt vv ss AA cc xs,(m:Int),a7⟩)):=by
   show _=_
   unfold sk;rw[a',kD]
  clear a' a1 HY ag R an ao a8 al ak aj;have dn:=ax;cases a7 with
  |true=>
   obtain⟨S1,e1,g1⟩:=jh (A:=lG wd) (B:=⟨#[32]⟩) (b:=[32]) rfl rfl (by simp;omega);obtain⟨S2,e2,g2⟩:=jh (B:=lG x) e1 rfl (by simp;omega);obtain⟨S3,e3,g3⟩:=jh (B:=⟨#[32,99,111,110,116,105,110,117,101,32]⟩) (b:=[32,99,111,110,116,105,110,117,101,32]) e2 rfl (by simp;omega);obtain⟨S4,e4,g4⟩:=jh (B:=st.name) e3 (qd st.name).symm (by simp;omega);obtain⟨S5,e5,g5⟩:=jh (B:=⟨#[59]⟩) (b:=[59]) e4 rfl (by simp;omega);have HA:=ur HN k hk (mB wd::.sp 32::(kX el (Tx.mk kk oo tt vv ss AA cc xs).er++.sp 32::Aj true::.sp 32::rM (((sts.map StT.name).getD m ⟨#[]⟩))::[mf [59]])) (S:=S5)
    (by rw[e5,J,kH,jn,iC,o,jn,show Aj true=mB [99,111,110,116,105,110,117,101] from rfl,kH,jn,lQ,jl,ja];simp) (by rw[mo];exact a6.out)
   clear hR hSt hE hn o I e1 e2 e3 e4 e5 hB J ah;go_wp2_with fail;refine jf 23 (by kernel_rfl) (by kernel_rfl) ?_;simp only[sD,rP,uB,sS];repeat (go_big_quiet_step ((go_at_call 47;with_reducible exact mR (HE.out _ zc))))
   refine wpQuiet_nil ?_;rintro _ ⟨y_,rfl⟩;go_wp2_with fail;refine (HA _ zc).mono ?_;rintro e w2 ⟨rfl,ae,a_⟩;go_wp2;go_roundw
   case rel=>exact⟨j+1,by omega,by go_num,by show Ln _ _ _ _ _ _ _ _;rw[au.out];exact ae,HS.trans a_⟩
   case measure=>simp[intOf];omega
  |false=>
  obtain⟨S1,e1,g1⟩:=jh (A:=lG wd) (B:=⟨#[32]⟩) (b:=[32]) rfl rfl (by simp;omega);obtain⟨S2,e2,g2⟩:=jh (B:=lG x) e1 rfl (by simp;omega);obtain⟨S3,e3,g3⟩:=jh (B:=⟨#[32,116,104,101,110,32]⟩) (b:=[32,116,104,101,110,32]) e2 rfl (by simp;omega);obtain⟨S4,e4,g4⟩:=jh (B:=st.name) e3 (qd st.name).symm (by simp;omega);obtain⟨S5,e5,g5⟩:=jh (B:=⟨#[59]⟩) (b:=[59]) e4 rfl (by simp;omega);have HA:=ur HN k hk (mB wd::.sp 32::(kX el (Tx.mk kk oo tt vv ss AA cc xs).er++.sp 32::Aj false::.sp 32::rM (((sts.map StT.name).getD m ⟨#[]⟩))::[mf [59]])) (S:=S5)
   (by rw[e5,J,kH,jn,iC,o,jn,show Aj false=mB [116,104,101,110] from rfl,kH,jn,lQ,jl,ja];simp) (by rw[mo];exact a6.out)
  clear hR hSt hE hn o I e1 e2 e3 e4 e5 hB J ah;go_wp2_with fail;refine jf 23 kp kp ?_;simp only[sD,rP,uB,sS];repeat (go_big_quiet_step ((go_at_call 47;with_reducible exact mR (HE.out _ iR))))
  refine wpQuiet_nil ?_;rintro _ ⟨y_,rfl⟩;go_wp2_with fail;refine (HA _ iR).mono ?_;rintro e w2 ⟨rfl,ae,a_⟩;go_wp2;go_roundw
  case rel=>exact⟨j+1,iu,by go_num,by show Ln _ _ _ _ _ _ _ _;rw[au.out];exact ae,HS.trans a_⟩
  case measure=>simp[intOf];omega
 obtain rfl:j=tl:=iu;have aA:¬((tl:Int)<(tl:Int)):=iu;have ai:=HN.out;rw[pf,aB.out]at ai;have aD:=iy ai;go_wp2;go_end0;exact⟨rfl,aD,(D_ af (by exact HH.lt)).trans HS⟩
end
def Bo (l:List yB):List Pc:=mq qR (l.map fun s=>[rM s])
def vU (l:List yB):List Pc:=if 1<l.length then mf [40]::(Bo l++[mf [41]]) else Bo l
def zj (el:List iW) (k:Nat) (q:oX):List Pc:=rL k (vU q.left.l++.sp 32::mf [61]::.sp 32::(kX el q.right.er++[mf [59]]))
mutual
def CN (el:List iW) (k:Nat):AuT->List Pc
 |.mk _ _ l=>rL k [mB [97,117,116,111,109,97,116,111,110]]++wi el k (l.map StT.name) l++rL k [mB [101,110,100]]
def vN (el:List iW) (k:Nat):List AuT->List Pc
 |[]=>[]
 |a::l=>CN el k a++vN el k l
def IC (el:List iW) (k:Nat) (nms:List yB):StT->List Pc
 |.mk nm lo eq _ _ au ul ut=>rL (k+1) [mB [115,116,97,116,101],.sp 32,rM nm]++(nr el (k+2) lo.l++(sk el (k+2) [117,110,108,101,115,115] nms ul.l++(rL (k+1) [mB [100,111]]++((eq.l.flatMap (zj el (k+2))++vN el (k+2) au)++(sk el (k+2) [117,110,116,105,108] nms ut.l++rL (k+1) [mB [100,111,110,101]])))))
def wi (el:List iW) (k:Nat) (nms:List yB):List StT->List Pc
 |[]=>[]
 |x::l=>IC el k nms x++wi el k nms l
end
theorem J' (el:List iW) (k:Nat):∀l:List AuT,vN el k l=l.flatMap (CN el k)
 |[]=>by rw[vN];rfl
 |a::l=>by rw[vN,pZ,J' el k l]
theorem KA (el:List iW) (k:Nat) (nms:List yB):∀l:List StT,wi el k nms l=l.flatMap (IC el k nms)
 |[]=>by rw[wi];rfl
 |a::l=>by rw[wi,pZ,KA el k nms l]
def qJ (el:List iW) (k:Nat) (eqs:List oX) (au:List AuT):List Pc:=eqs.flatMap (zj el k)++vN el k au
theorem Ey (l:List yB):Lib.join (l.map (·.data.toList)) (iY qR)=iY (Bo l):=by
 unfold Bo;rw[wV,xZ];congr 1;exact IL fun a _=>by show _=iY [rM a];rw[lQ,ja,oV]
theorem qi.Oi {w:yM} {A:zA} {c:Nat} {l:List yB} (h:ir 1 sR w ⟨A,c,l⟩):qi w A c l:=by
 refine⟨h.le,h.len,?_⟩;rcases h.cells with e | ⟨b,p,e,hlt,hc⟩
 ·exact .inl e
 exact .inr ⟨b,p,e,hlt,fun j s o=>by have:=(hc j s o).1;rwa [yr]at this⟩
theorem nS {s:yB} (h:jA s=0):kT s=true:=nJ iI h
theorem KL {l:List yB} (h:iw jA l=0) (h4:l.length<=1000):(iY (Bo l)).length<=42000:=by
 have J:(iY (Bo l)).length<=(l.map fun s=>[rM s]).length*(40+2):=za (by decide) fun x j=>by
  obtain⟨o,I,rfl⟩:=yQ.1 j;have:=jM (nS (jd h o I));rw[lQ,ja,oV,jr];omega
 rw[pE]at J;omega
theorem Fz {el:List iW} {q:oX} (h:rN el q=0):0<q.left.l.length/\q.left.l.length<=64/\iw jA q.left.l=0/\qk el q.right=0/\(q.left.l.length=1\/q.right.kind=10):=by
 unfold rN at h;obtain⟨I,h⟩:=jI h;obtain⟨o,h⟩:=jI h;obtain⟨R,h⟩:=jI h;obtain⟨J,j⟩:=jI h;have I:=nJ iI I;have o:=nJ iI o;have j:=nJ iI j;simp only[decide_eq_true_eq,uG,beq_iff_eq]at I o j;exact⟨iu,iu,R,J,j.imp (fun e=>by omega) id⟩
section
variable {B:yM} {g:Nat} {eA:zA} {ec mb:Nat} {el:List iW}
theorem Hu (hB:WB B eA ec el mb) {A:Option Addr} {c:Nat} {ql:List oX} (hR:ir 7 (xv True) B ⟨A,c,ql⟩) (hE:iw (rN el) ql=0) {A2:Option Addr} {c2:Nat} {al:List AuT} (hR2:ir 1 (xM True) B ⟨A2,c2,al⟩) (k:Nat) (hk:k<=1000)
  (hA:∀a∈al,tG B g eA el.length ec mb 93 [k,.agg #[.slice a.ad a.states.length a.cap]] (CN el k a)) :
  tG B g eA el.length ec mb 48 [k,(A,ql,c),(A2,al,c2)] (qJ el k ql al):=by
 intro w l h hl;show Calls prog _ #[.pointer g,k,(A,ql,c),(A2,al,c2)] w _
 have av:=hR.len;have ax:=hR2.len;simp only[]at av ax;have HF:=iy (show iY (qJ el k ql al)=iY (ql.flatMap (zj el k))++iY (al.flatMap (CN el k)) from by unfold qJ;rw[iC,J']);rw[HF.out,mo]at hl;obtain⟨TP,af⟩:=jt (qJ el k ql al);have az:=iy af;have HH:=iy h;have HL:=iy hl;rw[af];clear h hl af;go_in;go_wp2_with fail;go_loopw [15] (fun i wr=>∃j:Nat,j<=ql.length/\i=.int .i64 j/\Hid (Ln B g eA el.length ec mb wr (l++iY ((ql.take j).flatMap (zj el k))))/\Hid (vP g w wr)) (fun i _=>ql.length-(intOf i).toNat)
 ·exact⟨0,iu,rfl,by show Ln _ _ _ _ _ _ _ _;rw[rP];show Ln _ _ _ _ _ _ _ (l++[]);rw[oV];exact HH,Iq _ _⟩
 case round=>
 obtain⟨j,hj,rfl,HN,HS⟩:=hrel;have lg:Le (g+1) wr:=⟨HN.lt⟩;obtain⟨c0,c1⟩:=HN.cells;by_cases au:j<ql.length
 ·obtain⟨b,p,t,a8,ak,HY,hP⟩:=(hR.eqs wr (k:=HN.aft)).part (i:=j) au
  simp only[]at a8;subst a8;have aw:(j:Int)<(ql:Int):=by omega
  have ai:=jd hE t (om HY);obtain⟨q1,q2,q3,q4,q5⟩:=Fz ai;obtain⟨b9,o9,ao⟩:=hR.elem HY;obtain⟨aa,a_⟩:=vh (mb:=mb) hB.sh hB.sy hB.tg ao.ri q4;have R:=ui (l:=ql) (zj el k) HY;have o:=AK (zj el k) ql (j+1);obtain⟨⟨lA,lc,ll⟩,⟨kk,oo,tt,vv,ss,AA,cc,xs⟩⟩:=t;have ab:=qi.Oi hP.lf;simp only[]at q1 q2 q3 q4 q5 aa a_ ab;have ae:=KL q3 (by omega);have f0:=hP.c0;have f1:=hP.six.c0;have f2:wr.cell? (b,p+j*7+2)=_:=hP.six.c1;have f3:wr.cell? (b,p+j*7+3)=_:=hP.six.c2;have f4:wr.cell? (b,p+j*7+4)=_:=hP.six.c3;have f5:wr.cell? (b,p+j*7+5)=_:=hP.six.c4;have f6:wr.cell? (b,p+j*7+6)=_:=hP.six.c5;simp only[txs]at f0 f1 f2 f3 f4 f5 f6;obtain⟨x,J⟩:∃x,iY (kX el (Tx.mk kk oo tt vv ss AA cc xs).er)=x:=⟨_,rfl⟩;have HE:Hid (∀U,ik wr U->Calls prog 47 #[.agg #[(eA,el,ec),.map (some mb)],.agg #[kk,oo,tt,vv,ss,(AA,xs,cc)]] U fun e w'=>e=.returned (.string (lG x))/\∃z,w'=U.more z):=iB fun U hU=>by
   have:=aa U (ij HN.aft hU);rwa [J]at this
  rw[J]at a_;have I:Hid (l.length+(iY ((ql.take j).flatMap (zj el k))).length+(iY (zj el k ⟨⟨lA,lc,ll⟩,Tx.mk kk oo tt vv ss AA cc xs⟩)).length<=140737488355328):=by
   show _<=_
   have h1:=HL.out;rw[R,mo]at o;omega
  have aq:Hid (l++iY ((ql.take (j+1)).flatMap (zj el k))=l++iY ((ql.take j).flatMap (zj el k))++iY (zj el k ⟨⟨lA,lc,ll⟩,Tx.mk kk oo tt vv ss AA cc xs⟩)):=by
   show _=_
   rw[R,kD]
  obtain⟨z,hz⟩:∃z,iY (Bo ll)=z:=⟨_,rfl⟩;have HJ:=iB (fun U (hU:ik wr U)=>ab.join (w:=wr) ⟨#[44,32]⟩ (by rw[show ((⟨#[44,32]⟩:ByteArray).data.toList)=iY qR from rfl,Ey];omega) U hU);rw[show ((⟨#[44,32]⟩:ByteArray).data.toList)=iY qR from rfl,Ey,hz]at HJ;rw[hz]at ae;clear R o HY hP ao aa q3 q4 q5 ai ab;by_cases h1:1<ll.length
  ·obtain⟨S1,e1,g1⟩:=jh (A:=⟨#[40]⟩) (a:=[40]) (B:=lG z) rfl rfl (by simp;omega)
   obtain⟨S2,e2,g2⟩:=jh (B:=⟨#[41]⟩) (b:=[41]) e1 rfl (by simp;omega);obtain⟨S3,e3,g3⟩:=jh (B:=⟨#[32,61,32]⟩) (b:=[32,61,32]) e2 rfl (by simp;omega);obtain⟨S4,e4,g4⟩:=jh (B:=lG x) e3 rfl (by simp;omega);obtain⟨S5,e5,g5⟩:=jh (B:=⟨#[59]⟩) (b:=[59]) e4 rfl (by simp;omega);have HA:=ur HN k hk (vU ll++.sp 32::mf [61]::.sp 32::(kX el (Tx.mk kk oo tt vv ss AA cc xs).er++[mf [59]])) (S:=S5)
    (by rw[e5];unfold vU;rw[iG h1,iC,jl,iC,hz,jl,jn,jl,jn,iC,J,jl,ja];simp) (by rw[mo];exact I)
   generalize ll.length=n9 at *
   have ay:(1:Int)<(n9:Int):=by omega
   clear hR hR2 hE hA J a_ hz ae e1 e2 e3 e4 e5 hB q1 q2;go_wp2_with fail;refine (HJ.out _ zc).mono ?_;rintro e w' ⟨rfl,y,rfl⟩;go_wp2_with fail;refine jf 13 (by kernel_rfl) (by kernel_rfl) ?_;simp only[sD,rP,uB,sS];repeat (go_big_quiet_step ((go_at_call 47;with_reducible exact mR (HE.out _ zc))))
   refine wpQuiet_nil ?_;rintro _ ⟨y_,rfl⟩;go_wp2_with fail;refine (HA _ zc).mono ?_;rintro e w2 ⟨rfl,a7,a1⟩;go_wp2;go_roundw
   case rel=>exact⟨j+1,by omega,by go_num,by show Ln _ _ _ _ _ _ _ _;rw[aq.out];exact a7,HS.trans a1⟩
   case measure=>simp[intOf];omega
  obtain⟨S3,e3,g3⟩:=jh (A:=lG z) (B:=⟨#[32,61,32]⟩) (b:=[32,61,32]) rfl rfl (by simp;omega);obtain⟨S4,e4,g4⟩:=jh (B:=lG x) e3 rfl (by simp;omega);obtain⟨S5,e5,g5⟩:=jh (B:=⟨#[59]⟩) (b:=[59]) e4 rfl (by simp;omega);have HA:=ur HN k hk (vU ll++.sp 32::mf [61]::.sp 32::(kX el (Tx.mk kk oo tt vv ss AA cc xs).er++[mf [59]])) (S:=S5)
   (by rw[e5];unfold vU;rw[iV h1,iC,hz,jn,jl,jn,iC,J,jl,ja];simp) (by rw[mo];exact I)
  generalize ll.length=n9 at *
  have ay:¬((1:Int)<(n9:Int)):=by omega
  clear hR hR2 hE hA J a_ hz ae e3 e4 e5 hB q1 q2;go_wp2_with fail;refine (HJ.out _ zc).mono ?_;rintro e w' ⟨rfl,y,rfl⟩;go_wp2_with fail;refine jf 13 (by kernel_rfl) (by kernel_rfl) ?_;simp only[sD,rP,uB,sS];repeat (go_big_quiet_step ((go_at_call 47;with_reducible exact mR (HE.out _ zc))))
  refine wpQuiet_nil ?_;rintro _ ⟨y_,rfl⟩;go_wp2_with fail;refine (HA _ iR).mono ?_;rintro e w2 ⟨rfl,a7,a1⟩;go_wp2;go_roundw
  case rel=>exact⟨j+1,iu,by go_num,by show Ln _ _ _ _ _ _ _ _;rw[aq.out];exact a7,HS.trans a1⟩
  case measure=>simp[intOf];omega
 obtain rfl:j=ql.length:=iu;have aw:¬((ql:Int)<(ql:Int)):=iu;have a6:=HN.out;rw[pf]at a6;have ag:=iy a6;generalize ql.length=n9 at *
 go_wp2_with fail;go_loopw [46] (fun i wq=>∃j:Nat,j<=al.length/\i=.int .i64 j/\Hid (Ln B g eA el.length ec mb wq ((l++iY (ql.flatMap (zj el k)))++iY ((al.take j).flatMap (CN el k))))/\Hid (vP g w wq)) (fun i _=>al.length-(intOf i).toNat)
 case atStart=>exact⟨0,iu,rfl,by show Ln _ _ _ _ _ _ _ _;rw[rP];show Ln _ _ _ _ _ _ _ (_++[]);rw[oV];exact ag,HS⟩
 case round=>
 obtain⟨j,aA,rfl,a',ar⟩:=hrel;by_cases aj:j<al.length
 ·obtain⟨b,p,t,a8,ak,HY,hP⟩:=(hR2.Ru wr (k:=a'.aft)).part (i:=j) aj
  simp only[]at a8;subst a8;have an:(j:Int)<(al:Int):=iu;have f0:=hP.1;have R:=ui (l:=al) (CN el k) HY;have o:=AK (CN el k) al (j+1);have ah:=hA t (om HY);obtain⟨tA,tc,ts⟩:=t;simp only[AuT.ad,AuT.states,AuT.cap,yr]at f0 ah;have I:l.length+(iY (ql.flatMap (zj el k))).length+(iY ((al.take j).flatMap (CN el k))).length+(iY (CN el k (.mk tA tc ts))).length<=140737488355328:=by
   have h1:=HL.out;rw[R,mo]at o;omega
  have HC:Hid (∀U,ik wr U->Calls prog 93 #[.pointer (some g),k,.agg #[(tA,ts,tc)]] U fun e w'=>e=.returned (.tuple #[])/\Ln B g eA el.length ec mb w' ((l++iY (ql.flatMap (zj el k)))++iY ((al.take (j+1)).flatMap (CN el k)))/\vP g wr w'):=iy fun U hU=>by
   refine (ah U _ (a'.after hU) (by rw[mo,mo];exact I)).mono ?_;rintro e w' ⟨h1,h2,h3⟩;exact⟨h1,by rw[R,<- kD];exact h2,(D_ hU a'.lt).trans h3⟩
  go_wp2_with fail;refine (HC _ iR).mono ?_;rintro e w2 ⟨rfl,a7,a1⟩;go_wp2;go_roundw
  case rel=>exact⟨j+1,iu,by go_num,a7,ar.trans a1⟩
  case measure=>simp[intOf];omega
 obtain rfl:j=al.length:=iu;have an:¬((al:Int)<(al:Int)):=iu;have a6:=a'.out;rw[pf,kD,<- HF.out,az.out]at a6;have ag:=iy a6;go_wp2;go_end0;exact⟨rfl,ag,ar⟩
end
structure QD (el:List iW) (n:Nat) (x:StT):Prop where
 nm:x.name.size<=40
 lo:nN el false x.locals.l=0
 ll:x.locals.l.length<=1000
 ul:∀t∈x.unl.l,qk el t.cond=0/\0<=t.dst/\t.dst<(n:Int)
 ut:∀t∈x.unt.l,qk el t.cond=0/\0<=t.dst/\t.dst<(n:Int)
section
variable {B:yM} {g:Nat} {eA:zA} {ec mb:Nat} {el:List iW}
theorem MU (hB:WB B eA ec el mb) {A:zA} {c:Nat} {sts:List StT} (hR:ir 6 (OZ True) B ⟨A,c,sts⟩) (k:Nat) (hk:k<=900) (hE:∀x∈sts,QD el sts.length x)
  (hBd:∀x∈sts,tG B g eA el.length ec mb 48 [((k+2:Nat):Int),.slice x.eqs.A x.eqs.l x.eqs.c,.slice x.ad x.autos x.cap] (qJ el (k+2) x.eqs.l x.autos)) :
  tG B g eA el ec mb 93 [k,.agg #[(A,sts,c)]] (CN el k (.mk A c sts)):=by
 intro w l h hl;show Calls prog _ #[.pointer g,k,.agg #[(A,sts,c)]] w _
 have bf:=hR.len;simp only[]at bf;obtain⟨nms,af⟩:=jt (sts.map StT.name);have bm:=iy af;have hF:iY (CN el k (.mk A c sts))=iY (rL k [mB [97,117,116,111,109,97,116,111,110]])++iY (sts.flatMap (IC el k nms))++iY (rL k [mB [101,110,100]]):=by
  rw[CN,iC,iC,KA,af]
 have HF:=iy hF;rw[hF,mo,mo]at hl;obtain⟨TP,aE⟩:=jt (CN el k (.mk A c sts));have bk:=iy aE;have HH:=iy h;have HL:=iy hl;rw[aE];clear hl aE hF af;have bb:Hid (∀U,ik w U->Calls prog 17 #[.pointer g,k,.string ⟨#[97,117,116,111,109,97,116,111,110]⟩] U fun e w'=>e=.returned (.tuple #[])/\Ln B g eA el.length ec mb w' (l++iY (rL k [mB [97,117,116,111,109,97,116,111,110]]))/\vP g U w'):=
  iy fun U hU=>rE U l k [mB [97,117,116,111,109,97,116,111,110]] (h.after hU) iu (by have:=HL.out;omega)
 obtain⟨k1,aU⟩:=jt (k+1);obtain⟨k2,aC⟩:=jt (k+2);have bs:IntKind.i64.wrap ((k:Int)+1)=(k1:Int):=(IntWalk.i64_in ((k:Int)+1) (by omega)).trans (by omega);have br:IntKind.i64.wrap ((k:Int)+2)=(k2:Int):=(IntWalk.i64_in ((k:Int)+2) (by omega)).trans (by omega);have ai:k1<=1000:=iu;have ah:k2<=1000:=iu;have bp:=iy aU;have bo:=iy aC;rw[aC]at hBd;clear h aU aC;go_in;go_wp2_with fail;refine (bb _ iR).mono ?_;rintro e w1 ⟨rfl,aW,ak⟩;have aF:ik w (w.alloc (.cells #[(A,sts,c)] 131)):=iR;have a':=HH.loc aF (js _) (jC w 131 #[(A,sts,c)]).lt;have b6:=iy (a'.Dh ak);have aT:=iB (a'.blk ak (jC w 131 #[(A,sts,c)]));have bl:=iB ((D_ aF HH.lt).trans ak);have aw:=iB aW;have cb:=aT.cell 0;have lb:Le (w+1) w1:=⟨aT.lt⟩;clear aW ak a' aF bb;go_wp2_with fail;clear cb lb;go_loopw [14] (fun i wr=>∃j:Nat,j<=sts.length/\i=.int .i64 j/\Hid (Ln B g eA el ec mb wr ((l++iY (rL k [mB [97,117,116,111,109,97,116,111,110]]))++iY ((sts.take j).flatMap (IC el k nms))))/\Hid (vP g w1 wr)) (fun i _=>sts.length-(intOf i).toNat)
 ·exact⟨0,iu,rfl,by show Ln _ _ _ _ _ _ _ _;rw[rP];show Ln _ _ _ _ _ _ _ (_++[]);rw[oV];exact aw,Iq _ _⟩
 case round=>
 obtain⟨j,hj,rfl,HN,HS⟩:=hrel;have ay:=iy (b6.blk HS aT);have b5:=iy (b6.Dh HS);have lb:Le (w+1) wr:=⟨ay.lt⟩;by_cases be:j<sts
 ·obtain⟨b,p,t,aX,bq,HY,hP⟩:=(hR.sts wr (k:=HN.aft)).part (i:=j) be
  simp only[]at aX;subst aX;have bg:(j:Int)<(sts:Int):=iu;obtain⟨b9,o9,aV⟩:=hR.elem HY;have ho:=hE t (om HY);have aD:=hBd t (om HY);have I:=ui (l:=sts) (IC el k nms) HY;have aj:=AK (IC el k nms) sts (j+1);obtain⟨sn,⟨lA,lc,ll⟩,⟨qA,qc,ql⟩,aA,ac,al,⟨uA,uc,ul⟩,⟨vA,vc,vl⟩⟩:=t;obtain⟨-,r1,r2,r3,r4,r5⟩:=aV.2.parts;obtain⟨f0,f1,f2,f3,f4,f5⟩:=hP.1;simp only[StT.name,StT.locals,StT.eqs,StT.ad,StT.cap,StT.autos,StT.unl,StT.unt]at f0 f1 f2 f3 f4 f5 aD;have o1:=ho.nm;have o2:=ho.lo;have o3:=ho.ll;have o4:=ho.ul;have o5:=ho.ut;simp only[StT.name,StT.locals,StT.unl,StT.unt]at o1 o2 o3 o4 o5;have az:∀x∈sts,x.name.size<=40:=fun x hx=>(hE x hx).nm
  rw[IC,bp.out,bo.out]at I;simp only[iC]at I;have bc:=jr sn;obtain⟨S1,e1,g1⟩:=jh (A:=⟨#[115,116,97,116,101,32]⟩) (a:=[115,116,97,116,101,32]) (B:=sn) rfl (qd sn).symm (by simp;omega);have W1:Hid (∀(w:yM) (l:List UInt8),Ln B g eA el.length ec mb w l->l.length+(iY (rL k1 [mB [115,116,97,116,101],.sp 32,rM sn])).length<=140737488355328->Calls prog 17 #[.pointer (some g),k1,S1] w fun e w'=>e=.returned (.tuple #[])/\Ln B g eA el.length ec mb w' (l++iY (rL k1 [mB [115,116,97,116,101],.sp 32,rM sn]))/\vP g w w'):=iB fun w l h hl=>by
   have:=rE w l k1 [mB [115,116,97,116,101],.sp 32,rM sn] h ai hl;rwa [show lG (iY [mB [115,116,97,116,101],.sp 32,rM sn])=S1 from by rw[e1,kH,jn,lQ,ja,oV];rfl]at this
  have W2:=iy (BP (g:=g) hB r1 o2 o3 k2 ah);have W3:=iB (Es (g:=g) hB r3 hR o4 az [117,110,108,101,115,115] (by decide) k2 ah);have W4:Hid (∀(w:yM) (l:List UInt8),Ln B g eA el.length ec mb w l->l.length+(iY (rL k1 [mB [100,111]])).length<=140737488355328->Calls prog 17 #[.pointer (some g),k1,.string ⟨#[100,111]⟩] w fun e w'=>e=.returned (.tuple #[])/\Ln B g eA el.length ec mb w' (l++iY (rL k1 [mB [100,111]]))/\vP g w w'):=iB fun w l h hl=>rE w l k1 [mB [100,111]] h ai hl
  have W5:=iB aD;have W6:=iB (Es (g:=g) hB r4 hR o5 az [117,110,116,105,108] (by decide) k2 ah);have W7:Hid (∀(w:yM) (l:List UInt8),Ln B g eA el.length ec mb w l->l.length+(iY (rL k1 [mB [100,111,110,101]])).length<=140737488355328->Calls prog 17 #[.pointer (some g),k1,.string ⟨#[100,111,110,101]⟩] w fun e w'=>e=.returned (.tuple #[])/\Ln B g eA el.length ec mb w' (l++iY (rL k1 [mB [100,111,110,101]]))/\vP g w w'):=iB fun w l h hl=>rE w l k1 [mB [100,111,110,101]] h ai hl
  rw[bm.out]at W3 W6;unfold tG at W2 W3 W5 W6;unfold qJ at W5;rw[iC]at W5;generalize iY (rL k1 [mB [115,116,97,116,101],.sp 32,rM sn])=R1 at W1 I;generalize iY (nr el k2 ll)=R2 at W2 I;generalize iY (sk el k2 [117,110,108,101,115,115] nms ul)=R3 at W3 I;generalize iY (rL k1 [mB [100,111]])=R4 at W4 I;generalize iY (ql.flatMap (zj el k2))++iY (vN el k2 al)=R5 at W5 I;generalize iY (sk el k2 [117,110,116,105,108] nms vl)=R6 at W6 I;generalize iY (rL k1 [mB [100,111,110,101]])=R7 at W7 I;have ae:(l++iY (rL k [mB [97,117,116,111,109,97,116,111,110]])).length+(iY ((sts.take j).flatMap (IC el k nms))).length+(R1.length+(R2.length+(R3.length+(R4.length+(R5.length+(R6.length+R7))))))<=140737488355328:=by
   have h1:=HL.out;rw[I]at aj;simp only[mo]at aj⊢;omega
  have aG:Hid ((l++iY (rL k [mB [97,117,116,111,109,97,116,111,110]]))++iY ((sts.take (j+1)).flatMap (IC el k nms))=(((((((((l++iY (rL k [mB [97,117,116,111,109,97,116,111,110]]))++iY ((sts.take j).flatMap (IC el k nms)))++R1)++R2)++R3)++R4)++R5)++R6)++R7)):=by
   show _=_
   rw[I];simp only[kD]
  generalize l++iY (rL k [mB [97,117,116,111,109,97,116,111,110]])=l0 at HN ae aG;generalize iY ((sts.take j).flatMap (IC el k nms))=lj at HN ae aG;have aa:=iB ae;clear I aj ae HY hP aV ho aD hR hE hBd r1 r2 r3 r4 r5 o1 o2 o3 o4 o5 az e1 hB bc;go_wp2_with fail;refine (W1.out _ _ (HN.out.after zc) (by have:=aa.out;simp only[mo];omega)).mono ?_;rintro e v1 ⟨rfl,J,o⟩;have ax:ik wr (wr.alloc (.cells #[sn,(lA,ll,lc),(qA,ql,qc),(aA,al,ac),(uA,ul,uc),(vA,vl,vc)] 184)):=iR;have a':=HN.loc ax (js _) (jC wr 184 #[sn,(lA,ll,lc),(qA,ql,qc),(aA,al,ac),(uA,ul,uc),(vA,vl,vc)]).lt;have aS:=iy (a'.Dh o);have a_:=iy (a'.blk o (jC wr 184 #[sn,(lA,ll,lc),(qA,ql,qc),(aA,al,ac),(uA,ul,uc),(vA,vl,vc)]));have ag:=b5.Dh (D_ ax HN.lt);have aM:=iy (ag.Dh o);have av:=iy (ag.blk o (ay.alloc _));have b3:=iy ((D_ ax HN.lt).trans o);clear a' ag ax;have aw:=iy J;have x0:=a_.cell 0;have x1:=a_.cell 1;have x2:=a_.cell 2;have x3:=a_.cell 3;have x4:=a_.cell 4;have x5:=a_.cell 5;have y0:=av.cell 0;have lx:Le (wr+1) v1:=⟨a_.lt⟩;have ly:Le (w+1) v1:=⟨av.lt⟩;clear J o;go_wp2_with fail;refine (W2 v1 _ aw (by have:=aa.out;simp only[mo];omega)).mono ?_;rintro e v2 ⟨rfl,J,o⟩;have aR:=iy (aS.Dh o);have a8:=iy (aS.blk o a_);have aL:=iy (aM.Dh o)
  have au:=iy (aM.blk o av);have b2:=iy (b3.trans o);clear aS a_ aM av b3 aw x0 x1 x2 x3 x4 x5 lx ly y0;have ba:=iy J;have x0:=a8.cell 0;have x1:=a8.cell 1;have x2:=a8.cell 2;have x3:=a8.cell 3;have x4:=a8.cell 4;have x5:=a8.cell 5;have y0:=au.cell 0;have lx:Le (wr+1) v2:=⟨a8.lt⟩;have ly:Le (w+1) v2:=⟨au.lt⟩;clear J o;go_wp2_with fail;refine (W3 v2 _ ba (by have:=aa.out;simp only[mo];omega)).mono ?_;rintro e v3 ⟨rfl,J,o⟩;have aQ:=iy (aR.Dh o);have a7:=iy (aR.blk o a8);have aK:=iy (aL.Dh o);have ar:=iy (aL.blk o au);have b1:=iy (b2.trans o);clear aR a8 aL au b2 ba x0 x1 x2 x3 x4 x5 lx ly y0;have b':=iy J;have x0:=a7.cell 0;have x1:=a7.cell 1;have x2:=a7.cell 2;have x3:=a7.cell 3;have x4:=a7.cell 4;have x5:=a7.cell 5;have y0:=ar.cell 0;have lx:Le (wr+1) v3:=⟨a7.lt⟩;have ly:Le (w+1) v3:=⟨ar.lt⟩;clear J o;go_wp2_with fail;refine (W4 v3 _ b' (by have:=aa.out;simp only[mo];omega)).mono ?_;rintro e v4 ⟨rfl,J,o⟩;have aP:=iy (aQ.Dh o);have a6:=iy (aQ.blk o a7);have aJ:=iy (aK.Dh o);have aq:=iy (aK.blk o ar);have b0:=iy (b1.trans o);clear aQ a7 aK ar b1 b' x0 x1 x2 x3 x4 x5 lx ly y0;have b_:=iy J;have x0:=a6.cell 0;have x1:=a6.cell 1;have x2:v4.cell? (wr,2)=(qA,ql,qc):=a6.cell 2;have x3:v4.cell? (wr,3)=(aA,al,ac):=a6.cell 3;have x4:v4.cell? (wr,4)=(uA,ul,uc):=a6.cell 4;have x5:v4.cell? (wr,5)=(vA,vl,vc):=a6.cell 5
  have y0:v4.cell? w=some (.slice (b,p) sts.length c):=aq.cell 0;have lx:Le (wr+1) v4:=⟨a6.lt⟩;have ly:Le (w+1) v4:=⟨aq.lt⟩;clear J o;go_wp2_with fail;refine (W5 v4 _ b_ (by have:=aa.out;simp only[mo];omega)).mono ?_;rintro e v5 ⟨rfl,J,o⟩;have aO:=iy (aP.Dh o);have a1:=iy (aP.blk o a6);have aI:=iy (aJ.Dh o);have ao:=iy (aJ.blk o aq);have aZ:=iy (b0.trans o);clear aP a6 aJ aq b0 b_ x0 x1 x2 x3 x4 x5 lx ly y0;have b8:=iy J;have x0:v5.cell? wr=sn:=a1.cell 0;have x1:v5.cell? (wr,1)=(lA,ll,lc):=a1.cell 1;have x2:v5.cell? (wr,2)=(qA,ql,qc):=a1.cell 2;have x3:v5.cell? (wr,3)=(aA,al,ac):=a1.cell 3;have x4:v5.cell? (wr,4)=(uA,ul,uc):=a1.cell 4;have x5:v5.cell? (wr,5)=(vA,vl,vc):=a1.cell 5;have y0:v5.cell? w=some (.slice (b,p) sts.length c):=ao.cell 0;have lx:Le (wr+1) v5:=⟨a1.lt⟩;have ly:Le (w+1) v5:=⟨ao.lt⟩;clear J o;go_wp2_with fail;refine (W6 v5 _ b8 (by have:=aa.out;simp only[mo];omega)).mono ?_;rintro e v6 ⟨rfl,J,o⟩;have aN:=iy (aO.Dh o);have R:=iy (aO.blk o a1);have aH:=iy (aI.Dh o);have an:=iy (aI.blk o ao);have aY:=iy (aZ.trans o);clear aO a1 aI ao aZ b8 x0 x1 x2 x3 x4 x5 lx ly y0;have b7:=iy J;have x0:v6.cell? wr=sn:=R.cell 0
  have x1:v6.cell? (wr,1)=(lA,ll,lc):=R.cell 1;have x2:v6.cell? (wr,2)=(qA,ql,qc):=R.cell 2;have x3:v6.cell? (wr,3)=(aA,al,ac):=R.cell 3;have x4:v6.cell? (wr,4)=(uA,ul,uc):=R.cell 4;have x5:v6.cell? (wr,5)=(vA,vl,vc):=R.cell 5;have y0:v6.cell? w=some (.slice (b,p) sts.length c):=an.cell 0;have lx:Le (wr+1) v6:=⟨R.lt⟩;have ly:Le (w+1) v6:=⟨an.lt⟩;clear J o;go_wp2_with fail;refine (W7 v6 _ b7 (by have:=aa.out;simp only[mo];omega)).mono ?_;rintro e v7 ⟨rfl,J,o⟩;have bu:=iy (aN.Dh o);have ab:=iy (aN.blk o R);have bt:=iy (aH.Dh o);have b4:=iy (aH.blk o an);have bj:=iy (aY.trans o);clear aN R aH an aY b7 x0 x1 x2 x3 x4 x5 lx ly y0;have bn:=iy J;have x0:=ab.cell 0;have x1:=ab.cell 1;have x2:=ab.cell 2;have x3:=ab.cell 3;have x4:=ab.cell 4;have x5:=ab.cell 5;have y0:=b4.cell 0;have lx:Le (wr+1) v7:=⟨ab.lt⟩;have ly:Le (w+1) v7:=⟨b4.lt⟩;clear J o;go_wp2;go_roundw
  case rel=>exact⟨j+1,iu,by go_num,by show Ln _ _ _ _ _ _ _ _;rw[aG.out];exact bn,HS.trans bj⟩
  case measure=>simp[intOf];omega
 obtain rfl:j=sts:=iu;have bg:¬((sts:Int)<(sts:Int)):=by omega
 have aB:=HN.out;rw[pf]at aB;have HC:Hid (∀U,ik wr U->Calls prog 17 #[.pointer (some g),k,.string ⟨#[101,110,100]⟩] U fun e w'=>e=.returned (.tuple #[])/\Ln B g eA el.length ec mb w' (l++iY TP)/\vP g U w'):=iy fun U hU=>by
  have:=rE U _ k [mB [101,110,100]] (aB.after hU) iu (by have:=HL.out;simp only[mo];omega);rwa [kD,kD,<- kD (iY (rL k _)),<- HF.out,bk.out]at this
 clear aB HN hR hE hBd;generalize sts=n9 at *
 go_wp2_with fail;refine (HC _ iR).mono ?_;rintro e w2 ⟨rfl,bh,bd⟩;go_wp2;go_end0;exact⟨rfl,bh,bl.trans (HS.trans bd)⟩
end
theorem Af {el:List iW} {n:Nat} {b:Bool} {t:ma} (h:tx el n b t=0):qk el t.cond=0/\0<=t.dst/\t.dst<(n:Int):=by
 unfold tx at h;obtain⟨j,h⟩:=jI h;obtain⟨o,I⟩:=jI h;have j:=nJ iI j;simp only[mT,decide_eq_true_eq]at j;exact⟨o,j.1,j.2⟩
theorem wP {el:List iW} {n d:Nat} {x:StT} (h:AM el n d x=0):QD el n x/\kT x.name=true/\iw (rN el) x.eqs.l=0/\iw (rK el (d+1)) x.autos=0/\x.eqs.l.length<=256/\x.autos.length<=8:=by
 obtain⟨nm,J,eq,A,c,au,ul,ut⟩:=x;rw[IY]at h;obtain⟨I,h⟩:=jI h;obtain⟨o,h⟩:=jI h;obtain⟨h3,h⟩:=jI h;obtain⟨h4,h⟩:=jI h;obtain⟨h5,h⟩:=jI h;obtain⟨h6,U⟩:=jI h;have o:=nJ iI o;simp only[mT,decide_eq_true_eq]at o;have R:=jM (nS I);exact⟨⟨R.2,h3,by show J.l.length<=1000;omega,fun t j=>Af (jd h6 t j),fun t j=>Af (jd (jI U).1 t j)⟩,nS I,h4,h5,by show eq.l.length<=256;omega,by show au.length<=8;omega⟩
section
variable {B:yM} {g:Nat} {eA:zA} {ec mb:Nat} {el:List iW}
theorem Qg (hB:WB B eA ec el mb):∀(n d:Nat),d+n=3->∀a:AuT,zS True B a->rK el d a=0->∀k:Nat,k<=100+4*d ->
  tG B g eA el ec mb 93 [k,.agg #[(a.ad,a.states,a.cap)]] (CN el k a)
 |0,d,hd,.mk A c l,hR,hE,k,hk=>by
  rw[yt]at hE;have h1:=nJ iI (jI hE).1;simp only[decide_eq_true_eq]at h1;omega
 |n+1,d,hd,.mk A c l,hR,hE,k,hk=>by
  rw[yt]at hE;obtain⟨h1,h⟩:=jI hE;obtain⟨h2,h⟩:=jI h;obtain⟨h3,h4⟩:=jI h;have hrow:=hR.rows;refine MU hB hrow k iu (fun x hx=>(wP (jd h4 x hx)).1) fun x hx=>?_
  obtain⟨-,q1,q2,q3,q4,q5⟩:=wP (jd h4 x hx);obtain⟨i,hi⟩:=List.getElem?_of_mem hx;obtain⟨b,o,hP⟩:=hrow.elem hi;obtain⟨nm,lo,⟨qA,qc,ql⟩,A',c',au,ul,ut⟩:=x;obtain⟨-,r1,r2,r3,r4,r5⟩:=hP.2.parts;refine Hu hB r2 q2 r5 (k+2) iu fun a ha=>?_
  obtain⟨i2,hi2⟩:=List.getElem?_of_mem ha;obtain⟨b2,o2,hP2⟩:=r5.elem hi2;exact Qg hB n (d+1) iu a hP2.2 (jd q3 a ha) (k+2) iu
theorem LC (hB:WB B eA ec el mb) {A:zA} {c:Nat} {ql:List oX} (hR:ir 7 (xv True) B ⟨A,c,ql⟩) (hE:iw (rN el) ql=0) {A2:zA} {c2:Nat} {al:List AuT} (hR2:ir 1 (xM True) B ⟨A2,c2,al⟩) (hE2:iw (rK el 0) al=0) (k:Nat) (hk:k<=100) :
  tG B g eA el ec mb 48 [k,(A,ql,c),(A2,al,c2)] (qJ el k ql al):=
 Hu hB hR hE hR2 k iu fun a ha=>by
  obtain⟨i2,hi2⟩:=List.getElem?_of_mem ha;obtain⟨b2,o2,hP2⟩:=hR2.elem hi2;exact Qg hB 3 0 iu a hP2.2 (jd hE2 a ha) k iu
end
section
variable {P:Program} {f:FuncId} {args:Array Value} {wz w w6:yM} {Q:Ending->yM->Prop} {nd q E E' X T R Rq:Int} {g:Nat} {A:zA} {n c:Nat}
theorem mS (C:Calls P f args wz fun e w'=>PE w6 nd q E' e w') (hF:E'=E) (HV:Hid (X=jD E T)) (hn:∀w7,E≠0->X=E->ik w6 w7->Q (uw nd q E) w7)
  (hz:∀w7,E=0->Hid (X=T)->ik w6 w7->Q (.returned (.tuple #[])) w7):Calls P f args wz Q:=by
 subst hF;refine C.mono fun e w7 hp=>?_
 by_cases hE:E'=0
 ·obtain⟨rfl,c⟩:=hp.Rv hE
  exact hz w7 hE (HV.out.trans (kC hE)) c
 obtain⟨rfl,c⟩:=hp.Oq hE;exact hn w7 hE (HV.out.trans (lR hE)) c
theorem mP (C:Calls P f args wz fun e w'=>PE w6 nd q E' e w') (hF:E'=E) (HV:Hid (X=jD E T)) (HS:Hid (X≠0->R=X)) (d:ik w w6)
  (hz:∀w7,Hid (X=T)->ik w6 w7->Q (.returned (.tuple #[])) w7)
  (g:∀w7 F,PE w nd q R (uw nd q F) w7->Q (uw nd q F) w7:=by intro _ _ HP;unfold uw;go_wp2;exact⟨rfl,HP⟩):Calls P f args wz Q:=
 mS C hF HV (fun w7 hE hX c=>g w7 E (by rw[HS.out (by rw[hX];exact hE),hX];exact CS hE (ij d c))) (fun w7 _=>hz w7)
theorem Nz (C:Calls P f args wz fun e w'=>PE w6 nd q E' e w') (hF:E'=E) (HV:Hid (X=jD E T)) (HS:Hid (X≠0->R=X)) (d:ik w w6) (hE:E≠0:=by decide)
  (g:∀w7 F,PE w nd q R (uw nd q F) w7->Q (uw nd q F) w7:=by intro _ _ HP;unfold uw;go_wp2;exact⟨rfl,HP⟩):Calls P f args wz Q:=
 mS C hF HV (fun w7 hE hX c=>g w7 E (by rw[HS.out (by rw[hX];exact hE),hX];exact CS hE (ij d c))) (fun _ h=>absurd h hE)
end
theorem Cz {w0:yM} {g nd q} {en:nB iW} (h:pK w0 g en.A en.l en.c nd q) (hen:ir 2 sM w0 en) (x:nB iO) (hx:ir 3 jG w0 x) (port:Bool) (w:yM) (hw:ik w0 w) :
  Calls prog 75 #[.pointer (some g),(x.A,x.l,x.c),port] w fun e w'=>PE w nd q (nN en.l port x.l) e w':=by
 have HI:Hid (∀s:yB,s.size<=140737488355328->∀U,ik w0 U->Calls prog 74 #[.pointer (some g),s] U fun e w'=>PE U nd q (jA s) e w'):=fun s hs U hU=>tT h s hs U hU
 have HM:Hid (∀b e,e≠0->∀U,ik w0 U->Calls prog 39 #[.pointer (some g),.bool b,.int .i64 e] U fun e' w'=>PE U nd q (iX b e) e' w'):=fun b e he U hU=>rC (h.here U (k:=hU)) b e he
 obtain⟨eA,ec,J⟩:=en;simp only[]at h⊢;have HZ:Hid (∀t:Int,t<=9223372036854775807->∀U,ik w0 U->Calls prog 120 #[(eA,J,ec),t] U fun e w'=>e=.returned (.int .i64 (jV J t:Nat))/\∃z,w'=U.more z):=fun t ht U hU=>(uS hen U hU t ht).mono fun e w_ h_=>⟨h_.1,have:=h_.2;jP _ _⟩
 have HH:Hid (∀t v:Int,t<=9223372036854775807->∀U,ik w0 U->Calls prog 121 #[(eA,J,ec),t,v] U fun e w'=>e=.returned (.bool (nq J t v))/\∃z,w'=U.more z):=fun t v ht U hU=>(Ch hen U hU t v ht).mono fun e w_ h_=>⟨h_.1,have:=h_.2;jP _ _⟩
 obtain⟨R,hR⟩:=jt (nN J port x.l);have ai:Hid (R=jD (iw (jN J port) x.l) 0):=by
  show _=_
  rw[<- hR,kE];rfl
 rw[hR];have HL:Hid (∀U,ik w0 U->U.cell? g=(eA,J,ec)/\Le (g+1) U):=fun U hU=>⟨(h.here U (k:=hU)).fields.1,(h.here U (k:=hU)).fields.2.2.2⟩
 obtain⟨A1,c1,l⟩:=x;simp only[]at ai⊢;have XX:=iy hx;have bC:=hx.len;simp only[]at bC;have bp:=iq w;have HK:Hid (∀U:yM,ik w U->U.cell? g=(eA,J,ec)/\Le (g+1) U):=fun U hU=>HL U (ij hw hU)
 obtain⟨l0,ll⟩:=HK w (iq _); go_in;go_wp2_with fail;go_loopw [12] (fun i wr=>∃j:Nat,j<=l.length/\i=.int .i64 (j:Nat)/\Hid (iw (jN J port) (l.take j)=0)/\ik w wr) (fun i _=>l.length-(intOf i).toNat)
 ·exact⟨0,iu,rfl,iy (by simp[iw]),iq w⟩
 case round=>
 obtain⟨j,hj,rfl,az,ag⟩:=hrel;have af:=ij bp ag;obtain⟨rj,b1⟩:=jt (wr);rw[b1]at ag af⊢;obtain⟨l0,ll⟩:=HK rj (ag);by_cases ao:j<l
 ·have b':(j:Int)<(l:Int):=iu
  obtain⟨bj,pj,yj,rfl,bn,aP,a_⟩:=(XX.decls rj (k:=ij hw af)).part (i:=j) ao;obtain⟨nm,ty,cA,cc,cl⟩:=yj;have y0:=a_.c0;have y1:=a_.c1;have y2:=a_.c2;have hn:=a_.nm;have aD:=a_.tb;have bf:=iy (a_.cl.below qF (Below.refl _ _));have bc:=a_.cl.len;simp only[]at y0 y1 y2 hn aD bc;have aN:=iy (HZ ty aD);obtain⟨sz,aE⟩:=jt (jV J ty);rw[aE]at aN;have aa:Hid ((jN J port ⟨nm,ty,⟨cA,cc,cl⟩⟩)≠0->R=(jN J port ⟨nm,ty,⟨cA,cc,cl⟩⟩)):=iy fun h=>by
   have h1:=kN (jN J port) aP az h;have h2:=ai.trans ((lR (by rw[h1];exact h)).trans h1);exact h2
  have I:Hid ((jN J port ⟨nm,ty,⟨cA,cc,cl⟩⟩)=jD (jA nm) (jD (iX (decide ((0:Int)<(sz:Int))) 10) (jD (iX (!port||(cl:Int)==0) 11) (jD (iX (decide ((cl:Int)<=4)) 3) (jD (iw (vR J) cl) 0))))):=by show _=_;rw[kE,<- aE];rfl
  have aR:Hid ((jN J port ⟨nm,ty,⟨cA,cc,cl⟩⟩)=0->iw (jN J port) (l.take (j+1))=0):=iy fun h=>(kt (jN J port) aP az).trans h
  obtain⟨X1,ad⟩:∃X,X=(jN J port ⟨nm,ty,⟨cA,cc,cl⟩⟩):=⟨_,rfl⟩;replace I:=iy (ad.trans I.out);rw[<- ad]at aa aR;obtain⟨g2,bb⟩:=jt (rj.heap.size);obtain⟨W2,bE,a8,ax⟩:∃W,rj.alloc (.cells #[nm,ty,(cA,cl,cc)] 77)=W/\Hid (∀U:yM,ik W U->U.cell? g2=nm/\U.cell? (g2,1)=ty/\U.cell? (g2,2)=(cA,cl,cc)/\Le (g2+1) U/\U.cell? g=(eA,J,ec)/\Le (g+1) U)/\ik rj W:=by
   refine⟨_,rfl,fun U hU=>?_,iR⟩;have y0:=(jC rj 77 #[nm,ty,(cA,cl,cc)]).after (w':=U);rw[bb]at y0;have q0:=ij hw (ij af (ij iR hU));have q1:=ij (ag) (ij iR hU);exact⟨by rw[y0.cell];rfl,by rw[y0.cell];rfl,by rw[y0.cell];rfl,y0.is_le,(HL.out U q0).1,(HL.out U q0).2⟩
  have d2:=ij af ax;obtain⟨k0,k1,k2,a7,aU,aT⟩:=a8 W2 (iq _);go_wp2_with fail;obtain⟨_,_,_,_,l0,ll⟩:=a8.out W2 (iq _);clear aU aT;have aG:=d2;refine mP (HI nm hn W2 (ij hw d2)) rfl I aa d2 ?_;clear I;intro w3 I aK;have d3:=ij d2 aK;have b3:=ij (iq W2) aK;clear k0 k1 k2 a7 l0 ll;obtain⟨k0,k1,k2,a7,l0,ll⟩:=a8.out w3 (b3);go_wp2_with fail;have aA:=ij hw d3;refine jf 9 kp kp ?_;simp only[sD,rP,uB,sS];repeat (go_big_quiet_step ((go_at_call 120;exact mR (aN _ iR))))
  refine wpQuiet_nil ?_;rintro _ ⟨y_,rfl⟩;obtain⟨w4,ab,aJ⟩:∃v,w3.more y_=v/\ik w3 v:=⟨_,rfl,iR⟩;rw[ab];clear ab aA;have d4:=ij d3 aJ;have b4:=ij (b3) aJ;clear k0 k1 k2 a7 l0 ll;obtain⟨k0,k1,k2,a7,l0,ll⟩:=a8.out w4 (b4);go_wp2_with fail;refine mP (E:=iX (decide ((0:Int)<(sz:Int))) 10) (HM _ 10 iI w4 (ij hw d4)) (nQ (fun b=>iX b 10) (decide_eq_decide.2 iu)) I aa d4 ?_;clear I;intro w5 I aI;have d5:=ij d4 aI;have b5:=ij (b4) aI;clear k0 k1 k2 a7 l0 ll;obtain⟨k0,k1,k2,a7,l0,ll⟩:=a8.out w5 (b5);by_cases bk:port=true/\¬cl.length=0
  ·obtain⟨rfl,bk⟩:=bk
   have aX:((cl:Int)==0)=false:=by rw[beq_eq_false_iff_ne];omega
   have bH:(cl.length==0)=false:=by rw[beq_eq_false_iff_ne];omega
   replace I:Hid (X1=jD (iX false 11) (jD (iX (decide ((cl:Int)<=4)) 3) (jD (iw (vR J) cl) 0))):=by show _=_;rw[I.out,aX];rfl
   clear bk;go_wp2_with fail;exact Nz (E:=iX false 11) (HM.out _ 11 iI w5 (ij hw d5)) rfl I aa d5
  have pb:(!port||(cl:Int)==0)=true:=by
   cases port
   ·rfl
   simp at bk;simp[bk]
  replace I:Hid (X1=jD (iX true 11) (jD (iX (decide ((cl:Int)<=4)) 3) (jD (iw (vR J) cl) 0))):=by show _=_;rw[I.out,pb]
  have aX:port=true->((cl:Int)==0)=true:=fun h=>by subst h;simpa using pb
  cases port
  rotate_left
  focus replace aX:=aX rfl
  all_goals
   clear bk pb;go_wp2_with fail;refine mP (E:=iX true 11) (HM.out true 11 iI w5 (ij hw d5)) rfl I aa d5 ?_;clear I;intro w7 I aH;have d7:=ij d5 aH;have b7:=ij (b5) aH;clear k0 k1 k2 a7 l0 ll;obtain⟨k0,k1,k2,a7,l0,ll⟩:=a8.out w7 (b7);clear aX;go_wp2_with fail;refine mP (E:=iX (decide ((cl:Int)<=4)) 3) (HM.out _ 3 iI w7 (ij hw d7)) (nQ (fun b=>iX b 3) (decide_eq_decide.2 iu)) I aa d7 ?_;clear I;intro w8 I bF;have b8:=ij (b7) bF;clear k0 k1 k2 a7 l0 ll;obtain⟨k0,k1,k2,a7,l0,ll⟩:=a8.out w8 (b8);go_wp2_with fail;go_loopw [49] (fun i wr=>∃m:Nat,m<=cl.length/\i=.int .i64 (m:Nat)/\Hid (iw (vR J) (cl.take m)=0)/\ik W2 wr) (fun i _=>cl.length-(intOf i).toNat)
   ·exact⟨0,iu,rfl,iy (by simp[iw]),b8⟩
   case round=>
   obtain⟨m,hm,rfl,ay,a'⟩:=hrel;have av:=ij aG a';obtain⟨rm,aY⟩:=jt (wr);rw[aY]at a' av⊢;clear aY wr k0 k1 k2 a7 l0 ll;obtain⟨k0,k1,k2,a7,l0,ll⟩:=a8 rm (a');by_cases an:m<cl
   ·have b_:(m:Int)<(cl:Int):=iu
    obtain⟨bm,pm,ym,rfl,bl,aO,ae⟩:=(bf.Sq rm (k:=ij ax a')).part (i:=m) an;obtain⟨a6,t2,o⟩:=ym;have y0:=ae.c0;have y1:=ae.c1;have y2:=ae.c2;have aF:=ae.nm;have al:=ae.tb;simp only[]at y0 y1 y2 aF al;clear ae;have aj:Hid ((vR J ⟨a6,t2,o⟩)≠0->R=(vR J ⟨a6,t2,o⟩)):=iy fun h=>by
     have h1:=kN (vR J) aO ay h;have h2:=I.trans ((lR (by rw[h1];exact h)).trans h1);exact (aa (by rw[h2];exact h)).trans h2
    have a1:Hid ((vR J ⟨a6,t2,o⟩)=jD (jA a6) (jD (iX (!(t2==2)&&nq J t2 o) 5) 0)):=by show _=_;rw[kE];rfl
    have aQ:Hid ((vR J ⟨a6,t2,o⟩)=0->iw (vR J) (cl.take (m+1))=0):=iy fun h=>(kt (vR J) aO.out ay.out).trans h
    obtain⟨X2,ad⟩:∃X,X=(vR J ⟨a6,t2,o⟩):=⟨_,rfl⟩;replace a1:=iy (ad.trans a1.out);rw[<- ad]at aj aQ;clear ad;obtain⟨g9,bo⟩:=jt (rm.heap.size);obtain⟨W9,bD,aB,bx⟩:∃W,rm.alloc (.cells #[a6,t2,o] 178)=W/\Hid (∀U:yM,ik W U->U.cell? g9=a6/\U.cell? (g9,1)=t2/\U.cell? (g9,2)=o/\Le (g9+1) U/\U.cell? g=(eA,J,ec)/\Le (g+1) U)/\ik rm W:=by
     refine⟨_,rfl,fun U hU=>?_,iR⟩;have y0:=(jC rm 178 #[a6,t2,o]).after (w':=U);rw[bo]at y0;have q0:=ij hw (ij av (ij iR hU));exact⟨by rw[y0.cell];rfl,by rw[y0.cell];rfl,by rw[y0.cell];rfl,y0.is_le,(HL.out U q0).1,(HL.out U q0).2⟩
    have d9:=ij av bx;obtain⟨n0,n1,n2,aV,aU,aT⟩:=aB.out W9 (iq _);go_wp2_with fail;clear bD bo k0 k1 k2 a7 l0 ll;obtain⟨_,_,_,_,l0,ll⟩:=aB.out W9 (iq _);refine mP (HI a6 aF W9 (ij hw d9)) rfl a1 aj d9 ?_;clear a1;intro ak a1 ar;have aw:=ij d9 ar;have aM:=ij (iq W9) ar;obtain⟨n0,n1,n2,aV,l0,ll⟩:=aB ak (aM);by_cases au:t2=2
    ·replace a1:Hid (X2=jD (iX false 5) 0):=by show _=_;rw[a1.out,au];rfl
     have ah:(t2==2)=true:=by rw[beq_iff_eq];exact au
     have b2:(t2 != 2)=false:=by rw[bne,ah];rfl
     go_wp2_with fail;have aA:=ij hw aw;refine jf 15 (by kernel_rfl) (by kernel_rfl) ?_;simp only[sD,rP,uB,sS];repeat (go_big_quiet_step (fail))
     refine wpQuiet_nil ?_;rintro _ ⟨y_,rfl⟩;obtain⟨bh,ab,b0⟩:∃v,ak.more y_=v/\ik ak v:=⟨_,rfl,iR⟩;rw[ab];have bq:=ij aw b0;have bG:=ij (aM) b0;obtain⟨n0,n1,n2,aV,l0,ll⟩:=aB bh (bG);go_wp2_with fail;exact Nz (E:=iX false 5) (HM _ 5 (by decide) bh (ij hw bq)) rfl a1 aj bq
    have ah:(t2==2)=false:=by rw[beq_eq_false_iff_ne];exact au
    have b2:(t2 != 2)=true:=by rw[bne,ah];rfl
    replace a1:Hid (X2=jD (iX (nq J t2 o) 5) 0):=by show _=_;rw[a1.out,ah];rfl
    have HC:Hid (∀U,ik w0 U->Calls prog 121 #[(eA,J,ec),t2,o] U fun e w'=>e=.returned (.bool (nq J t2 o))/\∃z,w'=U.more z):=fun U hU=>HH t2 o al U hU
    obtain⟨hb,ba⟩:=jt (nq J t2 o);rw[ba]at HC a1;go_wp2_with fail;have aA:=ij hw aw;refine jf 15 (by kernel_rfl) (by kernel_rfl) ?_;simp only[sD,rP,uB,sS];repeat (go_big_quiet_step ((go_at_call 121;exact mR (HC _ zc))))
    refine wpQuiet_nil ?_;rintro _ ⟨y_,rfl⟩;obtain⟨aS,ab,aq⟩:∃v,ak.more y_=v/\ik ak v:=⟨_,rfl,iR⟩;rw[ab];have bd:=ij aw aq;have aL:=ij (aM) aq;obtain⟨n0,n1,n2,aV,l0,ll⟩:=aB aS (aL);go_wp2_with fail;refine mP (E:=iX hb 5) (HM hb 5 iI aS (ij hw bd)) rfl a1 aj bd ?_;clear a1;intro bA a1 bt;have bu:=ij (aL) bt;obtain⟨n0,n1,n2,aV,l0,ll⟩:=aB bA (bu);go_wp2_with fail;go_roundw
    case rel=>exact⟨m+1,iu,by go_num,iy (aQ a1),ij (a') (ij bx (bu))⟩
    case measure=>simp only[intOf];omega
   replace I:=iy (I.trans (kC (lh (vR J) an ay)));go_wp2_with fail;go_roundw
   case rel=>exact⟨j+1,iu,by go_num,iy (aR I),ij (ag) (ij ax (a'))⟩
   case measure=>simp only[intOf];omega
 replace ai:=iy (ai.trans (kC (lh (jN J port) ao az)));go_wp2_with fail;go_end0;exact by have hz:=ai.out;rw[hz];exact zF af
end Go.Proofs.YtnigblndonocfaaGreatDoor
