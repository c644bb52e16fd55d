/- A part of the proof. -/
import Derived.Test.YtnigblndonocfaaGreatDoorPLn
import Derived.Maps.StringElems
set_option linter.unusedVariables false
set_option linter.unusedSimpArgs false
namespace Go.Proofs.YtnigblndonocfaaGreatDoor
set_option maxRecDepth 100000
set_option maxHeartbeats 3200000
open Go.RowKit Go.BigFrame
section
def Tf (el:List iW) (t:Int):Prop:=3<=t->∃(s:ByteArray) (j:Nat),uv s el 0=some j/\t=3+(j:Int)
def RC (el:List iW) (o:sO):Prop:=3<=o.t->FV el o.t o.tag
def Kx (el:List iW) (d:FZ):Prop:=Tf el d.ty/\∀o∈d.clock,RC el o
def SI (el:List iW) (nms:List ByteArray) (t:Qb):Prop:=AX el t.cond/\∃(s:ByteArray) (j:Nat),vM s nms 0=some j/\t.dst=(j:Int)
def F5.nm:F5->ByteArray | .mk n _ _ _ _ _=>n
mutual
def Ry (el:List iW):BU->Prop
 |.mk l=>Fs el (l.map F5.nm) l
def tZ (el:List iW):List BU->Prop
 |[]=>True
 |a::l=>Ry el a/\tZ el l
def P3 (el:List iW) (nms:List ByteArray):F5->Prop
 |.mk n l e a u v=>(∀d∈l,Kx el d)/\(∀q∈e,AX el q.right)/\tZ el a/\(∀t∈u,SI el nms t)/\∀t∈v,SI el nms t
def Fs (el:List iW) (nms:List ByteArray):List F5->Prop
 |[]=>True
 |x::l=>P3 el nms x/\Fs el nms l
end
mutual
def RR:BU->Nat
 |.mk l=>1+LI l
def sY:List BU->Nat
 |[]=>0
 |a::l=>RR a+sY l
def Sh:F5->Nat
 |.mk n l e a u v=>1+e.length+sY a+u.length+v.length
def LI:List F5->Nat
 |[]=>0
 |x::l=>Sh x+LI l
end
structure QB (el:List iW) (n:D8):Prop where
 i:∀d∈n.ins,Kx el d
 o:∀d∈n.outs,Kx el d
 l:∀d∈n.locals,Kx el d
 q:∀q∈n.eqs,AX el q.right
 a:tZ el n.autos
 s:∀x∈n.assume,AX el x
 e:∀x∈n.ensure,AX el x
theorem GH {el:List iW}:∀{a b:List BU},tZ el a->tZ el b->tZ el (a++b)
 |[],b,_,h=>h
 |x::a,b,h,h'=>by
  rw[tZ]at h;rw[lP,tZ];exact⟨h.1,GH h.2 h'⟩
theorem G':∀a b:List BU,sY (a++b)=sY a+sY b
 |[],b=>by rw[sb,sY,t_]
 |x::a,b=>by rw[lP,sY,sY,G' a b,CL]
theorem mi:∀{l:List ByteArray} {ts r:List Tk} {u:Unit},iF l ts=some (u,r)->r.length+l.length<=ts.length
 |[],ts,r,u,h=>by
  unfold iF at h;injection h with h
  injection h with _ h
  rw[h];simp
 |s::l,ts,r,u,h=>by
  unfold iF at h;by_cases hs:jq s ts=true
  ·rw[iG hs]at h
   have:=mi h;cases ts with
   |nil=>cases hs
   |cons t ts=>rw[ry]at this;rw[py,py];omega
  rw[iV hs]at h;cases h
theorem pT {s:ByteArray} {ts:List Tk} (h:jq s ts=true):ts.tail.length+1=ts.length:=by
 cases ts with
 |nil=>cases h
 |cons t ts=>rfl
section
variable {el:List iW}
theorem Rt {ts r:List Tk} {tv:Int×Int} (h:l_ el ts=some (tv,r)):(3<=tv.1->FV el tv.1 tv.2)/\r.length+1<=ts.length:=by
 unfold l_ at h;by_cases I:jq ⟨#[116,114,117,101]⟩ ts=true
 ·rw[iG I]at h
  injection h with h;injection h with h h'
  have:=pT I;rw[<- h,<- h'];exact⟨fun j=>absurd j iI,iu⟩
 rw[iV I]at h;by_cases o:jq ⟨#[102,97,108,115,101]⟩ ts=true
 ·rw[iG o]at h
  injection h with h;injection h with h h'
  have:=pT o;rw[<- h,<- h'];exact⟨fun j=>absurd j iI,iu⟩
 rw[iV o]at h;cases hi:pV ts with
 |none=>rw[hi]at h;cases h
 |some p=>
 obtain⟨s,J⟩:=p;rw[hi]at h;have:=mm hi;cases ht:qh el s with
 |none=>simp only[ht]at h;cases h
 |some tv'=>
 simp only[ht]at h;injection h with h;injection h with h h'
 rw[<- h,<- h'];exact⟨fun _=>⟨s,ht⟩,iu⟩
theorem Ph {ts r:List Tk} {o:sO} (h:mD el ts=some (o,r)):RC el o/\r.length+1<=ts.length:=by
 unfold mD at h;obtain⟨⟨tv,r1⟩,R,h⟩:=mW.1 h;obtain⟨⟨_,r2⟩,J,h⟩:=mW.1 h;obtain⟨⟨s,r3⟩,I,h⟩:=mW.1 h;obtain⟨⟨_,r4⟩,j,h⟩:=mW.1 h;injection h with h;injection h with h h'
 have g1:=Rt R;have g2:=mi J;have g3:=mm I;have U:=mi j;simp only[xH]at g2 U;rw[<- h,<- h'];exact⟨g1.1,by omega⟩
theorem Ql:∀{m:Nat} {l l':List sO} {ts r:List Tk},pX el m l ts=some (l',r)->(∀o∈l,RC el o)->(∀o∈l',RC el o)/\r.length<=ts.length
 |m,l,l',ts,r,h,hl=>by
  unfold pX at h;by_cases hs:jq ⟨#[119,104,101,110]⟩ ts=true
  ·rw[iG hs]at h
   cases m with
   |zero=>cases h
   |succ m=>
   obtain⟨⟨o,r1⟩,h1,h⟩:=mW.1 h;have g1:=Ph h1;have g2:=Ql (m:=m) h (by
    intro x hx;rcases ue.1 hx with hx | hx
    ·exact hl x hx
    rw[yw.1 hx];exact g1.1)
   have:=pT hs;exact⟨g2.1,iu⟩
  rw[iV hs]at h;injection h with h;injection h with h h'
  rw[<- h,<- h'];exact⟨hl,js _⟩
theorem SS {ts r:List Tk} {t:Int} (h:Ma el ts=some (t,r)):Tf el t/\r.length+1<=ts.length:=by
 unfold Ma at h;by_cases J:jq ⟨#[98,111,111,108]⟩ ts=true
 ·rw[iG J]at h
  injection h with h;injection h with h h'
  have:=pT J;rw[<- h,<- h'];exact⟨fun o=>absurd o iI,iu⟩
 rw[iV J]at h;by_cases I:jq ⟨#[105,110,116]⟩ ts=true
 ·rw[iG I]at h
  injection h with h;injection h with h h'
  have:=pT I;rw[<- h,<- h'];exact⟨fun o=>absurd o iI,iu⟩
 rw[iV I]at h;obtain⟨⟨s,U⟩,R,h⟩:=mW.1 h;have:=mm R;cases hj:uv s el 0 with
 |none=>simp only[hj]at h;cases h
 |some j=>
 simp only[hj]at h;injection h with h;injection h with h h'
 rw[<- h,<- h'];exact⟨fun _=>⟨s,j,hj,rfl⟩,iu⟩
theorem QI {ts r:List Tk} {d:FZ} (h:wG el ts=some (d,r)):Kx el d/\r.length+1<=ts.length:=by
 unfold wG at h;obtain⟨⟨s,r1⟩,U,h⟩:=mW.1 h;obtain⟨⟨_,r2⟩,R,h⟩:=mW.1 h;obtain⟨⟨t,r3⟩,J,h⟩:=mW.1 h;obtain⟨⟨l,r4⟩,I,h⟩:=mW.1 h;injection h with h;injection h with h h'
 have g1:=mm U;have g2:=mi R;have g3:=SS J;have g4:=Ql I (fun o j=>by cases j);rw[<- h,<- h'];exact⟨⟨g3.1,g4.1⟩,by simp only[xH]at g2;omega⟩
theorem By {b:Bool}:∀{m:Nat} {l l':List FZ} {ts r:List Tk},mv el b m l ts=some (l',r)->(∀d∈l,Kx el d)->(∀d∈l',Kx el d)/\l'.length+r.length<=l.length+ts.length
 |0,l,l',ts,r,h,hl=>by cases h
 |m+1,l,l',ts,r,h,hl=>by
  unfold mv at h;obtain⟨⟨d,r1⟩,h1,h⟩:=mW.1 h;have g1:=QI h1;have hl2:∀x∈l++[d],Kx el x:=by
   intro x j;rcases ue.1 j with j | j
   ·exact hl x j
   rw[yw.1 j];exact g1.1
  dsimp only at h;split at h
  ·injection h with h;injection h with h h'
   rw[<- h,<- h'];exact⟨hl2,by rw[mo,xH];omega⟩
  have o:=By h hl2;rw[mo,xH]at o;have:r1.tail.length<=r1.length:=by rw[List.length_tail];omega
  exact⟨o.1,iu⟩
theorem Hj {l:List FZ} {ts r:List Tk} (h:oG el ts=some (l,r)):(∀d∈l,Kx el d)/\l.length+r.length<=ts.length:=by
 unfold oG at h;by_cases o:jq ⟨#[118,97,114]⟩ ts=true
 ·rw[iG o]at h
  obtain⟨⟨l1,r1⟩,R,h⟩:=mW.1 h;obtain⟨⟨_,U⟩,J,h⟩:=mW.1 h;injection h with h;injection h with h h'
  have I:=By R (fun d j=>by cases j);have g3:=mi J;have:=pT o;rw[<- h,<- h'];simp only[wJ]at I;exact⟨I.1,by omega⟩
 rw[iV o]at h;injection h with h;injection h with h h'
 rw[<- h,<- h'];exact⟨fun d j=>(by cases j),(by simp)⟩
theorem Ti (htag:∀u∈el,u.tags.l.length<=16) (hel:el.length<=1000) {k:Nat} {x:En} {ts r:List Tk} (h:Lm el k ts=some (x,r)):AX el x.right/\r.length+1<=ts.length:=by
 have j:=FD htag hel h;refine⟨?_,j⟩;unfold Lm at h;obtain⟨⟨l,r1⟩,h1,h⟩:=mW.1 h;obtain⟨⟨_,U⟩,h2,h⟩:=mW.1 h;obtain⟨⟨I,R⟩,o,h⟩:=mW.1 h;obtain⟨⟨_,J⟩,h4,h⟩:=mW.1 h;injection h with h;injection h with h h'
 rw[<- h];exact (uN htag hel o).1
theorem Mz (htag:∀u∈el,u.tags.l.length<=16) (hel:el.length<=1000) {k:Nat} {wd:ByteArray}:∀{m:Nat} {l l':List wo} {ts r:List Tk},pD el k wd m l ts=some (l',r)->(∀t∈l,AX el t.cond)->(∀t∈l',AX el t.cond)/\l'.length+r.length<=l.length+ts.length
 |m,l,l',ts,r,h,hl=>by
  unfold pD at h;by_cases hs:jq wd ts=true
  ·rw[iG hs]at h
   have h0:=pT hs;cases m with
   |zero=>cases h
   |succ m=>
   obtain⟨⟨x,r1⟩,h1,h⟩:=mW.1 h;dsimp only at h;obtain⟨⟨b,r2⟩,h2,h⟩:=mW.1 h;dsimp only at h;obtain⟨⟨s,r3⟩,h3,h⟩:=mW.1 h;dsimp only at h;obtain⟨⟨_,r4⟩,h4,h⟩:=mW.1 h;dsimp only at h;have g1:=uN htag hel h1;have g2:r2.length<=r1.length:=by
    split at h2
    ·injection h2 with h2;injection h2 with _ h2
     rw[<- h2,List.length_tail];omega
    obtain⟨⟨_,J⟩,R,o⟩:=mW.1 h2;have:=mi R;injection o with o;injection o with _ o
    rw[<- o];show J.length<=_;omega
   have g3:=mm h3;have U:=mi h4;have I:=Mz htag hel (m:=m) h (by
    intro y j;rcases ue.1 j with j | j
    ·exact hl y j
    rw[yw.1 j];exact g1.1)
   rw[mo,xH]at I;exact⟨I.1,by omega⟩
  rw[iV hs]at h;injection h with h;injection h with h h'
  rw[<- h,<- h'];exact⟨hl,js _⟩
theorem xq {α β:Type} {f:α->Option β}:∀{l:List α} {l':List β},l.mapM f=some l'->l'.length=l.length/\∀y∈l',∃x∈l,f x=some y
 |[],l',h=>by
  rw[List.mapM_nil]at h;injection h with h
  rw[<- h];exact⟨rfl,fun y hy=>by cases hy⟩
 |a::l,l',h=>by
  rw[Cx]at h;obtain⟨b,h1,h⟩:=mW.1 h;obtain⟨bs,h2,h⟩:=mW.1 h;injection h with h
  rw[<- h];have ih:=xq h2;refine⟨by rw[py,py,ih.1],fun y hy=>?_⟩;rcases uW.1 hy with hy | hy
  ·exact⟨a,nG,by rw[hy];exact h1⟩
  obtain⟨x,hx,h3⟩:=ih.2 y hy;exact⟨x,qj _ hx,h3⟩
def Th (el:List iW) (x:Ci):Prop:=(∀d∈x.locals,Kx el d)/\(∀q∈x.eqs,AX el q.right)/\tZ el x.autos/\(∀t∈x.unl,AX el t.cond)/\∀t∈x.unt,AX el t.cond
def Te (x:Ci):Nat:=1+x.eqs.length+sY x.autos+x.unl.length+x.unt.length
def zY:List Ci->Nat
 |[]=>0
 |x::l=>Te x+zY l
theorem F8:∀a b:List Ci,zY (a++b)=zY a+zY b
 |[],b=>by rw[sb,zY,t_]
 |x::a,b=>by rw[lP,zY,zY,F8 a b,CL]
theorem M4 {nms:List ByteArray} {l:List wo} {l':List Qb} (h:l.mapM (yp nms)=some l') (hl:∀t∈l,AX el t.cond):∀t∈l',SI el nms t:=fun y hy=>by
 obtain⟨x,hx,h1⟩:=(xq h).2 y hy;unfold yp at h1;cases hj:vM x.to_ nms 0 with
 |none=>rw[hj]at h1;cases h1
 |some j=>
 rw[hj]at h1;injection h1 with h1
 rw[<- h1];exact⟨hl x hx,x.to_,j,hj,rfl⟩
theorem Qz {nms:List ByteArray} {x:Ci} {y:F5} (h:wW nms x=some y) (hx:Th el x):P3 el nms y/\Sh y=Te x/\F5.nm y=x.name:=by
 unfold wW at h;obtain⟨u,o,h⟩:=mW.1 h;obtain⟨v,j,h⟩:=mW.1 h;injection h with h
 obtain⟨g1,U,R,J,I⟩:=hx;rw[<- h];refine⟨by rw[P3];exact⟨g1,U,R,M4 o J,M4 j I⟩,?_,rfl⟩;rw[Sh,(xq o).1,(xq j).1];rfl
theorem J5 {nms:List ByteArray}:∀{l:List Ci} {l':List F5},l.mapM (wW nms)=some l'->(∀x∈l,Th el x)->Fs el nms l'/\LI l'=zY l/\l'.map F5.nm=l.map Ci.name
 |[],l',h,_=>by
  rw[List.mapM_nil]at h;injection h with h
  rw[<- h];exact⟨by rw[Fs];trivial,rfl,rfl⟩
 |a::l,l',h,hl=>by
  rw[Cx]at h;obtain⟨b,h1,h⟩:=mW.1 h;obtain⟨bs,h2,h⟩:=mW.1 h;injection h with h
  rw[<- h];have g1:=Qz h1 (hl a nG);have g2:=J5 h2 fun x hx=>hl x (qj _ hx)
  exact⟨by rw[Fs];exact⟨g1.1,g2.1⟩,by rw[LI,zY,g1.2.1,g2.2.1],by rw[mJ,mJ,g1.2.2,g2.2.2]⟩
theorem NT (htag:∀u∈el,u.tags.l.length<=16) (hel:el.length<=1000):∀k:Nat,
  (∀(m:Nat) (es es':List En) (as_ as':List BU) (ts r:List Tk),mu el k m es as_ ts=some ((es',as'),r)->(∀q∈es,AX el q.right)->tZ el as_->(∀q∈es',AX el q.right)/\tZ el as'/\es'.length+sY as'+r.length<=es.length+sY as_+ts.length) /\
  (∀(m:Nat) (ss:List Ci) (a:BU) (ts r:List Tk),pq el k m ss ts=some (a,r)->(∀x∈ss,Th el x)->Ry el a/\RR a+r.length<=1+zY ss+ts.length)
 |0=>⟨fun m es es' as_ as' ts r h=>(by rw[mu]at h;cases h),fun m ss a ts r h=>(by rw[pq]at h;cases h)⟩
 |k+1=>by
  obtain⟨ihB,ihA⟩:=NT htag hel k;refine⟨fun m es es' as_ as' ts r h he ha=>?_,fun m ss a ts r h hs=>?_⟩
  ·rw[mu]at h
   by_cases h1:jq ⟨#[97,117,116,111,109,97,116,111,110]⟩ ts=true
   ·rw[iG h1]at h
    have h0:=pT h1;split at h
    ·cases h
    obtain⟨⟨a,r1⟩,h2,h⟩:=mW.1 h;dsimp only at h;have g1:=ihA _ _ _ _ _ h2 (fun x hx=>by cases hx);have g2:=ihB _ _ _ _ _ _ _ h he (GH ha (by rw[tZ,tZ];exact⟨g1.1,trivial⟩));rw[G',sY,sY]at g2;rw[zY]at g1;exact⟨g2.1,g2.2.1,iu⟩
   rw[iV h1]at h;split at h
   ·split at h
    ·cases h
    obtain⟨⟨x,r1⟩,h2,h⟩:=mW.1 h;dsimp only at h;have g1:=Ti htag hel h2;have g2:=ihB _ _ _ _ _ _ _ h (by
     intro y hy;rcases ue.1 hy with hy | hy
     ·exact he y hy
     rw[yw.1 hy];exact g1.1) ha
    rw[mo,xH]at g2;exact⟨g2.1,g2.2.1,iu⟩
   injection h with h;injection h with h h';injection h with h h''
   rw[<- h,<- h',<- h''];exact⟨he,ha,js _⟩
  rw[pq]at h;by_cases h1:jq ⟨#[115,116,97,116,101]⟩ ts=true
  ·rw[iG h1]at h
   have h0:=pT h1;split at h
   ·cases h
   obtain⟨⟨s,r1⟩,h2,h⟩:=mW.1 h;dsimp only at h;obtain⟨⟨lo,r2⟩,h3,h⟩:=mW.1 h;dsimp only at h;obtain⟨⟨u,r3⟩,h4,h⟩:=mW.1 h;dsimp only at h;obtain⟨⟨_,r4⟩,h5,h⟩:=mW.1 h;dsimp only at h;obtain⟨⟨⟨b1,b2⟩,r5⟩,h6,h⟩:=mW.1 h;dsimp only at h;obtain⟨⟨v,r6⟩,h7,h⟩:=mW.1 h;dsimp only at h;obtain⟨⟨_,r7⟩,h8,h⟩:=mW.1 h;dsimp only at h;have g2:=mm h2;have g3:=Hj h3;have g4:=Mz htag hel h4 (fun x hx=>by cases hx);have g5:=mi h5;have g6:=ihB _ _ _ _ _ _ _ h6 (fun x hx=>by cases hx) (by rw[tZ];trivial);have g7:=Mz htag hel h7 (fun x hx=>by cases hx);have g8:=mi h8;have g9:=ihA _ _ _ _ _ h (by
    intro x hx;rcases ue.1 hx with hx | hx
    ·exact hs x hx
    rw[yw.1 hx];exact⟨g3.1,g6.1,g6.2.1,g4.1,g7.1⟩)
   have g6':=g6.2.2;rw[F8,zY,zY]at g9;have g9':=g9.2;unfold Te at g9';simp only[wJ,sY]at g4 g6' g7 g9';exact⟨g9.1,by omega⟩
  rw[iV h1]at h;obtain⟨⟨_,r1⟩,h2,h⟩:=mW.1 h;dsimp only at h;obtain⟨l,h3,h⟩:=mW.1 h;injection h with h;injection h with h h'
  have g1:=mi h2;obtain⟨g2,g3,g4⟩:=J5 h3 hs;rw[<- h,<- h',RR,Ry,g4,g3];exact⟨g2,by omega⟩
theorem MS (htag:∀u∈el,u.tags.l.length<=16) (hel:el.length<=1000) {k:Nat}:∀{f:Nat} {as_ en as' en':List Ex} {ts r:List Tk},ox el k f as_ en ts=some ((as',en'),r)->(∀x∈as_,AX el x)->(∀x∈en,AX el x)->(∀x∈as',AX el x)/\(∀x∈en',AX el x)/\r.length<=ts.length
 |0,as_,en,as',en',ts,r,h,ha,he=>by
  rw[ox]at h;split at h
  ·cases h
  injection h with h;injection h with h h';injection h with h h''
  rw[<- h,<- h',<- h''];exact⟨ha,he,js _⟩
 |f+1,as_,en,as',en',ts,r,h,ha,he=>by
  rw[ox]at h;by_cases h1:jq ⟨#[97,115,115,117,109,101]⟩ ts=true
  ·rw[iG h1]at h
   have h0:=pT h1;split at h
   ·cases h
   obtain⟨⟨x,r1⟩,h2,h⟩:=mW.1 h;dsimp only at h;obtain⟨⟨_,r2⟩,h3,h⟩:=mW.1 h;dsimp only at h;have g1:=uN htag hel h2;have g2:=mi h3;have g3:=MS htag hel h (by
    intro y hy;rcases ue.1 hy with hy | hy
    ·exact ha y hy
    rw[yw.1 hy];exact g1.1) he
   exact⟨g3.1,g3.2.1,iu⟩
  rw[iV h1]at h;by_cases h2:jq ⟨#[101,110,115,117,114,101]⟩ ts=true
  ·rw[iG h2]at h
   have h0:=pT h2;split at h
   ·cases h
   obtain⟨⟨x,r1⟩,h2,h⟩:=mW.1 h;dsimp only at h;obtain⟨⟨_,r2⟩,h3,h⟩:=mW.1 h;dsimp only at h;have g1:=uN htag hel h2;have g2:=mi h3;have g3:=MS htag hel h ha (by
    intro y hy;rcases ue.1 hy with hy | hy
    ·exact he y hy
    rw[yw.1 hy];exact g1.1)
   exact⟨g3.1,g3.2.1,by omega⟩
  rw[iV h2]at h;injection h with h;injection h with h h';injection h with h h''
  rw[<- h,<- h',<- h''];exact⟨ha,he,js _⟩
theorem QC (htag:∀u∈el,u.tags.l.length<=16) (hel:el.length<=1000) {k:Nat} {n:D8} {ts r:List Tk} (h:uO el k ts=some (n,r)):QB el n/\n.eqs.length+sY n.autos+r.length<=ts.length:=by
 unfold uO at h;obtain⟨⟨s,r1⟩,h1,h⟩:=mW.1 h;dsimp only at h;obtain⟨⟨_,r2⟩,h2,h⟩:=mW.1 h;dsimp only at h;obtain⟨⟨is,r3⟩,o,h⟩:=mW.1 h;dsimp only at h;obtain⟨⟨_,r4⟩,h4,h⟩:=mW.1 h;dsimp only at h;obtain⟨⟨os,r5⟩,h5,h⟩:=mW.1 h;dsimp only at h;obtain⟨⟨_,r6⟩,h6,h⟩:=mW.1 h;dsimp only at h;obtain⟨⟨lo,r7⟩,h7,h⟩:=mW.1 h;dsimp only at h;obtain⟨⟨⟨a8,en⟩,r8⟩,h8,h⟩:=mW.1 h;dsimp only at h;obtain⟨⟨_,r9⟩,h9,h⟩:=mW.1 h;dsimp only at h;obtain⟨⟨⟨b1,b2⟩,a6⟩,a1,h⟩:=mW.1 h;dsimp only at h;obtain⟨⟨_,R⟩,U,h⟩:=mW.1 h;dsimp only at h;injection h with h;injection h with h h'
 have g1:=mm h1;have g2:=mi h2;have g3:(∀d∈is,Kx el d)/\r3.length<=r2.length:=by
  split at o
  ·injection o with o;injection o with o h3'
   rw[<- o,<- h3'];exact⟨fun d j=>(by cases j),js _⟩
  have:=By o (fun d j=>by cases j);exact⟨this.1,by simp only[wJ]at this;omega⟩
 have g4:=mi h4;have g5:=By h5 (fun d j=>by cases j);have g6:=mi h6;have g7:=Hj h7;have g8:=MS htag hel h8 (fun d j=>by cases j) (fun d j=>by cases j);have g9:=mi h9;have I:=(NT htag hel k).1 _ _ _ _ _ _ _ a1 (fun d j=>by cases j) (by rw[tZ];trivial);have a7:=mi U;have J:=I.2.2;simp only[wJ,sY]at g5 J;rw[<- h,<- h'];exact⟨⟨g3.1,g5.1,g7.1,I.1,I.2.1,g8.1,g8.2.1⟩,by show b1.length+sY b2+R.length<=ts.length;omega⟩
def yh:List D8->Nat
 |[]=>0
 |n::l=>n.eqs.length+sY n.autos+yh l
theorem G8:∀a b:List D8,yh (a++b)=yh a+yh b
 |[],b=>by rw[sb,yh,t_]
 |x::a,b=>by rw[lP,yh,yh,G8 a b];omega
theorem FB (htag:∀u∈el,u.tags.l.length<=16) (hel:el.length<=1000) {k:Nat}:∀{m:Nat} {l l':List D8} {ts r:List Tk},mQ el k m l ts=some (l',r)->(∀n∈l,QB el n)->(∀n∈l',QB el n)/\yh l'+r.length<=yh l+ts.length
 |m,l,l',ts,r,h,hl=>by
  unfold mQ at h;by_cases hs:jq ⟨#[110,111,100,101]⟩ ts=true
  ·rw[iG hs]at h
   have h0:=pT hs;cases m with
   |zero=>cases h
   |succ m=>
   obtain⟨⟨x,r1⟩,h1,h⟩:=mW.1 h;dsimp only at h;have g1:=QC htag hel h1;have g2:=FB htag hel (m:=m) h (by
    intro y hy;rcases ue.1 hy with hy | hy
    ·exact hl y hy
    rw[yw.1 hy];exact g1.1)
   rw[G8,yh,yh]at g2;exact⟨g2.1,by omega⟩
  rw[iV hs]at h;injection h with h;injection h with h h'
  rw[<- h,<- h'];exact⟨hl,js _⟩
end
end
section
open Go.Proofs.Tryz
theorem jh {A B:ByteArray} {a b:List UInt8} (ha:A=lG a) (hb:B=lG b) (h:a.length+b.length<=9223372036854775807) :
  ∃S,S=lG (a++b)/\∀w:World,(Op.stringOp .add A B).run prog w=.ok (.string S) w:=
 ⟨_,rfl,fun w=>by rw[run_string_add_sum w A B (by rw[ha,hb,yK,yK];exact h),ha,hb,Pw]⟩
section
variable {w0:World} {eA:Option Addr} {ec:Nat} {el:List iW} {mb:Nat}
theorem Ak (h:ID w0 eA ec el) (w:World) (hw:ik w0 w) (t v:Int) (ht:qS el t) (hv:nq el t v=true) :
  Calls prog 87 #[.agg #[.slice eA el.length ec,.map (some mb)],t,v] w fun e w'=>e=.returned (.string (lG (iY (wm el t v))))/\∃y,w'=w.more y:=by
 have j:=iy (fun U (o:ik w U)=>Mw h U (ij hw o) t v ht hv);rw[<- PC]at j;generalize lG (iY (wm el t v))=s at j;go_in;go_wp2_with fail;refine (j _ iR).mono ?_;rintro e w' ⟨rfl,y,rfl⟩;go_wp2;go_ret;exact⟨rfl,jP _ _⟩
theorem IB (w:World) (k o t v:Int) (s:ByteArray) (A:Option Addr) (n c:Nat) (xs:List Ex) :
  Calls prog 133 #[.agg #[k,o,t,v,s,.slice A n c]] w fun e w'=>e=.returned (.bool (kb (.mk k o t v s xs)))/\∃y,w'=w.more y:=by
 rw[kb];by_cases h2:k=2
 ·subst h2
  go_in;go_wp2;go_ret;exact⟨rfl,jP _ _⟩
 by_cases j:k=11
 ·subst j
  go_in;go_wp2;go_ret;exact⟨rfl,jP _ _⟩
 by_cases I:k=10
 ·subst I
  go_in;go_wp2;go_ret;exact⟨rfl,jP _ _⟩
 have b2:(k==2)=false:=by simpa using h2
 have J:(k==11)=false:=by simpa using j
 have R:(k==10)=false:=by simpa using I
 by_cases h1:k=1
 ·subst h1
  by_cases U:t=2
  ·subst U
   go_in;go_wp2;go_ret;exact⟨by simp,jP _ _⟩
  have bt:(t==2)=false:=by simpa using U
  go_in;go_wp2;go_ret;exact⟨by rw[bt];rfl,jP _ _⟩
 have b1:(k==1)=false:=by simpa using h1
 go_in;go_wp2;go_ret;exact⟨by rw[b1,b2,R,J];rfl,jP _ _⟩
theorem yH (h:ID w0 eA ec el) (w:World) (hw:ik w0 w) (t v:Int) (s:ByteArray) (hs:s.size<=140737488355328) (ht:qS el t) (hv:nq el t v=true) (hl:(iY (wm el t v)).length<=140737488355328) :
  Calls prog 90 #[.agg #[.slice eA el.length ec,.map (some mb)],.agg #[s,t,v]] w fun e w'=>e=.returned (.string (lG (iY (FX el t v s))))/\∃y,w'=w.more y:=by
 have HC:=iy (fun U (hU:ik w U)=>Ak (mb:=mb) h U (ij hw hU) t v ht hv);have j:lG (iY (FX el t v s))=lG (((([119,104,101,110,32]++iY (wm el t v))++[40])++s.data.toList)++[41]):=by
  unfold FX;rw[kH,jn,iC,jl,lQ,jl,ja];simp
 rw[j];generalize iY (wm el t v)=x at HC hl;obtain⟨S1,R,c1⟩:=jh (A:=⟨#[119,104,101,110,32]⟩) (a:=[119,104,101,110,32]) (B:=lG x) rfl rfl (by simp;omega);obtain⟨S2,J,c2⟩:=jh (B:=⟨#[40]⟩) (b:=[40]) R rfl (by simp;omega);obtain⟨S3,I,c3⟩:=jh (B:=s) J (qd s).symm (by simp;omega);obtain⟨S4,o,c4⟩:=jh (B:=⟨#[41]⟩) (b:=[41]) I rfl (by simp;omega);rw[<- o];clear h ht hv j R J I o;go_in;go_wp2_with fail;refine iE kp kp ?_;repeat (go_big_quiet_step ((go_at_call 87;with_reducible exact mR (HC.out _ iR))))
 refine wpQuiet_nil ?_;rintro _ ⟨y,rfl⟩;go_wp2;go_ret;exact⟨rfl,jP _ _⟩
def qE (eA:Option Addr) (n ec mb:Nat):Value:=.agg #[.slice eA n ec,.map (some mb)]
def vr (k o t v:Int) (s:ByteArray) (A:Option Addr) (n c:Nat):Value:=.agg #[k,o,t,v,s,.slice A n c]
def oC (f:Nat) (w:World) (W x:Value) (l:List Pc):Prop:=∀U,ik w U->Calls prog f #[W,x] U fun e w'=>e=.returned (.string (lG (iY l)))/\∃z,w'=U.more z
theorem Ge (w:World) (k o t v:Int) (s:ByteArray) (A:Option Addr) (n c:Nat) (xs:List Ex) (l:List Pc) (hl:(iY l).length<=140737488355328) (ci:Bool)
  (HX:oC 47 w (qE eA el.length ec mb) (vr k o t v s A n c) l) :
  oC 89 w (qE eA el.length ec mb) (vr k o t v s A n c) (kM ⟨kb (.mk k o t v s xs),ci,l⟩):=by
 intro U hU;have j:=iy (fun U=>IB U k o t v s A n c xs);have I:=iy (fun V (hV:ik U V)=>HX V (ij hU hV));unfold qE vr at I⊢;cases hp:kb (.mk k o t v s xs) with
 |true=>
  rw[hp]at j;unfold kM;rw[iG rfl];clear hp HX;go_in;go_wp2_with fail;refine (j _).mono ?_;rintro e J ⟨rfl,y,rfl⟩;go_wp2_with fail;refine (I _ iR).mono ?_;rintro e J ⟨rfl,y2,rfl⟩;go_wp2;go_ret;exact⟨rfl,jP _ _⟩
 |false=>
 rw[hp]at j;have R:lG (iY (kM ⟨false,ci,l⟩))=lG (([40]++iY l)++[41]):=by
  unfold kM;rw[iV (by simp),jl,iC,jl,ja];rfl
 rw[R];generalize iY l=x at I hl;obtain⟨S1,e1,c1⟩:=jh (A:=⟨#[40]⟩) (a:=[40]) (B:=lG x) rfl rfl (by simp;omega);obtain⟨S2,e2,c2⟩:=jh (B:=⟨#[41]⟩) (b:=[41]) e1 rfl (by simp;omega);rw[<- e2];clear hp HX R e1 e2;go_in;go_wp2_with fail;refine (j _).mono ?_;rintro e J ⟨rfl,y,rfl⟩;go_wp2_with fail;refine (I _ iR).mono ?_;rintro e J ⟨rfl,y2,rfl⟩;go_wp2;go_ret;exact⟨rfl,jP _ _⟩
end
end
section
open Go.Proofs.Tryz
def Td:List (Int×ByteArray):=[(3,⟨#[97,110,100]⟩),(4,⟨#[111,114]⟩),(5,⟨#[120,111,114]⟩),(6,⟨#[43]⟩),(7,⟨#[45]⟩),(8,⟨#[42]⟩),(9,⟨#[47]⟩),(10,⟨#[109,111,100]⟩),(11,⟨#[61]⟩),(12,⟨#[60,62]⟩),(13,⟨#[60]⟩),(14,⟨#[60,61]⟩),(15,⟨#[62]⟩),(16,⟨#[62,61]⟩)]
def GG:DataW Unit:=Td.foldl (fun D x=>D.put (.int .i64 x.1) (.lit (.string x.2.data.toList))) (.map [])
abbrev uH (w:World) (b n:Nat) (D:DataW Unit):Prop:=w.ownsMap prog 3 (plainElem prog 9) b n D
theorem Nk:Maps.Keyed prog 3:=Maps.int_keyed underlying3
theorem uH.put {w:World} {b n:Nat} {D:DataW Unit} (h:uH w b n D) (hn:n<100) (k:Int) (hk:(Lit.int .i64 k).wf=true) (s:ByteArray) (hs:s.size<=100) :
  ∃w',(Instr.mapUpdate 45 (.map (some b)) (.int .i64 k) (.string s)).run prog w=.ok () w'/\uH w' b (n+1) (D.put (.int .i64 k) (.lit (.string s.data.toList)))/\w.grownBy w' (some b):=
 World.ownsMap.update h Nk underlying45 (by unfold maxLen;omega) (Maps.keyOf_int_mk underlying3 hk) (plainElem_string underlying9 (by unfold maxLen;omega))
theorem uH.here {w:World} {b n:Nat} {D:DataW Unit} (h:uH w b n D) (U:World) (a:ik w U):uH U b n D:=by
 have o:=World.ownsMap.lt h;obtain⟨es,j,J,F,I,R⟩:=h;exact⟨es,j,(a.below.block b o).trans J,F,I,R⟩
def IJ (o:Int):ByteArray:=match GG.atKey (.int .i64 o) (.lit (.string [])) with
 |.lit (.string c)=>lG c
 |_=>⟨#[]⟩
theorem MT {w:World} {b n:Nat} (h:uH w b n GG) (o:Int) (ho:(Lit.int .i64 o).wf=true) (U:World) [a:ik w U] :
  (Instr.lookup 45 (.map (some b)) (.int .i64 o) false).run prog U=.ok (.string (IJ o)) U:=by
 have R:=h.here U a;obtain⟨v,ps,j,I⟩:=World.ownsMap.lookup R Nk underlying45 (z:=.string ⟨#[]⟩) kp (plainElem_string underlying9 iI) (Maps.keyOf_int_mk underlying3 ho);obtain⟨c,rfl,J,_⟩:=plainElem_string_inv underlying9 I;rw[j];have h9:GG.atKey (.int .i64 o) (.lit (.string []))=.lit (.string c.data.toList):=nQ Prod.fst J;have:IJ o=c:=by unfold IJ;rw[h9];exact qd c
 rw[this]
theorem Nx (o:Int) (h3:3<=o) (h16:o<=16):(IJ o).data.toList=iY [z_ o]:=by
 rcases (by omega:o=3\/o=4\/o=5\/o=6\/o=7\/o=8\/o=9\/o=10\/o=11\/o=12\/o=13\/o=14\/o=15\/o=16) with h | h | h | h | h | h | h | h | h | h | h | h | h | h<;>(subst h;decide +kernel)
theorem Dw (A:Option Addr) (n c:Nat) (w:World):Calls prog 16 #[.slice A n c] w fun e w'=>∃b,e=.returned (qE A n c b)/\uH w' b 14 GG/\w.heap.size<=b/\ik w w':=by
 have aq:=@run_makeMap prog;have o0:uH ((w.alloc (.cells #[.slice none 0 0,.map none] 47)).alloc (.map #[] 0)) (w.heap.size+1) 0 (.map []):=by
  have:=World.ownsMap_made (w.alloc (.cells #[.slice none 0 0,.map none] 47)) prog 3 (plainElem (H:=Unit) prog 9);simpa using this
 obtain⟨w1,r1,o1,g1⟩:=o0.put (by decide) 3 (by decide) ⟨#[97,110,100]⟩ (by decide);obtain⟨w2,r2,o2,g2⟩:=o1.put (by decide) 4 (by decide) ⟨#[111,114]⟩ (by decide);obtain⟨w3,r3,o3,g3⟩:=o2.put (by decide) 5 (by decide) ⟨#[120,111,114]⟩ (by decide);obtain⟨w4,r4,o4,g4⟩:=o3.put (by decide) 6 (by decide) ⟨#[43]⟩ (by decide);obtain⟨w5,r5,o5,g5⟩:=o4.put (by decide) 7 (by decide) ⟨#[45]⟩ (by decide);obtain⟨w6,r6,o6,g6⟩:=o5.put (by decide) 8 (by decide) ⟨#[42]⟩ (by decide);obtain⟨w7,r7,o7,g7⟩:=o6.put (by decide) 9 (by decide) ⟨#[47]⟩ (by decide);obtain⟨w8,r8,o8,g8⟩:=o7.put (by decide) 10 (by decide) ⟨#[109,111,100]⟩ (by decide);obtain⟨w9,r9,o9,g9⟩:=o8.put (by decide) 11 (by decide) ⟨#[61]⟩ (by decide);obtain⟨ah,an,ab,a7⟩:=o9.put (by decide) 12 (by decide) ⟨#[60,62]⟩ (by decide);obtain⟨ag,al,aa,a6⟩:=ab.put (by decide) 13 (by decide) ⟨#[60]⟩ (by decide);obtain⟨af,ak,a',a1⟩:=aa.put (by decide) 14 (by decide) ⟨#[60,61]⟩ (by decide);obtain⟨ae,aj,a_,U⟩:=a'.put (by decide) 15 (by decide) ⟨#[62]⟩ (by decide);obtain⟨o,ai,a8,R⟩:=a_.put (by decide) 16 (by decide) ⟨#[62,61]⟩ (by decide);have j:some w.heap.size≠some (w.heap.size+1):=by simp
 have B0:iP ((w.alloc (.cells #[.slice none 0 0,.map none] 47)).alloc (.map #[] 0)) w.heap.size 47 #[.slice none 0 0,.map none]:=(jC w _ _).alloc _;have J:iP o w.heap.size 47 #[.slice none 0 0,.map none]:=((((((((((((((B0.grown g1 j).grown g2 j).grown g3 j).grown g4 j).grown g5 j).grown g6 j).grown g7 j).grown g8 j).grown g9 j).grown a7 j).grown a6 j).grown a1 j).grown U j).grown R j);have k0:=J.cell 0;have k1:=J.cell 1;have f0:=J.frozen 0;have f1:=J.frozen 1;have ao:w.heap.size<o.heap.size:=J.lt;have HO:=iB a8;have HA:Hid (ik w o):=jS (jS (jS (jS (jS (jS (jS (jS (jS (jS (jS (jS (jS (jS (w1:=(w.alloc (.cells #[.slice none 0 0,.map none] 47)).alloc (.map #[] 0)) inferInstance g1 (uR _)) g2 (uR _)) g3 (uR _)) g4 (uR _)) g5 (uR _)) g6 (uR _)) g7 (uR _)) g8 (uR _)) g9 (uR _)) a7 (uR _)) a6 (uR _)) a1 (uR _)) U (uR _)) R (uR _);have HZ:=iB J;go_in;go_wp2_with fail;have r2:=(HZ.jx 0 (.slice A n c)).jx 1 (.map (some (w.heap.size+1)));have c0:=r2.cell 0;have c1:=r2.cell 1;refine jR (v:=qE A n c (w.heap.size+1)) (by simp[results,results16,go_sem,c0,c1,qE]) rfl ?_;have ad:=HO.out;refine⟨_,rfl,?_,uR _,?_⟩
 ·obtain⟨es,I,hb,F,hz,hD⟩:=ad
  exact⟨es,I,((Below.heap_setCell _ ⟨w.heap.size,1,none⟩ _ (w.heap.size+1) (by simp)).trans (Below.heap_setCell _ ⟨w.heap.size,0,none⟩ _ (w.heap.size+1) (by simp))).trans hb,F,hz,hD⟩
 have:=HA.out;exact pQ (h:=pQ (h:=this) (k:=⟨js _⟩) _ _) (k:=⟨js _⟩) _ _
end
section
def S9:Tx->Value
 |.mk k o t v s A c xs=>vr k o t v s A xs.length c
def q_ (el:List iW) (w:World) (W:Value) (xs:List Tx):Prop:=∀(i:Nat) (a:Tx),xs[i]?=some a->oC 47 w W (S9 a) (kX el a.er)/\(iY (kX el a.er)).length<=1000000
theorem wS (a:Ar):(iY (kM a)).length<=(iY a.l).length+2:=by
 unfold kM;split
 ·omega
 rw[jl,iC,jl,ja];simp
section
variable {eA:Option Addr} {ec:Nat} {el:List iW} {mb:Nat}
theorem C_ {w0:World} {W:Value} {xs:List Tx} (HA:q_ el w0 (qE eA el.length ec mb) xs) (w:World) (hw:ik w0 w) {i:Nat} {k1 o1 t1 v1:Int} {s1:ByteArray} {A1:Option Addr} {c1:Nat} {xs1:List Tx} (hi:xs[i]?=some (.mk k1 o1 t1 v1 s1 A1 c1 xs1)) :
  ∃l,(pF (jy el (Tx.kv xs)) i).l=l/\(iY l).length<=1000000/\oC 47 w (qE eA el.length ec mb) (vr k1 o1 t1 v1 s1 A1 xs1.length c1) l /\
   oC 89 w (qE eA el.length ec mb) (vr k1 o1 t1 v1 s1 A1 xs1.length c1) (kM (pF (jy el (Tx.kv xs)) i))/\(pF (jy el (Tx.kv xs)) i).c=(k1==1&&t1==2):=by
 have h:=HA i _ hi;have o:(Tx.kv xs)[i]?=some (Tx.er (.mk k1 o1 t1 v1 s1 A1 c1 xs1)):=by rw[EK,hi];rfl
 have j:oC 47 w (qE eA el.length ec mb) (vr k1 o1 t1 v1 s1 A1 xs1.length c1) (kX el (Tx.er (.mk k1 o1 t1 v1 s1 A1 c1 xs1))):=fun U I=>h.1 U (ij hw I)
 rw[pz el o];refine⟨_,rfl,h.2,j,?_,?_⟩
 ·have:=Ge w k1 o1 t1 v1 s1 A1 xs1.length c1 (Tx.kv xs1) _ (by have:=h.2;omega) (kG (Tx.er (.mk k1 o1 t1 v1 s1 A1 c1 xs1))) j
  rw[Tx.er]at this⊢;exact this
 rw[Tx.er,kG]
theorem GV {w0:World} {t v:Int} {s:ByteArray} {A:Option Addr} {c:Nat} {xs:List Tx} (hR:RX w0 (.mk 3 1 t v s A c xs)) (hn:xs.length=1) (HA:q_ el w0 (qE eA el.length ec mb) xs) :
  oC 88 w0 (qE eA el.length ec mb) (vr 3 1 t v s A xs.length c) (EA 1 (jy el (Tx.kv xs))):=by
 intro w hw;obtain⟨b,p,k1,o1,t1,v1,s1,A1,c1,J,rfl,a6,HY,HR,d0,d1,d2,d3,d4,d5⟩:=(hR.below hw.below).part (i:=0) iu;obtain⟨l,hl,U,R,o,a1⟩:=C_ (W:=qE eA el.length ec mb) HA w hw HY;unfold EA;rw[iG rfl];have j:=wS (pF (jy el (Tx.kv xs)) 0);rw[hl]at j;generalize kM (pF (jy el (Tx.kv xs)) 0)=q at j o⊢;have hx:lG (iY (mB [110,111,116]::.sp 32::q))=lG ([110,111,116,32]++iY q):=by rw[kH,jn];rfl
 rw[hx];have I:=iy o;unfold oC at I;generalize iY q=y at I j;obtain⟨S1,e1,a7⟩:=jh (A:=⟨#[110,111,116,32]⟩) (a:=[110,111,116,32]) (B:=lG y) rfl rfl (by simp;omega);rw[<- e1];rw[hn];generalize J.length=n1 at d5 I;simp only[zH,xP]at d0 d1 d2 d3 d4 d5;unfold qE vr at I⊢;clear hx e1 hR HA HY HR R o a1 hl U j;go_in;go_wp2_with fail;refine (I.out _ iR).mono ?_;rintro e w' ⟨rfl,y2,rfl⟩;go_wp2;go_ret;exact⟨rfl,jP _ _⟩
theorem Gg {w0:World} {t v:Int} {s:ByteArray} {A:Option Addr} {c:Nat} {xs:List Tx} (hR:RX w0 (.mk 3 2 t v s A c xs)) (hn:xs.length=1) (HA:q_ el w0 (qE eA el.length ec mb) xs) :
  oC 88 w0 (qE eA el.length ec mb) (vr 3 2 t v s A xs.length c) (EA 2 (jy el (Tx.kv xs))):=by
 intro w hw;obtain⟨b,p,k1,o1,t1,v1,s1,A1,c1,U,rfl,a7,HY,HR,d0,d1,d2,d3,d4,d5⟩:=(hR.below hw.below).part (i:=0) iu;obtain⟨l,hl,a1,J,I,R⟩:=C_ (W:=qE eA el.length ec mb) HA w hw HY;unfold EA;rw[iV iI,iG rfl];have o:=wS (pF (jy el (Tx.kv xs)) 0);rw[hl]at o;rw[R,hl];generalize kM (pF (jy el (Tx.kv xs)) 0)=q at o I⊢;rw[hn];simp only[zH,xP]at d0 d1 d2 d3 d4 d5;by_cases hc:k1=1/\t1=2
 ·obtain⟨rfl,rfl⟩:=hc
  have hx:lG (iY (if ((1:Int)==1&&(2:Int)==2)=true then mf [45]::mf [40]::(l++[mf [41]]) else mf [45]::q))=lG (([45,40]++iY l)++[41]):=by
   rw[iG (show ((1:Int)==1&&(2:Int)==2)=true by decide),jl,jl,iC,jl,ja];rfl
  rw[hx];have j:=iy J;unfold oC at j;generalize iY l=y at j a1;obtain⟨S1,e1,a6⟩:=jh (A:=⟨#[45,40]⟩) (a:=[45,40]) (B:=lG y) rfl rfl (by simp;omega);obtain⟨S2,e2,a8⟩:=jh (B:=⟨#[41]⟩) (b:=[41]) e1 rfl (by simp;omega);rw[<- e2];generalize U.length=n1 at d5 j;unfold qE vr at j⊢;clear hx e1 e2 hR HA HY HR J I R hl o;go_in;go_wp2_with fail;refine (j.out _ iR).mono ?_;rintro e w' ⟨rfl,y2,rfl⟩;go_wp2;go_ret;exact⟨rfl,jP _ _⟩
 have hx:lG (iY (if (k1==1&&t1==2)=true then mf [45]::mf [40]::(l++[mf [41]]) else mf [45]::q))=lG ([45]++iY q):=by
  rw[iV (by simpa using hc),jl]
 rw[hx];have j:=iy I;unfold oC at j;generalize iY q=y at j o;obtain⟨S1,e1,a6⟩:=jh (A:=⟨#[45]⟩) (a:=[45]) (B:=lG y) rfl rfl (by simp;omega);rw[<- e1];generalize U.length=n1 at d5 j;unfold qE vr at j⊢;clear hx e1 hR HA HY HR J I R hl a1 o;by_cases hk:k1=1
 ·subst hk
  go_in;go_wp2_with fail;refine (j.out _ iR).mono ?_;rintro e w' ⟨rfl,y2,rfl⟩;go_wp2;go_ret;exact⟨rfl,jP _ _⟩
 go_in;go_wp2_with fail;refine (j.out _ iR).mono ?_;rintro e w' ⟨rfl,y2,rfl⟩;go_wp2;go_ret;exact⟨rfl,jP _ _⟩
theorem GS {w0:World} {o t v:Int} {s:ByteArray} {A:Option Addr} {c:Nat} {xs:List Tx} (ho:3<=o/\o<=16) (hR:RX w0 (.mk 3 o t v s A c xs)) (hn:xs.length=2) (HA:q_ el w0 (qE eA el.length ec mb) xs) (HS:uH w0 mb 14 GG) :
  oC 88 w0 (qE eA el.length ec mb) (vr 3 o t v s A xs.length c) (EA o (jy el (Tx.kv xs))):=by
 intro w hw;obtain⟨b,p,k1,o1,t1,v1,s1,A1,c1,ag,rfl,aw,HY,HR,d0,d1,d2,d3,d4,d5⟩:=(hR.below hw.below).part (i:=0) iu;obtain⟨b',p',k2,o2,t2,v2,s2,A2,c2,af,ak,av,ae,au,ar,aq,ao,an,al,ad⟩:=(hR.below hw.below).part (i:=1) iu;cases ak;obtain⟨l,hl,ai,ah,a6,aj⟩:=C_ (W:=qE eA el.length ec mb) HA w hw HY;obtain⟨l',aa,a',a_,J,ab⟩:=C_ (W:=qE eA el.length ec mb) HA w hw ae.out;unfold EA;rw[iV iu,iV iu];have a1:=wS (pF (jy el (Tx.kv xs)) 0);rw[hl]at a1;have j:=wS (pF (jy el (Tx.kv xs)) 1);rw[aa]at j;generalize kM (pF (jy el (Tx.kv xs)) 0)=q at a1 a6⊢;generalize kM (pF (jy el (Tx.kv xs)) 1)=q' at j J⊢;rw[hn];simp only[zH,xP,Nat.one_mul,CL,Nat.reduceAdd]at d0 d1 d2 d3 d4 d5 ar aq ao an al ad;have a8:=Nx o ho.1 ho.2;have I:(IJ o).data.toList.length<=3:=by
  rcases (by omega:o=3\/o=4\/o=5\/o=6\/o=7\/o=8\/o=9\/o=10\/o=11\/o=12\/o=13\/o=14\/o=15\/o=16) with h | h | h | h | h | h | h | h | h | h | h | h | h | h<;>(subst h;decide +kernel)
 have hx:lG (iY (q++.sp 32::z_ o::.sp 32::q'))=lG ((((iY q++[32])++(IJ o).data.toList)++[32])++iY q'):=by
  rw[iC,jn,a8,show ∀z,iY (z_ o::z)=iY [z_ o]++iY z from fun z=>iC [z_ o] z,jn];simp
 rw[hx];have a7:(Lit.int .i64 o).wf=true:=by
  rcases (by omega:o=3\/o=4\/o=5\/o=6\/o=7\/o=8\/o=9\/o=10\/o=11\/o=12\/o=13\/o=14\/o=15\/o=16) with h | h | h | h | h | h | h | h | h | h | h | h | h | h<;>(subst h;decide +kernel)
 have HL:=fun (U:World) [hU:ik w U]=>MT (HS.here w hw) o a7 U
 have HO:=iy a6;have R:=iy J;unfold oC at HO R;generalize iY q=y at HO a1;generalize iY q'=y' at R j;generalize IJ o=sy at HL I;obtain⟨S1,e1,g1⟩:=jh (A:=lG y) (a:=y) (B:=⟨#[32]⟩) (b:=[32]) rfl rfl (by simp;omega);obtain⟨S2,e2,g2⟩:=jh (B:=sy) e1 (qd sy).symm (by simp;simp at I;omega);obtain⟨S3,e3,g3⟩:=jh (B:=⟨#[32]⟩) (b:=[32]) e2 rfl (by simp;simp at I;omega);obtain⟨S4,e4,g4⟩:=jh (B:=lG y') (b:=y') e3 rfl (by simp;simp at I;omega);rw[<- e4];generalize ag.length=n1 at d5 HO;generalize af.length=n2 at ad R;unfold qE vr at HO R⊢;clear a7 hx e1 e2 e3 e4 hR HA HY HR ae au HS ah a6 aj hl ai a1 a_ J ab aa a' j a8 I;go_in;go_wp2_with fail;refine iE kp kp ?_;repeat (go_big_quiet_step ((go_at_call 89;with_reducible (first | exact mR (HO.out _ iR) | exact mR (R.out _ iR)))))
 refine wpQuiet_nil ?_;rintro _ ⟨y,rfl⟩;go_wp2;go_ret;exact⟨rfl,jP _ _⟩
end
end
end Go.Proofs.YtnigblndonocfaaGreatDoor
