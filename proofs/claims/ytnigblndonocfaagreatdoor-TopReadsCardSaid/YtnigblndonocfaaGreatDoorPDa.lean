/- A part of the proof. -/
import Derived.Test.YtnigblndonocfaaGreatDoorPPr
set_option linter.unusedVariables false
set_option linter.unusedSimpArgs false
namespace Go.Proofs.YtnigblndonocfaaGreatDoor
set_option maxRecDepth 100000
set_option maxHeartbeats 1600000
open Go.Proofs.Tryz
open Go.RowKit Go.BigFrame
section
section
variable {B:World} {q:Nat} {A:Option Addr} {c:Nat} {L:List Tk} {en:Int} {eA:Option Addr} {ec:Nat} {el:List iW} {w w0 w1:World} {i:Nat}
theorem Pq (htag:∀u∈el,u.tags.l.length<=16) (hel:el.length<=1000):∀k,∀j≤k,CX B q A c L en eA ec el j:=by
 have zero:CX B q A c L en eA ec el 0:=
  ⟨fun w i _ h=>absurd h iu,fun w i n o _ h=>absurd h iu,fun w i _ h=>absurd h iu,fun w i _ h=>absurd h iu⟩
 intro k;induction k with
 |zero=>
  intro j I;obtain rfl:j=0:=iu;exact zero
 |succ k ih=>
 intro j I;by_cases h:j<=k
 ·exact ih j h
 obtain rfl:j=k+1:=iu;exact⟨fun w i R h=>LX (ih k (js k)) R h,fun w i n o R h=>I8 o ih R h,fun w i R h=>IK ih R h,fun w i R h=>EM htag hel ih R h⟩
theorem wA (htag:∀u∈el,u.tags.l.length<=16) (hel:el.length<=1000) (k:Nat) (h:Rd B q A c L en eA ec el w i) (hk:20*(L.length-i)+10<=k):Calls prog 71 #[.pointer (some q)] w (pk B q A c L en eA ec el w i (jg el k (L.drop i)) (VX w.heap.size)):=
 (Pq htag hel k k (js k)).e w i h hk
end
end
structure FZ where
 name:ByteArray
 ty:Int
 clock:List sO
structure KD where
 name:ByteArray
 tags:List ByteArray
structure En where
 left:List ByteArray
 right:Ex
structure Qb where
 cond:Ex
 dst:Int
 res:Bool
mutual
inductive F5 where
 |mk (name:ByteArray) (locals:List FZ) (eqs:List En) (autos:List BU) (unl:List Qb) (unt:List Qb)
inductive BU where
 |mk (states:List F5)
end
structure D8 where
 name:ByteArray
 ins:List FZ
 outs:List FZ
 locals:List FZ
 eqs:List En
 autos:List BU
 assume:List Ex
 ensure:List Ex
def iO.er (x:iO):FZ:=⟨x.name,x.ty,x.clock.l⟩
def iW.er (x:iW):KD:=⟨x.name,x.tags.l⟩
def oX.er (x:oX):En:=⟨x.left.l,x.right.er⟩
def ma.er (x:ma):Qb:=⟨x.cond.er,x.dst,x.res⟩
mutual
def StT.er:StT->F5
 |.mk n l e _ _ a u v=>.mk n (l.l.map iO.er) (e.l.map oX.er) (AuT.kv a) (u.l.map ma.er) (v.l.map ma.er)
def StT.kv:List StT->List F5
 |[]=>[]
 |x::l=>x.er::StT.kv l
def AuT.er:AuT->BU
 |.mk _ _ l=>.mk (StT.kv l)
def AuT.kv:List AuT->List BU
 |[]=>[]
 |x::l=>x.er::AuT.kv l
end
def nh.er (x:nh):D8:=⟨x.name,x.ins.l.map iO.er,x.outs.l.map iO.er,x.locals.l.map iO.er,x.eqs.l.map oX.er,x.autos.l.map AuT.er,x.assume.l.map Tx.er,x.ensure.l.map Tx.er⟩
def uv (s:ByteArray):List iW->Nat->Option Nat
 |[],_=>none
 |u::l,j=>if u.name=s then some j else uv s l (j+1)
def pX (el:List iW):Nat->List sO->List Tk->Option (List sO×List Tk)
 |m,l,ts=>if jq ⟨#[119,104,101,110]⟩ ts then (match m with
   |0=>none
   |m+1=>(mD el ts.tail).bind fun (o,r)=>pX el m (l++[o]) r) else some (l,ts)
def Ma (el:List iW) (ts:List Tk):Option (Int×List Tk):=
 if jq ⟨#[98,111,111,108]⟩ ts then some (1,ts.tail) else if jq ⟨#[105,110,116]⟩ ts then some (2,ts.tail) else (pV ts).bind fun (s,r)=>match uv s el 0 with
  |some j=>some (3+(j:Int),r)
  |none=>none
def wG (el:List iW) (ts:List Tk):Option (FZ×List Tk):=
 (pV ts).bind fun (s,r)=>(iF [⟨#[58]⟩] r).bind fun (_,r)=>(Ma el r).bind fun (t,r)=>(pX el 4 [] r).bind fun (l,r)=>some (⟨s,t,l⟩,r)
def mv (el:List iW) (open_:Bool):Nat->List FZ->List Tk->Option (List FZ×List Tk)
 |0,_,_=>none
 |m+1,l,ts=>(wG el ts).bind fun (d,r)=>if !jq ⟨#[59]⟩ r||(open_&&!ju 1 r.tail) then some (l++[d],r) else mv el open_ m (l++[d]) r.tail
def oG (el:List iW) (ts:List Tk):Option (List FZ×List Tk):=
 if jq ⟨#[118,97,114]⟩ ts then (mv el true 256 [] ts.tail).bind fun (l,r)=>(iF [⟨#[59]⟩] r).bind fun (_,r)=>some (l,r) else some ([],ts)
def nR:Nat->List ByteArray->List Tk->Option (List ByteArray×List Tk)
 |0,_,_=>none
 |m+1,l,ts=>(pV ts).bind fun (s,r)=>if jq ⟨#[44]⟩ r then nR m (l++[s]) r.tail else some (l++[s],r)
def Lm (el:List iW) (k:Nat) (ts:List Tk):Option (En×List Tk):=
 (if jq ⟨#[40]⟩ ts then (nR 64 [] ts.tail).bind fun (l,r)=>(iF [⟨#[41]⟩] r).bind fun (_,r)=>some (l,r) else (pV ts).bind fun (s,r)=>some ([s],r)).bind fun (l,r)=>
 (iF [⟨#[61]⟩] r).bind fun (_,r)=>(jg el k r).bind fun (x,r)=>(iF [⟨#[59]⟩] r).bind fun (_,r)=>some (⟨l,x⟩,r)
structure wo where
 cond:Ex
 res:Bool
 to_:ByteArray
def pD (el:List iW) (k:Nat) (wd:ByteArray):Nat->List wo->List Tk->Option (List wo×List Tk)
 |m,l,ts=>if jq wd ts then (match m with
   |0=>none
   |m+1=>(jg el k ts.tail).bind fun (x,r)=>(if jq ⟨#[99,111,110,116,105,110,117,101]⟩ r then some (true,r.tail) else (iF [⟨#[116,104,101,110]⟩] r).bind fun (_,r)=>some (false,r)).bind fun (b,r)=>(pV r).bind fun (s,r)=>(iF [⟨#[59]⟩] r).bind fun (_,r)=>pD el k wd m (l++[⟨x,b,s⟩]) r) else some (l,ts)
structure Ci where
 name:ByteArray
 locals:List FZ
 eqs:List En
 autos:List BU
 unl:List wo
 unt:List wo
def vM (s:ByteArray):List ByteArray->Nat->Option Nat
 |[],_=>none
 |u::l,j=>if u=s then some j else vM s l (j+1)
def yp (names:List ByteArray) (x:wo):Option Qb:=(vM x.to_ names 0).map fun (j:Nat)=>⟨x.cond,(j:Int),x.res⟩
def wW (names:List ByteArray) (x:Ci):Option F5:=(x.unl.mapM (yp names)).bind fun u=>(x.unt.mapM (yp names)).bind fun v=>some (.mk x.name x.locals x.eqs x.autos u v)
mutual
def mu (el:List iW):Nat->Nat->List En->List BU->List Tk->Option ((List En×List BU)×List Tk)
 |0,_,_,_,_=>none
 |k+1,m,es,as_,ts=>if jq ⟨#[97,117,116,111,109,97,116,111,110]⟩ ts then (if m=0\/8<=as_.length then none else (pq el k m [] ts.tail).bind fun (a,r)=>mu el k m es (as_++[a]) r)
  else if ju 1 ts||jq ⟨#[40]⟩ ts then (if 256<=es.length then none else (Lm el k ts).bind fun (x,r)=>mu el k m (es++[x]) as_ r)
  else some ((es,as_),ts)
def pq (el:List iW):Nat->Nat->List Ci->List Tk->Option (BU×List Tk)
 |0,_,_,_=>none
 |k+1,m,ss,ts=>if jq ⟨#[115,116,97,116,101]⟩ ts then (if 8<=ss.length then none else (pV ts.tail).bind fun (s,r)=>(oG el r).bind fun (lo,r)=>(pD el k ⟨#[117,110,108,101,115,115]⟩ 4 [] r).bind fun (u,r)=>(iF [⟨#[100,111]⟩] r).bind fun (_,r)=>(mu el k (m-1) [] [] r).bind fun (b,r)=>(pD el k ⟨#[117,110,116,105,108]⟩ 4 [] r).bind fun (v,r)=>(iF [⟨#[100,111,110,101]⟩] r).bind fun (_,r)=>pq el k m (ss++[⟨s,lo,b.1,b.2,u,v⟩]) r)
  else (iF [⟨#[101,110,100]⟩] ts).bind fun (_,r)=>(ss.mapM (wW (ss.map Ci.name))).bind fun l=>some (.mk l,r)
end
def ox (el:List iW) (k:Nat):Nat->List Ex->List Ex->List Tk->Option ((List Ex×List Ex)×List Tk)
 |0,as_,en,ts=>if jq ⟨#[97,115,115,117,109,101]⟩ ts||jq ⟨#[101,110,115,117,114,101]⟩ ts then none else some ((as_,en),ts)
 |f+1,as_,en,ts=>if jq ⟨#[97,115,115,117,109,101]⟩ ts then (if 8<=as_.length then none else (jg el k ts.tail).bind fun (x,r)=>(iF [⟨#[59]⟩] r).bind fun (_,r)=>ox el k f (as_++[x]) en r)
  else if jq ⟨#[101,110,115,117,114,101]⟩ ts then (if 8<=en.length then none else (jg el k ts.tail).bind fun (x,r)=>(iF [⟨#[59]⟩] r).bind fun (_,r)=>ox el k f as_ (en++[x]) r)
  else some ((as_,en),ts)
def uO (el:List iW) (k:Nat) (ts:List Tk):Option (D8×List Tk):=
 (pV ts).bind fun (s,r)=>(iF [⟨#[40]⟩] r).bind fun (_,r)=>(if jq ⟨#[41]⟩ r then some ([],r) else mv el false 64 [] r).bind fun (is,r)=>
 (iF [⟨#[41]⟩,⟨#[114,101,116,117,114,110,115]⟩,⟨#[40]⟩] r).bind fun (_,r)=>(mv el false 64 [] r).bind fun (os,r)=>(iF [⟨#[41]⟩] r).bind fun (_,r)=>(oG el r).bind fun (lo,r)=>
 (ox el k 17 [] [] r).bind fun (cl,r)=>(iF [⟨#[108,101,116]⟩] r).bind fun (_,r)=>(mu el k 3 [] [] r).bind fun (b,r)=>(iF [⟨#[116,101,108]⟩] r).bind fun (_,r)=>some (⟨s,is,os,lo,b.1,b.2,cl.1,cl.2⟩,r)
def qH:Nat->List ByteArray->List Tk->Option (List ByteArray×List Tk)
 |0,_,_=>none
 |m+1,l,ts=>(pV ts).bind fun (s,r)=>if jq ⟨#[124]⟩ r then qH m (l++[s]) r.tail else some (l++[s],r)
def mE:Nat->List KD->List Tk->Option (List KD×List Tk)
 |m,l,ts=>if jq ⟨#[116,121,112,101]⟩ ts then (match m with
   |0=>none
   |m+1=>(pV ts.tail).bind fun (s,r)=>(iF [⟨#[61]⟩] r).bind fun (_,r)=>(qH 16 [] r).bind fun (tg,r)=>(iF [⟨#[59]⟩] r).bind fun (_,r)=>mE m (l++[⟨s,tg⟩]) r) else some (l,ts)
def mQ (el:List iW) (k:Nat):Nat->List D8->List Tk->Option (List D8×List Tk)
 |m,l,ts=>if jq ⟨#[110,111,100,101]⟩ ts then (match m with
   |0=>none
   |m+1=>(uO el k ts.tail).bind fun (x,r)=>mQ el k m (l++[x]) r) else some (l,ts)
section
def FW {α:Type} (p:α->Bool):List α->Nat->Int
 |[],_=>-1
 |x::l,k=>if p x then (k:Int) else FW p l (k+1)
theorem Jk {α:Type} (p:α->Bool):∀{l:List α} {j:Nat} {x:α} (k:Nat),l[j]?=some x->(l.take j).any p=false->p x=true->FW p l k=((k+j:Nat):Int)
 |[],j,x,k,h,_,_=>by simp at h
 |a::l,0,x,k,h,_,hx=>by
  simp at h;subst h;rw[FW,iG hx];rfl
 |a::l,j+1,x,k,h,h0,hx=>by
  rw[sD,List.any_cons,Bool.or_eq_false_iff]at h0;rw[FW,iV (by rw[h0.1];decide),Jk p (k+1) (by simpa using h) h0.2 hx];congr 1;omega
theorem BX {α:Type} (p:α->Bool):∀(l:List α) (k:Nat),l.any p=false->FW p l k=-1
 |[],_,_=>rfl
 |a::l,k,h0=>by
  rw[List.any_cons,Bool.or_eq_false_iff]at h0;rw[FW,iV (by rw[h0.1];decide),BX p l (k+1) h0.2]
theorem G7 {α:Type} (p:α->Bool) {l:List α} {j:Nat} {x:α} (h:l[j]?=some x) (h0:(l.take j).any p=false) (hx:p x=false):(l.take (j+1)).any p=false:=by
 rw[List.take_add_one,h,List.any_append,h0];simp[hx]
theorem JM {α:Type} (p:α->Bool) {l:List α} {j:Nat} (hj:¬j<l.length) (h0:(l.take j).any p=false):l.any p=false:=by
 rwa [Dn iu]at h0
def qw (s:ByteArray) (u:iW):Bool:=u.name.toList==s.toList
theorem J6 (s:ByteArray):∀(l:List iW) (k:Nat),FW (qw s) l k=match uv s l k with | some j=>(j:Int) | none=>-1
 |[],k=>rfl
 |u::l,k=>by
  rw[FW,uv];by_cases h:u.name=s
  ·rw[iG h,iG (by unfold qw;rw[h];exact beq_self_eq_true _)]
  rw[iV h,iV (by unfold qw;simp only[beq_iff_eq];exact fun e=>h (toList_inj e)),J6 s l (k+1)]
theorem Ll {w0:World} {gs:Nat} {s:ByteArray} (k0:w0.cell? gs=some (.string s)) (l0:Le (gs+1) w0) (nm:ByteArray) (tA:Option Addr) (tc:Nat) (tl:List ByteArray) (w:World) (hw:ik w0 w) :
  Calls prog 150 #[.agg #[nm,.slice tA tl.length tc],.pointer (some gs)] w fun e w'=>e=.returned (.bool (qw s ⟨nm,⟨tA,tc,tl⟩⟩))/\∃y,w'=w.more y:=by
 have J:=(hw.below.cell (p:=⟨gs,0,none⟩) l0.le).trans k0;have I:Le (gs+1) w:=⟨jW l0.le hw.below.size⟩;obtain⟨q,j⟩:∃q,(nm.toList==s.toList)=q:=⟨_,rfl⟩;have o:Hid (qw s ⟨nm,⟨tA,tc,tl⟩⟩=q):=j;go_in;go_wp2;go_ret;exact⟨iK (by rw[o.out]),jP _ _⟩
theorem QM {w0:World} {gs:Nat} {s:ByteArray} (k0:w0.cell? gs=some (.string s)) (l0:Le (gs+1) w0) {nA:Option Addr} {nc:Nat} {nl:List iW} (hnd:ir 2 sM w0 ⟨nA,nc,nl⟩) (w:World) (hw:ik w0 w) :
  Calls prog 149 #[.slice nA nl.length nc,.func (.func 150) #[] #[.pointer (some gs)]] w fun e w'=>e=.returned (.int .i64 (FW (qw s) nl 0))/\∃y,w'=w.more y:=by
 have HF:Hid (∀(nm:ByteArray) (J:Option Addr) (I:Nat) (o:List ByteArray),∀U,ik w0 U->Calls prog 150 #[.agg #[nm,.slice J o.length I],.pointer (some gs)] U fun e w'=>e=.returned (.bool (qw s ⟨nm,⟨J,I,o⟩⟩))/\∃y,w'=U.more y):=fun nm J I o U hU=>Ll k0 l0 nm J I o U hU
 have a_:=iy hnd;have a8:=hnd.len;simp only[]at a8;obtain⟨R,hR⟩:=jt (FW (qw s) nl 0);have HV:=iy hR;rw[hR];go_in;go_wp2_with fail;go_loopw [8] (fun i wr=>∃j:Nat,j<=nl.length/\i=.int .i64 (j:Nat)/\Hid ((nl.take j).any (qw s)=false)/\ik w wr) (fun i _=>nl.length-(intOf i).toNat)
 case atStart=>exact⟨0,iu,rfl,iy (by simp),iR⟩
 case round=>
 obtain⟨j,hj,rfl,HJ,ar⟩:=hrel;have a7:=ij hw ar;by_cases a6:j<nl.length
 ·have a1:(j:Int)<(nl.length:Int):=by omega
  obtain⟨b,p,yj,rfl,a',HY,hP⟩:=(a_.below lU a7.below).part (i:=j) a6;obtain⟨nm,⟨J,I,o⟩⟩:=yj;have z0:wr.cell? ⟨b,p+j*2,none⟩=some (.string nm):=hP.c0;have z1:wr.cell? ⟨b,p+j*2+1,none⟩=some (.slice J o.length I):=hP.c1;have HC:=iB (HF nm J I o wr a7);obtain⟨q,hq⟩:∃q,qw s ⟨nm,⟨J,I,o⟩⟩=q:=⟨_,rfl⟩;rw[hq]at HC;have HQ:=iB hq;cases q with
  |true=>
   have HE:Hid (R=(j:Int)):=iB (by rw[<- HV.out];exact (Jk _ 0 HY HJ HQ).trans (by omega));go_wp2_with fail;refine HC.mono ?_;rintro e w' ⟨rfl,y,rfl⟩;go_wp2;go_ret;exact⟨by rw[HE.out];rfl,have:=ar;jP _ _⟩
  |false=>
  go_wp2_with fail;refine HC.mono ?_;rintro e w' ⟨rfl,y,rfl⟩;go_wp2;go_roundw
  case rel=>exact⟨j+1,iu,by go_num,iy (G7 _ HY HJ HQ),have:=ar;iR⟩
  case measure=>simp only[intOf];omega
 have a1:¬((j:Int)<(nl.length:Int)):=iu;have HE:Hid (R=-1):=iy (by rw[<- HV.out];exact BX _ nl 0 (JM _ a6 HJ));go_wp2;go_ret;exact⟨by rw[HE.out];rfl,have:=ar;jP _ _⟩
def Fm (r:Nat):Nat->List Value->World->World
 |_,[],w=>w
 |j,v::l,w=>Fm r (j+1) l (w.setCell ⟨r,j,none⟩ v)
section
variable {B:World} {q:Nat} {A:Option Addr} {c:Nat} {L:List Tk} {en:Int} {eA:Option Addr} {ec:Nat} {el:List iW} {w w0 w1 w':World} {i:Nat}
theorem xz (r:Nat):∀(l:List Value) (j:Nat) (w:World),(Fm r j l w).heap.size=w.heap.size
 |[],_,_=>rfl
 |v::l,j,w=>by rw[Fm,xz r l];exact jc ..
theorem zi {r:Nat} {T:TypeId}:∀(l:List Value) (j:Nat) (w:World) (ph post:List Value),ph.length=j->post.length=l.length->iP w r T (ph++post).toArray->iP (Fm r j l w) r T (ph++l).toArray
 |[],j,w,ph,post,h1,h2,h=>by
  have:post=[]:=B_ h2;subst this;exact h
 |v::l,j,w,ph,[],h1,h2,h=>by simp at h2
 |v::l,j,w,ph,u::post,h1,h2,h=>by
  rw[Fm];have h3:=Hg h j v;simp only[oF]at h3;have e:(ph++u::post).set j v=(ph++[v])++post:=by
   rw[List.set_append_right _ _ iu,h1,Nat.sub_self];simp
  rw[e]at h3;have:=zi l (j+1) _ (ph++[v]) post (by simp[h1]) (by simpa using h2) h3;simpa using this
theorem Bs {r:Nat} (hr:r≠q) (hB:B.heap.size<=r):∀(l:List Value) (j:Nat) (w:World),Rd B q A c L en eA ec el w i->Rd B q A c L en eA ec el (Fm r j l w) i
 |[],_,_,h=>h
 |v::l,j,w,h=>Bs hr hB l (j+1) _ (h.set hr hB j v)
theorem Bz {r:Nat} (hr:w0.heap.size<=r):∀(l:List Value) (j:Nat) (w:World),ik (iz q w0) (iz q w)->ik (iz q w0) (iz q (Fm r j l w))
 |[],_,_,h=>h
 |v::l,j,w,h=>Bz hr l (j+1) _ (iJ (k:=ko hr) (h:=h) j v)
theorem yZ {r n:Nat} (hr:r<n):∀(l:List Value) (j:Nat) (w:World),ik (old n w) (old n (Fm r j l w))
 |[],_,_=>iq _
 |v::l,j,w=>ij (j' hr w j v) (yZ hr l (j+1) _)
theorem tR {r:Nat} {T:TypeId} {zs:List Value} (hB:iP w1 r T zs.toArray) (R:Rd B q A c L en eA ec el w1 i) (hrq:r≠q) (aw:ik (iz q w0) (iz q w1)) (hr:w0.heap.size<=r) (hB0:B.heap.size<=r) (l:List Value) (hl:zs.length=l.length) :
  ∃W,Fm r 0 l w1=W/\iP W r T l.toArray/\Rd B q A c L en eA ec el W i/\ik (iz q w0) (iz q W)/\(∀n,r<n->ik (old n w1) (old n W))/\W.heap.size=w1.heap.size:=
 ⟨_,rfl,by simpa using zi l 0 w1 [] zs rfl hl hB,Bs hrq hB0 l 0 w1 R,Bz hr l 0 w1 aw,fun n hn=>yZ hn l 0 w1,xz r l 0 w1⟩
end
def VG {α β:Type} (cells:α->List Value) (ok:World->α->Prop) (er:α->β) (n:Nat) (x:β) (w:World) (v:Value):Prop:=∃y,er y=x/\v=.agg (cells y).toArray/\ok (old n w) y
def VL {α β:Type} (sz:Nat) (P:World->Nat->Nat->α->Prop) (er:α->β) (n:Nat) (x:List β) (w:World) (v:Value):Prop:=∃(A:Option Addr) (c:Nat) (l:List α),v=.slice A l.length c/\l.map er=x/\ir sz P (old n w) ⟨A,c,l⟩
def CJ (y:iO):List Value:=[.string y.name,.int .i64 y.ty,.slice y.clock.A y.clock.l.length y.clock.c]
structure SF (w:World) (y:iO):Prop where
 nm:y.name.size<=65536
 tb:y.ty<=2000
 cl:ir 3 KJ w y.clock
theorem qe:pH SF:=⟨fun W W' y hb h=>⟨h.nm,h.tb,h.cl.below qF hb⟩,fun W w y k h=>⟨h.nm,h.tb,h.cl.sub xb k⟩⟩
end
end Go.Proofs.YtnigblndonocfaaGreatDoor
