/- A part of the proof. -/
import Derived.Test.YtnigblndonocfaaGreatDoorWGe
set_option linter.unusedVariables false
set_option linter.unusedSimpArgs false
namespace Go.Proofs.YtnigblndonocfaaGreatDoor
open Go.RowKit Go.BigFrame
section
theorem TF (s t:ByteArray) (r:List Tk):jq s (⟨2,t⟩::r)=false:=rfl
theorem TE (s t:ByteArray) (r:List Tk):jq s (⟨5,t⟩::r)=false:=rfl
theorem pd (l:List UInt8) (ps:List Pc):toks (mB l::ps)=⟨3,⟨l.toArray⟩⟩::toks ps:=rfl
theorem lK (l:List UInt8) (ps:List Pc):toks (mf l::ps)=⟨4,⟨l.toArray⟩⟩::toks ps:=rfl
theorem um (s:ByteArray) (ps:List Pc):toks (rM s::ps)=⟨1,s⟩::toks ps:=rfl
theorem jT (c:UInt8) (ps:List Pc):toks (.sp c::ps)=toks ps:=rfl
theorem po:toks []=[]:=rfl
theorem jk (s t:ByteArray) (r:List Tk):jq s (⟨3,t⟩::r)=(t.data.toList==s.data.toList):=by
 show (((3:Int)==3||(3:Int)==4)&&t.toList==s.toList)=_
 rw[nC,nC];rfl
theorem kg (s t:ByteArray) (r:List Tk):jq s (⟨4,t⟩::r)=(t.data.toList==s.data.toList):=by
 show (((4:Int)==3||(4:Int)==4)&&t.toList==s.toList)=_
 rw[nC,nC];rfl
theorem uy (s t:ByteArray) (r:List Tk):jq s (⟨1,t⟩::r)=false:=rfl
theorem QX (s:ByteArray) (t:Tk) (r:List Tk):jq s (t::r)=wg s t:=rfl
theorem QQ (n:Int) (t:Tk) (r:List Tk):Ia n (t::r)=Ia n [t]:=rfl
theorem lJ (l:List UInt8) (r:List Tk):iF [⟨l.toArray⟩] (⟨4,⟨l.toArray⟩⟩::r)=some ((),r):=by
 unfold iF;rw[kg,iG (by simp)];rfl
theorem uk (l:List UInt8) (r:List Tk):iF [⟨l.toArray⟩] (⟨3,⟨l.toArray⟩⟩::r)=some ((),r):=by
 unfold iF;rw[jk,iG (by simp)];rfl
structure tE (r:List Tk):Prop where
 op:∀n:Int,Ia n r=none
 ar:jq ⟨#[45,62]⟩ r=false
 fb:jq ⟨#[102,98,121]⟩ r=false
 wh:jq ⟨#[119,104,101,110]⟩ r=false
 ev:jq ⟨#[101,118,101,114,121]⟩ r=false
 pa:jq ⟨#[40]⟩ r=false
def vF (n:Int) (t:Tk):Bool:=(t.kind==3||t.kind==4)&&Be n t.text
def Qm (t:Tk):Bool:=!vF 0 t&&!vF 1 t&&!vF 3 t&&!vF 4 t&&!vF 5 t&&!wg ⟨#[45,62]⟩ t&&!wg ⟨#[102,98,121]⟩ t&&!wg ⟨#[119,104,101,110]⟩ t&&!wg ⟨#[101,118,101,114,121]⟩ t&&!wg ⟨#[40]⟩ t
theorem N6 {n:Int} (h0:n≠0) (h1:n≠1) (h3:n≠3) (h4:n≠4):B9 n=B9 5:=by
 unfold B9;rw[iV h0,iV h1,iV h3,iV h4];rfl
theorem EB {n:Int} (h0:n≠0) (h1:n≠1) (h3:n≠3) (h4:n≠4) (s:ByteArray):Be n s=Be 5 s:=by
 unfold Be;rw[N6 h0 h1 h3 h4]
theorem u_ {n:Int} {t:Tk} (h:vF n t=false) (r:List Tk):Ia n (t::r)=none:=by
 unfold vF at h;show (if (t.kind==3||t.kind==4)&&Be n t.text then _ else none)=none
 rw[h];rfl
theorem ET {t:Tk} (h0:vF 0 t=false) (h1:vF 1 t=false) (h3:vF 3 t=false) (h4:vF 4 t=false) (h5:vF 5 t=false) (r:List Tk) (n:Int):Ia n (t::r)=none:=by
 by_cases J:n=0
 ·rw[J];exact u_ h0 r
 by_cases I:n=1
 ·rw[I];exact u_ h1 r
 by_cases o:n=3
 ·rw[o];exact u_ h3 r
 by_cases j:n=4
 ·rw[j];exact u_ h4 r
 refine u_ ?_ r;unfold vF at h5⊢;rw[EB J I o j];exact h5
theorem tE.of {t:Tk} (h:Qm t=true) (r:List Tk):tE (t::r):=by
 unfold Qm at h;simp only[mT,IU]at h;obtain⟨⟨⟨⟨⟨⟨⟨⟨⟨h0,h1⟩,h3⟩,h4⟩,U⟩,R⟩,J⟩,I⟩,o⟩,j⟩:=h;exact⟨ET h0 h1 h3 h4 U r,R,J,I,o,j⟩
section
variable {el:List iW}
theorem tJ {K:Nat} {ts r:List Tk} {x:Ex} (hP:∀k,K<=k->kV el k ts=some (x,r)) (h1:jq ⟨#[45]⟩ ts=false) (h2:jq ⟨#[112,114,101]⟩ ts=false) (hw:jq ⟨#[119,104,101,110]⟩ r=false) :
  ∀k,K+2<=k->xu el k ts=some (x,r):=fun k hk=>by
 obtain⟨k,rfl⟩:∃j,k=j+2:=⟨k-2,iu⟩;rw[xu];unfold rI;rw[h1,h2,qu,iV iI,iV iI,iV iI,hP (k+1) iu];show mO el (k+1) x r=_
 rw[mO,hw,iV iI]
theorem Ly {K:Nat} {ts r:List Tk} {x:Ex} (hP:∀k,K<=k->kV el k ts=some (x,r)) (h1:rI ts=true) (hw:jq ⟨#[119,104,101,110]⟩ r=false) :
  ∀k,K+2<=k->xu el k ts=some (x,r):=fun k hk=>by
 obtain⟨k,rfl⟩:∃j,k=j+2:=⟨k-2,iu⟩;rw[xu,h1,iG rfl,hP (k+1) iu];show mO el (k+1) x r=_
 rw[mO,hw,iV iI]
theorem rA {K:Nat} {n:Int} {ts r:List Tk} {x:Ex} (h2:n≠2) (h6:n≠6) (hL:∀k,K<=k->jB el k (n+1) ts=some (x,r)) (ho:Ia n r=none) :
  ∀k,K+2<=k->jB el k n ts=some (x,r):=fun k hk=>by
 obtain⟨k,rfl⟩:∃j,k=j+2:=⟨k-2,iu⟩;rw[jB,iV h2,iV h6,hL (k+1) iu];show sK el (k+1) n x r=_
 rw[sK,ho]
theorem JS {K:Nat} {ts r:List Tk} {x:Ex} (hL:∀k,K<=k->jB el k 3 ts=some (x,r)) (hn:jq ⟨#[110,111,116]⟩ ts=false) :
  ∀k,K+1<=k->jB el k 2 ts=some (x,r):=fun k hk=>by
 obtain⟨k,rfl⟩:∃j,k=j+1:=⟨k-1,iu⟩;rw[jB,iG rfl,hn,iV iI,hL k iu]
theorem Oy {K:Nat} {ts r:List Tk} {x:Ex} (hU:∀k,K<=k->xu el k ts=some (x,r)):∀k,K+1<=k->jB el k 6 ts=some (x,r):=fun k hk=>by
 obtain⟨k,rfl⟩:∃j,k=j+1:=⟨k-1,iu⟩;rw[jB,iV iI,iG rfl,hU k iu]
theorem vb {K:Nat} {n:Int} {ts r:List Tk} {x:Ex} (hU:∀k,K<=k->xu el k ts=some (x,r)) (hn:jq ⟨#[110,111,116]⟩ ts=false) (h0:-1<=n) (h5:n<=5) (ho:∀m:Int,n<m->m<=5->Ia m r=none) :
  ∀k,K+12<=k->jB el k (n+1) ts=some (x,r):=by
 have o:=Oy hU;by_cases e5:n=5
 ·subst e5;exact fun k j=>o k iu
 have I:=rA (n:=5) iI iI o (ho 5 iu iu);by_cases e4:n=4
 ·subst e4;exact fun k j=>I k iu
 have J:=rA (n:=4) iI iI I (ho 4 iu iu);by_cases e3:n=3
 ·subst e3;exact fun k j=>J k iu
 have R:=rA (n:=3) iI iI J (ho 3 iu iu);by_cases e2:n=2
 ·subst e2;exact fun k j=>R k iu
 have U:=JS R hn;by_cases e1:n=1
 ·subst e1;exact fun k j=>U k iu
 have L1:=rA (n:=1) iI iI U (ho 1 iu iu);by_cases e0:n=0
 ·subst e0;exact fun k j=>L1 k iu
 have L0:=rA (n:=0) iI iI L1 (ho 0 iu iu);obtain rfl:n=-1:=iu;exact fun k j=>L0 k iu
theorem Gj {K:Nat} {n:Int} {ts r:List Tk} {x:Ex} (hL:∀k,K<=k->jB el k n ts=some (x,r)) (hn:n<=2\/jq ⟨#[110,111,116]⟩ ts=false) (h0:0<=n) (h5:n<=5) (ho:∀m:Int,Ia m r=none) :
  ∀k,K+10<=k->jB el k 0 ts=some (x,r):=by
 have d0:∀j,(∀k,j<=k->jB el k 1 ts=some (x,r))->∀k,j+2<=k->jB el k 0 ts=some (x,r):=fun j h=>rA (n:=0) iI iI h (ho 0)
 have U:∀j,(∀k,j<=k->jB el k 2 ts=some (x,r))->∀k,j+4<=k->jB el k 0 ts=some (x,r):=fun j h k o=>d0 (j+2) (rA (n:=1) iI iI h (ho 1)) k iu
 rcases (by omega:n=0\/n=1\/n=2\/n=3\/n=4\/n=5) with rfl | rfl | rfl | rfl | rfl | rfl
 ·exact fun k o=>hL k iu
 ·exact fun k o=>d0 K hL k iu
 ·exact fun k o=>U K hL k iu
 all_goals
  have I:jq ⟨#[110,111,116]⟩ ts=false:=by
   rcases hn with h | h
   ·omega
   exact h
  have R:∀j,(∀k,j<=k->jB el k 3 ts=some (x,r))->∀k,j+5<=k->jB el k 0 ts=some (x,r):=fun j h k o=>U (j+1) (JS h I) k iu
  have J:∀j,(∀k,j<=k->jB el k 4 ts=some (x,r))->∀k,j+7<=k->jB el k 0 ts=some (x,r):=fun j h k o=>R (j+2) (rA (n:=3) iI iI h (ho 3)) k iu
  have d4:∀j,(∀k,j<=k->jB el k 5 ts=some (x,r))->∀k,j+9<=k->jB el k 0 ts=some (x,r):=fun j h k o=>J (j+2) (rA (n:=4) iI iI h (ho 4)) k iu
  first
  |exact fun k o=>R K hL k iu
  |exact fun k o=>J K hL k iu
  |exact fun k o=>d4 K hL k iu
theorem wX {K:Nat} {ts r:List Tk} {x:Ex} (hL:∀k,K<=k->jB el k 0 ts=some (x,r)) (hr:tE r):∀k,K+1<=k->jg el k ts=some (x,r):=fun k hk=>by
 obtain⟨k,rfl⟩:∃j,k=j+1:=⟨k-1,iu⟩;rw[jg,hL k iu];show (if jq ⟨#[45,62]⟩ r then _ else if jq ⟨#[102,98,121]⟩ r then _ else some (x,r))=_
 rw[hr.ar,hr.fb,iV iI,iV iI]
theorem ov {K:Nat} {ts r:List Tk} {x:Ex} (hU:∀k,K<=k->xu el k ts=some (x,r)) (hn:jq ⟨#[110,111,116]⟩ ts=false) (hr:tE r):∀k,K+13<=k->jg el k ts=some (x,r):=fun k hk=>
 wX (vb (n:=-1) hU hn iI iI fun m _ _=>hr.op m) hr k iu
def Ju (o:Int):Int:=if o=4\/o=5 then 0 else if o=3 then 1 else if 11<=o then 3 else if o<=7 then 4 else 5
def uZ (o:Int):Tk:=match z_ o with
 |.tk t=>t
 |.sp _=>⟨0,⟨#[]⟩⟩
theorem ye (o:Int) (h3:3<=o) (h16:o<=16):z_ o=.tk (uZ o)/\0<=Ju o/\Ju o<=5/\Ju o≠2/\Ia (Ju o) [uZ o]=some o/\jq ⟨#[119,104,101,110]⟩ [uZ o]=false/\jq ⟨#[101,118,101,114,121]⟩ [uZ o]=false/\jq ⟨#[40]⟩ [uZ o]=false:=by
 rcases (by omega:o=3\/o=4\/o=5\/o=6\/o=7\/o=8\/o=9\/o=10\/o=11\/o=12\/o=13\/o=14\/o=15\/o=16) with h | h | h | h | h | h | h | h | h | h | h | h | h | h<;>(subst h;refine⟨rfl,iI,iI,iI,by decide +kernel,by decide +kernel,by decide +kernel,by decide +kernel⟩)
def Tu (o:Int):Bool:=(!(decide (Ju o<1))||!vF 1 (uZ o))&&(!(decide (Ju o<3))||!vF 3 (uZ o))&&(!(decide (Ju o<4))||!vF 4 (uZ o))&&(!(decide (Ju o<5))||!vF 5 (uZ o))
theorem OJ (o:Int) (h3:3<=o) (h16:o<=16):Tu o=true:=by
 rcases (by omega:o=3\/o=4\/o=5\/o=6\/o=7\/o=8\/o=9\/o=10\/o=11\/o=12\/o=13\/o=14\/o=15\/o=16) with h | h | h | h | h | h | h | h | h | h | h | h | h | h<;>(subst h;decide +kernel)
theorem Qw (o:Int) (h3:3<=o) (h16:o<=16) (m:Int) (h1:Ju o<m) (h5:m<=5) (r:List Tk):Ia m (uZ o::r)=none:=by
 have h:=OJ o h3 h16;have U:=(ye o h3 h16).2.1;unfold Tu at h;simp only[mT,uG,IU,decide_eq_false_iff_not]at h;obtain⟨⟨⟨R,J⟩,I⟩,j⟩:=h;refine u_ ?_ r;rcases (by omega:m=1\/m=2\/m=3\/m=4\/m=5) with rfl | rfl | rfl | rfl | rfl
 ·exact R.resolve_left iu
 ·have:vF 5 (uZ o)=false:=j.resolve_left iu
  unfold vF at this⊢;rw[EB iI iI iI iI];exact this
 ·exact J.resolve_left iu
 ·exact I.resolve_left iu
 exact j.resolve_left iu
theorem MI {K:Nat} {ta tb r:List Tk} {a b:Ex} {o:Int} (h3:3<=o) (h16:o<=16) (ha:∀k,K<=k->xu el k (ta++uZ o::(tb++r))=some (a,uZ o::(tb++r))) (hb:∀k,K<=k->xu el k (tb++r)=some (b,r))
  (hna:jq ⟨#[110,111,116]⟩ (ta++uZ o::(tb++r))=false) (hnb:jq ⟨#[110,111,116]⟩ (tb++r)=false) (hr:tE r) :
  ∀k,K+28<=k->jg el k (ta++uZ o::(tb++r))=some (.mk 3 o 0 0 ⟨#[]⟩ [a,b],r):=by
 obtain⟨-,h0,I,h2,J,-,-,-⟩:=ye o h3 h16;have U:=vb (n:=Ju o) ha hna iu I (fun m h1 I=>Qw o h3 h16 m h1 I _);have R:=vb (n:=Ju o) hb hnb iu I (fun m _ _=>hr.op m);have hL:∀k,K+15<=k->jB el k (Ju o) (ta++uZ o::(tb++r))=some (.mk 3 o 0 0 ⟨#[]⟩ [a,b],r):=fun k hk=>by
  obtain⟨k,rfl⟩:∃j,k=j+3:=⟨k-3,iu⟩;rw[jB,iV h2,iV iu,U (k+2) iu];show sK el (k+2) (Ju o) a (uZ o::(tb++r))=_
  rw[sK,QQ,J];show (jB el (k+1) (Ju o+1) (tb++r)).bind _=_
  rw[R (k+1) iu];show (if Ju o=3 then _ else _)=_
  split
  ·rfl
  rw[sK,hr.op]
 exact fun k hk=>wX (Gj hL (.inr hna) h0 I hr.op) hr k iu
end
end
section
structure x_ (el el':List iW):Prop where
 tag:∀s,qh el' s=qh el s
 sz:∀t,jV el' t=jV el t
theorem MQ (x:ByteArray):∀(zs:List ByteArray) (i:Nat),0<=Lib.idxFromS zs x i->∃j:Nat,Lib.idxFromS zs x i=((i+j:Nat):Int)/\zs[j]?=some x
 |[],i,h=>by simp[Lib.idxFromS]at h
 |z::zs,i,h=>by
  unfold Lib.idxFromS at h⊢;by_cases hz:z=x
  ·rw[iG hz];exact⟨0,by simp,by simp[hz]⟩
  rw[iV hz]at h⊢;obtain⟨j,h1,h2⟩:=MQ x zs (i+1) h;exact⟨j+1,by rw[h1];congr 1;omega,by simpa using h2⟩
theorem Kv {s:ByteArray}:∀{el:List iW} {j:Nat} {t v:Int},AB s el j=some (t,v)->∃(i:Nat) (u:iW) (m:Nat),el[i]?=some u/\t=3+((j+i:Nat):Int)/\v=(m:Int)/\u.tags.l[m]?=some s
 |[],j,t,v,h=>by cases h
 |u::l,j,t,v,h=>by
  unfold AB at h;by_cases hu:0<=Lib.idxOfS u.tags.l s
  ·rw[iG hu]at h
   injection h with h
   injection h with h1 h2
   obtain⟨m,h3,h4⟩:=MQ s u.tags.l 0 hu;refine⟨0,u,m,rfl,by rw[<- h1];rfl,?_,h4⟩;rw[<- h2];show Lib.idxFromS u.tags.l s 0=_
   rw[h3,t_]
  rw[iV hu]at h;obtain⟨i,u',m,h1,h2,h3,h4⟩:=Kv h;exact⟨i+1,u',m,by simpa using h1,by rw[h2];congr 2;omega,h3,h4⟩
theorem MR {el:List iW} {t v:Int} (h:FV el t v):∃s,wm el t v=[rM s]/\qh el s=some (t,v):=by
 obtain⟨s,j⟩:=h;obtain⟨i,u,m,I,R,J,o⟩:=Kv j;refine⟨s,?_,j⟩;unfold wm;rw[iV iu,iV iu,show (t-3).toNat=i by omega,I];show [rM (u.tags.l.getD v.toNat ⟨#[]⟩)]=[rM s]
 rw[wC,show v.toNat=m by omega,o];rfl
section
variable {el el':List iW}
theorem JR {v:Int} (hv:nq el 1 v=true):(v=1/\wm el 1 v=[mB [116,114,117,101]])\/(v=0/\wm el 1 v=[mB [102,97,108,115,101]]):=by
 unfold nq at hv;rw[iV iI]at hv;simp only[mT,decide_eq_true_eq]at hv;have:jV el 1=2:=rfl;rw[this]at hv;rcases (by omega:v=1\/v=0) with rfl | rfl
 ·exact .inl ⟨rfl,rfl⟩
 exact .inr ⟨rfl,rfl⟩
theorem Bt (hA:x_ el el') {t v:Int} (h2:t≠2) (ht:qS el t) (hv:nq el t v=true) (hr:3<=t->FV el t v) :
  ∃tk,toks (wm el t v)=[tk]/\(∀r,l_ el' (tk::r)=some ((t,v),r))/\(∀r,lk el' t v true (tk::r)=true)/\((t=1->v=1)->(3<=t->v=0)->∀r,lk el' 0 (if jq ⟨#[116,114,117,101]⟩ (tk::r) then 1 else 0) false (tk::r)=true):=by
 by_cases I:t=1
 ·subst I
  rcases JR hv with⟨rfl,hp⟩ | ⟨rfl,hp⟩
  ·rw[hp]
   refine⟨⟨3,⟨#[116,114,117,101]⟩⟩,rfl,fun r=>?_,fun r=>?_,fun _ _ r=>?_⟩
   ·unfold l_;rw[jk,iG iI];rfl
   ·unfold lk;simp[jk]
   unfold lk;simp[jk]
  rw[hp];refine⟨⟨3,⟨#[102,97,108,115,101]⟩⟩,rfl,fun r=>?_,fun r=>?_,fun h _ r=>?_⟩
  ·unfold l_;rw[jk,iV iI,jk,iG iI];rfl
  ·unfold lk;simp[jk]
  exact absurd (h rfl) iI
 have o:3<=t:=by
  rcases ht with h | h | h
  ·exact absurd h I
  ·exact absurd h h2
  exact h.1
 obtain⟨s,hp,j⟩:=MR (hr o);rw[hp];refine⟨⟨1,s⟩,rfl,fun r=>?_,fun r=>?_,fun _ h r=>?_⟩
 ·unfold l_
  rw[uy,uy,iV iI,iV iI];show (match qh el' s with | none=>none | some tv=>some (tv,r))=_
  rw[hA.tag,j]
 ·unfold lk
  rw[uy,uy];show (true&&(match qh el' s with | some (u,x)=>!((true&&(!(u==t)||!(x==v)))||(!true&&!(x==0))) | none=>!true))=true
  rw[hA.tag,j];simp
 have J:=h o;unfold lk;rw[uy,uy];show (true&&(match qh el' s with | some (u,x)=>!((false&&(!(u==0)||!(x==_)))||(!false&&!(x==0))) | none=>!false))=true
 rw[hA.tag,j,J];simp
theorem FO (k:Nat) (s:ByteArray) (r:List Tk):kV el' (k+1) (⟨1,s⟩::r)=if jq ⟨#[40]⟩ r then sU el' k s r.tail else match qh el' s with
   |some (t,v)=>some (.mk 1 0 t v ⟨#[]⟩ [],r)
   |none=>some (.mk 2 0 0 0 s [],r):=by
 rw[kV];unfold rI;simp only[uy,qu,ju,pV];rfl
theorem OI (k:Nat) (s:ByteArray) (r:List Tk):kV el' (k+1) (⟨5,s⟩::r)=some (.mk 11 0 0 0 s [],r):=by
 rw[kV];unfold rI;simp only[TE,qu,ju];rfl
theorem Pa (k:Nat) (n:Nat) (hn:n<=32767) (r:List Tk):kV el' (k+1) (⟨2,xF n⟩::r)=some (.mk 1 0 2 n ⟨#[]⟩ [],r):=by
 rw[kV];unfold rI;simp only[TF,qu,ju,Cb,Hm (show n<=32768 by omega)];rw[iV iI,iV iI,iG iI,iV iu];rfl
theorem MC (n:Nat) (r:List Tk):rI (⟨4,⟨#[45]⟩⟩::⟨2,xF n⟩::r)=true:=by
 unfold rI;rw[kg];rfl
theorem PK (k:Nat) (n:Nat) (hn:n<=32768) (r:List Tk):kV el' (k+1) (⟨4,⟨#[45]⟩⟩::⟨2,xF n⟩::r)=some (.mk 1 0 2 (-(n:Int)) ⟨#[]⟩ [],r):=by
 rw[kV,MC,iG rfl];show some (Ex.mk 1 0 2 (-(rY (xF n))) ⟨#[]⟩ [],r)=_
 rw[Hm hn]
theorem zN (t:Tk) (r:List Tk) (h:wg ⟨#[45]⟩ t=false):rI (t::r)=false:=by unfold rI;rw[QX,h];rfl
theorem LV (k:Nat) (r:List Tk):kV el' (k+1) (⟨3,⟨#[116,114,117,101]⟩⟩::r)=some (.mk 1 0 1 1 ⟨#[]⟩ [],r):=by
 rw[kV];simp[rI,jk,ju]
theorem Jr (k:Nat) (r:List Tk):kV el' (k+1) (⟨3,⟨#[102,97,108,115,101]⟩⟩::r)=some (.mk 1 0 1 0 ⟨#[]⟩ [],r):=by
 rw[kV];simp[rI,jk,ju]
theorem Ht {K:Nat} {ts r:List Tk} {x:Ex} (hE:∀k,K<=k->jg el' k (ts++⟨4,⟨#[41]⟩⟩::r)=some (x,⟨4,⟨#[41]⟩⟩::r)):∀k,K+1<=k->kV el' k (⟨4,⟨#[40]⟩⟩::(ts++⟨4,⟨#[41]⟩⟩::r))=some (x,r):=fun k hk=>by
 obtain⟨k,rfl⟩:∃j,k=j+1:=⟨k-1,iu⟩;rw[kV,zN _ _ ((kg ⟨#[45]⟩ ⟨#[40]⟩ []).trans rfl)];simp only[kg,ju,ry];rw[iV iI,iV iI,iV iI,iV iI,iV iI,iV iI,iG iI,hE k iu];show (iF [⟨#[41]⟩] (⟨4,⟨#[41]⟩⟩::r)).bind _=_
 rw[lJ [41] r];rfl
theorem Ox {K:Nat} {ta tb tc r:List Tk} {a b c:Ex} (ha:∀k,K<=k->jg el' k (ta++⟨3,⟨#[116,104,101,110]⟩⟩::(tb++⟨3,⟨#[101,108,115,101]⟩⟩::(tc++r)))=some (a,⟨3,⟨#[116,104,101,110]⟩⟩::(tb++⟨3,⟨#[101,108,115,101]⟩⟩::(tc++r))))
  (hb:∀k,K<=k->jg el' k (tb++⟨3,⟨#[101,108,115,101]⟩⟩::(tc++r))=some (b,⟨3,⟨#[101,108,115,101]⟩⟩::(tc++r))) (hc:∀k,K<=k->jg el' k (tc++r)=some (c,r)) :
  ∀k,K+1<=k->kV el' k (⟨3,⟨#[105,102]⟩⟩::(ta++⟨3,⟨#[116,104,101,110]⟩⟩::(tb++⟨3,⟨#[101,108,115,101]⟩⟩::(tc++r))))=some (.mk 4 0 0 0 ⟨#[]⟩ [a,b,c],r):=fun k hk=>by
 obtain⟨k,rfl⟩:∃j,k=j+1:=⟨k-1,iu⟩;rw[kV,zN _ _ ((jk ⟨#[45]⟩ ⟨#[105,102]⟩ []).trans rfl)];simp only[jk,ju,ry];rw[iV iI,iV iI,iV iI,iV iI,iV iI,iV iI,iV iI,iG iI,ha k iu];show (iF [⟨#[116,104,101,110]⟩] (⟨3,⟨#[116,104,101,110]⟩⟩::_)).bind _=_
 rw[uk [116,104,101,110]];show (jg el' k (tb++⟨3,⟨#[101,108,115,101]⟩⟩::(tc++r))).bind _=_
 rw[hb k iu];show (iF [⟨#[101,108,115,101]⟩] (⟨3,⟨#[101,108,115,101]⟩⟩::_)).bind _=_
 rw[uk [101,108,115,101]];show (jg el' k (tc++r)).bind _=_
 rw[hc k iu];rfl
def Ho (el:List iW) (l:List Ex):List Tk:=l.flatMap fun a=>⟨4,⟨#[44]⟩⟩::toks (kX el a)
theorem DR:∀(l acc:List Ex) (r:List Tk),(∀a∈l,∀r,tE r->∀k,30*mK a<=k->jg el' k (toks (kX el a)++r)=some (a,r)) ->
  ∀k,30*ks l+1<=k->rF el' k acc (Ho el l++⟨4,⟨#[41]⟩⟩::r)=some (acc++l,⟨4,⟨#[41]⟩⟩::r)
 |[],acc,r,_,k,hk=>by
  obtain⟨k,rfl⟩:∃j,k=j+1:=⟨k-1,iu⟩;show rF el' (k+1) acc (⟨4,⟨#[41]⟩⟩::r)=_
  rw[rF,kg,iV iI,oV]
 |a::l,acc,r,h,k,hk=>by
  rw[ks]at hk;have hza:0<mK a:=by cases a;rw[mK];omega
  obtain⟨k,rfl⟩:∃j,k=j+1:=⟨k-1,iu⟩;show rF el' (k+1) acc ((⟨4,⟨#[44]⟩⟩::toks (kX el a))++Ho el l++⟨4,⟨#[41]⟩⟩::r)=_
  rw[kD,lP,rF,kg,iG iI,ry];have hst:tE (Ho el l++⟨4,⟨#[41]⟩⟩::r):=by
   cases l with
   |nil=>exact tE.of (by decide +kernel) r
   |cons b l=>exact tE.of (t:=⟨4,⟨#[44]⟩⟩) (by decide +kernel) _
  rw[h a nG _ hst k iu];show rF el' k (acc++[a]) (Ho el l++⟨4,⟨#[41]⟩⟩::r)=_
  rw[DR l (acc++[a]) r (fun b o=>h b (qj _ o)) k iu,kD];rfl
theorem Hy:∀(a:Ex) (l:List Ex),toks (mq qR ((jy el (a::l)).map Ar.l))=toks (kX el a)++Ho el l
 |a,[]=>by rw[jy,jy];show toks (kX el a)=_++[];rw[oV]
 |a,b::l=>by
  have ih:=Hy b l;rw[jy];rw[jy]at ih⊢;show toks (kX el a++qR++mq qR (kX el b::(jy el l).map Ar.l))=_
  rw[iN,iN];rw[show toks (mq qR (kX el b::(jy el l).map Ar.l))=toks (kX el b)++Ho el l from ih,kD];rfl
theorem IQ {k:Nat} (hk:1<=k) (s:ByteArray) (l:List Ex) {r:List Tk} (h:jq ⟨#[101,118,101,114,121]⟩ r=false):oR el' k s l r=some (.mk 10 0 0 0 s l,r):=by
 obtain⟨k,rfl⟩:∃j,k=j+1:=⟨k-1,iu⟩;rw[oR,h,iV iI]
theorem Jd {k:Nat} (s:ByteArray) (l:List Ex) {ts r:List Tk} {x:Ex} (h:∀j,k<=j+1->kV el' j ts=some (x,r)) (hk:1<=k):∀k',k<=k'->oR el' k' s l (⟨3,⟨#[101,118,101,114,121]⟩⟩::ts)=some (.mk 10 0 0 1 s (l++[x]),r):=fun k' hk'=>by
 obtain⟨j,rfl⟩:∃j,k'=j+1:=⟨k'-1,iu⟩;rw[oR,jk,iG iI,ry,h j iu];rfl
theorem D' {s:ByteArray} (l:List Ex) {r r':List Tk} {x:Ex} (hE:∀a∈l,∀r,tE r->∀k,30*mK a<=k->jg el' k (toks (kX el a)++r)=some (a,r)) (hd:∀a∈l,∀r,jq ⟨#[41]⟩ (toks (kX el a)++r)=false)
  {K:Nat} (hv:∀k,K<=k->oR el' k s l r=some (x,r')) (hK:30*ks l+1<=K) :
  ∀k,K+3<=k->kV el' k (⟨1,s⟩::⟨4,⟨#[40]⟩⟩::(toks (mq qR ((jy el l).map Ar.l))++⟨4,⟨#[41]⟩⟩::r))=some (x,r'):=fun k hk=>by
 obtain⟨k,rfl⟩:∃j,k=j+2:=⟨k-2,iu⟩;rw[FO,kg,iG iI,ry];cases l with
 |nil=>
  show sU el' (k+1) s (⟨4,⟨#[41]⟩⟩::r)=_
  rw[sU,kg,iG iI,ry,hv k iu]
 |cons a l=>
 rw[Hy,kD,sU,hd a nG,iV iI];rw[ks]at hK;have hza:0<mK a:=by cases a;rw[mK];omega
 have hst:tE (Ho el l++⟨4,⟨#[41]⟩⟩::r):=by
  cases l with
  |nil=>exact tE.of (by decide +kernel) r
  |cons b l=>exact tE.of (t:=⟨4,⟨#[44]⟩⟩) (by decide +kernel) _
 rw[hE a nG _ hst k iu];show (rF el' k [a] (Ho el l++⟨4,⟨#[41]⟩⟩::r)).bind _=_
 rw[DR l [a] r (fun b o=>hE b (qj _ o)) k iu];show (iF [⟨#[41]⟩] (⟨4,⟨#[41]⟩⟩::r)).bind _=_
 rw[lJ [41] r];exact hv k iu
theorem GN (hA:x_ el el') {t:Int} {s:ByteArray} {n:Nat} (h2:t≠2) (ht:qS el t) (hn:n=jV el t) (hr:3<=t->∀j:Nat,j<n->FV el t j):∀(l acc:List Ex) (r:List Tk),acc.length+l.length=n ->
  (∀a∈l,∀r,tE r->∀k,30*mK a<=k->jg el' k (toks (kX el a)++r)=some (a,r)) ->
  ∀k,30*ks l+1<=k->we el' k s t n acc (toks (wj el t acc.length (jy el l))++r)=some (.mk 9 0 t 0 s (if t=1 then (acc++l).reverse else acc++l),r)
 |[],acc,r,hl,_,k,hk=>by
  obtain⟨k,rfl⟩:∃j,k=j+1:=⟨k-1,iu⟩;rw[jy,wj,po,sb,we,iV (by simp at hl;omega),oV]
 |a::l,acc,r,hl,h,k,hk=>by
  rw[ks]at hk;have hza:0<mK a:=by cases a;rw[mK];omega
  rw[py]at hl;obtain⟨k,rfl⟩:∃j,k=j+1:=⟨k-1,iu⟩;have hval:nq el t (if t=1 then 1-(acc.length:Int) else acc.length)=true:=uL h2 hn (by omega);obtain⟨tk,e1,e2,e3,-⟩:=Bt hA h2 ht hval (fun h3=>by rw[iV (by omega)];exact hr h3 _ (by omega));rw[jy,wj,jT,lK,iN,e1,jT,lK,jT,iN,lK];rw[we,iG iu];show (iF [⟨#[40]⟩] (⟨4,⟨#[40]⟩⟩::_)).bind _=_
  rw[lJ [40]];show (if lk el' t (if t=1 then 1-(acc.length:Int) else acc.length) true (tk::_) then (l_ el' (tk::_)).bind _ else none)=_
  rw[e3,iG rfl];show (l_ el' (tk::_)).bind _=_
  rw[e2];show (if t=t then (iF [⟨#[45,62]⟩] (⟨4,⟨#[45,62]⟩⟩::_)).bind _ else none)=_
  rw[iG rfl,lJ [45,62]];show (jg el' k (toks (kX el a)++⟨4,⟨#[41]⟩⟩::toks (wj el t (acc.length+1) (jy el l))++r)).bind _=_
  rw[kD,h a nG (⟨4,⟨#[41]⟩⟩::toks (wj el t (acc.length+1) (jy el l))++r) (tE.of (t:=⟨4,⟨#[41]⟩⟩) (by decide +kernel) _) k iu];show (iF [⟨#[41]⟩] (⟨4,⟨#[41]⟩⟩::_)).bind _=_
  rw[lJ [41]];show we el' k s t n (acc++[a]) (toks (wj el t (acc.length+1) (jy el l))++r)=_
  have ih:=GN hA (s:=s) h2 ht hn hr l (acc++[a]) r (by rw[mo];simp;omega) (fun b hb=>h b (qj _ hb)) k iu;rw[mo,xH,kD]at ih;exact ih
theorem IN (hA:x_ el el') {t:Int} {s:ByteArray} {n:Nat} (h2:t≠2) (ht:qS el t) (hn:n=jV el t) (hr:3<=t->∀j:Nat,j<n->FV el t j) (a:Ex) (l:List Ex) (r:List Tk) (hl:1+l.length=n)
  (h:∀b∈a::l,∀r,tE r->∀k,30*mK b<=k->jg el' k (toks (kX el b)++r)=some (b,r)) :
  ∀k,30*ks (a::l)+3<=k->kV el' k (⟨3,⟨#[109,101,114,103,101]⟩⟩::⟨1,s⟩::(toks (wj el t 0 (jy el (a::l)))++r))=some (.mk 9 0 t 0 s (if t=1 then (a::l).reverse else a::l),r):=fun k hk=>by
 rw[ks]at hk;have hza:0<mK a:=by cases a;rw[mK];omega
 obtain⟨k,rfl⟩:∃j,k=j+2:=⟨k-2,iu⟩;rw[kV,zN _ _ ((jk ⟨#[45]⟩ ⟨#[109,101,114,103,101]⟩ []).trans rfl)];simp only[jk,ju,ry];rw[iV iI,iV iI,iV iI,iV iI,iV iI,iV iI,iV iI,iV iI,iG iI];have hval:nq el t (if t=1 then 1-((0:Nat):Int) else ((0:Nat):Int))=true:=uL h2 hn (by omega);obtain⟨tk,e1,e2,-,e4⟩:=Bt hA h2 ht hval (fun h3=>by rw[iV iu];exact hr h3 0 iu);have e5:=e4 (fun h1=>by rw[iG h1];rfl) (fun h3=>by rw[iV iu];rfl);rw[jy,wj,jT,lK,iN,e1,jT,lK,jT,iN,lK,tI];show (iF [⟨#[40]⟩] (⟨4,⟨#[40]⟩⟩::_)).bind _=_
 rw[lJ [40]];show (if lk el' 0 (if jq ⟨#[116,114,117,101]⟩ (tk::_) then 1 else 0) false (tk::_) then (l_ el' (tk::_)).bind _ else none)=_
 rw[e5,iG rfl];show (l_ el' (tk::_)).bind _=_
 rw[e2];show (iF [⟨#[45,62]⟩] (⟨4,⟨#[45,62]⟩⟩::_)).bind _=_
 rw[lJ [45,62]];show (jg el' k (toks (kX el a)++⟨4,⟨#[41]⟩⟩::toks (wj el t (0+1) (jy el l))++r)).bind _=_
 rw[kD,h a nG (⟨4,⟨#[41]⟩⟩::toks (wj el t (0+1) (jy el l))++r) (tE.of (t:=⟨4,⟨#[41]⟩⟩) (by decide +kernel) _) k iu];show (iF [⟨#[41]⟩] (⟨4,⟨#[41]⟩⟩::_)).bind _=_
 rw[lJ [41]];show we el' k s t (jV el' t) [a] (toks (wj el t (0+1) (jy el l))++r)=_
 rw[hA.sz,<- hn];exact GN hA (s:=s) h2 ht hn hr l [a] r (by rw[xH];exact hl) (fun b hb=>h b (qj _ hb)) k iu
structure nT (el el':List iW) (x:Ex):Prop where
 e:∀r,tE r->∀k,30*mK x<=k->jg el' k (toks (kX el x)++r)=some (x,r)
 o:∀r,jq ⟨#[101,118,101,114,121]⟩ r=false->jq ⟨#[40]⟩ r=false->∀k,30*mK x+1<=k->kV el' k (toks (kM ⟨kb x,kG x,kX el x⟩)++r)=some (x,r)
 hd:∃t tl,toks (kM ⟨kb x,kG x,kX el x⟩)=t::tl/\wg ⟨#[45]⟩ t=false/\wg ⟨#[112,114,101]⟩ t=false/\wg ⟨#[110,111,116]⟩ t=false/\(t.kind=2->kG x=true)
 he:∀r,jq ⟨#[41]⟩ (toks (kX el x)++r)=false
theorem nT.Ty {x:Ex} (e:∀r,tE r->∀k,30*mK x<=k->jg el' k (toks (kX el x)++r)=some (x,r)) (he:∀r,jq ⟨#[41]⟩ (toks (kX el x)++r)=false)
  (hp:kb x=true->(∀r,jq ⟨#[101,118,101,114,121]⟩ r=false->jq ⟨#[40]⟩ r=false->∀k,30*mK x+1<=k->kV el' k (toks (kX el x)++r)=some (x,r)) /\
   ∃t tl,toks (kX el x)=t::tl/\wg ⟨#[45]⟩ t=false/\wg ⟨#[112,114,101]⟩ t=false/\wg ⟨#[110,111,116]⟩ t=false/\(t.kind=2->kG x=true)):nT el el' x:=by
 cases h:kb x with
 |true=>
  obtain⟨o,j⟩:=hp h;refine⟨e,?_,?_,he⟩
  ·rw[h];exact o
  rw[h];exact j
 |false=>
 refine⟨e,fun r o j k J=>?_,?_,he⟩
 ·rw[h]
  show kV el' k (toks (mf [40]::(kX el x++[mf [41]]))++r)=_
  rw[lK,iN,lK,po,lP,kD];exact Ht (e (⟨4,⟨#[41]⟩⟩::r) (tE.of (by decide +kernel) r)) k iu
 rw[h];exact⟨⟨4,⟨#[40]⟩⟩,toks (kX el x++[mf [41]]),rfl,(kg _ _ []).trans rfl,(kg _ _ []).trans rfl,(kg _ _ []).trans rfl,fun I=>absurd I (show (4:Int)≠2 by decide)⟩
theorem nT.Ts {x:Ex} {t:Tk} {tl:List Tk} (ht:toks (kX el x)=t::tl) (hP:∀r,jq ⟨#[101,118,101,114,121]⟩ r=false->jq ⟨#[40]⟩ r=false->∀k,30*mK x<=k+15->kV el' k (toks (kX el x)++r)=some (x,r))
  (h1:wg ⟨#[45]⟩ t=false) (h2:wg ⟨#[112,114,101]⟩ t=false) (h3:wg ⟨#[110,111,116]⟩ t=false) (h4:wg ⟨#[41]⟩ t=false) (h5:t.kind=2->kG x=true):nT el el' x:=by
 have U:15<=30*mK x:=by cases x;rw[mK];omega
 refine nT.Ty (fun r j k o=>?_) (fun r=>by rw[ht];exact h4) (fun _=>⟨fun r R J k o=>hP r R J k iu,t,tl,ht,h1,h2,h3,h5⟩);have I:=tJ (K:=30*mK x-15) (fun k o=>hP r j.ev j.pa k iu) (by rw[ht];exact h1) (by rw[ht];exact h2) j.wh;exact ov I (by rw[ht];exact h3) j k iu
theorem nT.un {x:Ex} (h:nT el el' x) {r:List Tk} (h1:jq ⟨#[101,118,101,114,121]⟩ r=false) (h2:jq ⟨#[40]⟩ r=false) (h3:jq ⟨#[119,104,101,110]⟩ r=false) :
  ∀k,30*mK x+3<=k->xu el' k (toks (kM ⟨kb x,kG x,kX el x⟩)++r)=some (x,r):=by
 obtain⟨t,R,j,J,I,U,-⟩:=h.hd;exact tJ (h.o r h1 h2) (by rw[j];exact J) (by rw[j];exact I) h3
theorem nT.nt {x:Ex} (h:nT el el' x) (r:List Tk):jq ⟨#[110,111,116]⟩ (toks (kM ⟨kb x,kG x,kX el x⟩)++r)=false:=by
 obtain⟨t,I,j,R,J,o,-⟩:=h.hd;rw[j];exact o
theorem nT.np {x:Ex} (h:nT el el' x) (r:List Tk):jq ⟨#[41]⟩ (toks (kM ⟨kb x,kG x,kX el x⟩)++r)=false:=by
 cases hp:kb x with
 |true=>exact h.he r
 |false=>exact (kg _ _ _).trans rfl
end
end
abbrev AN:=@tE.of
abbrev wN:=@nT.Ty
abbrev Ba:=@nT.Ts
end Go.Proofs.YtnigblndonocfaaGreatDoor
