/- A part of the proof. -/
import Derived.Test.YtnigblndonocfaaGreatDoorPDc
set_option linter.unusedVariables false
set_option linter.unusedSimpArgs false
namespace Go.Proofs.YtnigblndonocfaaGreatDoor
set_option maxHeartbeats 1600000
open Go.RowKit Go.BigFrame
section
def FV (el:List iW) (t v:Int):Prop:=∃s,qh el s=some (t,v)
structure Qx (el:List iW) (k o t v:Int) (s:ByteArray) (n:Nat):Prop where
 tb:t<=2000
 co:k=1->3<=t->FV el t v
 va:k=2->qh el s=none
 wh:k=8->3<=t->FV el t v
 me:k=9->3<=t->∀j:Nat,j<n->FV el t j
mutual
def AX (el:List iW):Ex->Prop
 |.mk k o t v s xs=>Qx el k o t v s xs.length/\tj el xs
def tj (el:List iW):List Ex->Prop
 |[]=>True
 |x::xs=>AX el x/\tj el xs
end
mutual
def mK:Ex->Nat
 |.mk _ _ _ _ _ xs=>1+ks xs
def ks:List Ex->Nat
 |[]=>0
 |x::xs=>mK x+ks xs
end
section
variable {el:List iW}
theorem tH:∀{a b:List Ex},tj el (a++b)↔tj el a/\tj el b
 |[],b=>by rw[sb,tj];simp
 |x::a,b=>by rw[lP,tj,tj,tH];simp only[and_assoc]
theorem qI:∀(a b:List Ex),ks (a++b)=ks a+ks b
 |[],b=>by rw[sb,ks,t_]
 |x::a,b=>by rw[lP,ks,ks,qI a b,CL]
theorem AT:∀{a:List Ex},tj el a->tj el a.reverse
 |[],_=>by rw[List.reverse_nil,tj];trivial
 |x::a,h=>by
  rw[tj]at h;rw[List.reverse_cons,tH,tj,tj];exact⟨AT h.2,h.1,trivial⟩
theorem vJ:∀(a:List Ex),ks a.reverse=ks a
 |[]=>rfl
 |x::a=>by rw[List.reverse_cons,qI,vJ a,ks,ks,ks];omega
def GX (el:List iW) (x:Ex) (n m:Nat):Prop:=AX el x/\mK x+m<=n
theorem vW {k o t v:Int} {s:ByteArray} {xs:List Ex} {n m:Nat} (hq:Qx el k o t v s xs.length) (ha:tj el xs) (hs:1+ks xs+m<=n):GX el (.mk k o t v s xs) n m:=⟨by rw[AX];exact⟨hq,ha⟩,by rw[mK];exact hs⟩
theorem xO {k o t v:Int} {s:ByteArray} {n:Nat} (h1:k≠1) (h2:k≠2) (h8:k≠8) (h9:k≠9) (ht:t<=2000):Qx el k o t v s n:=⟨ht,fun e=>absurd e h1,fun e=>absurd e h2,fun e=>absurd e h8,fun e=>absurd e h9⟩
structure GK (el:List iW) (k:Nat):Prop where
 e:∀ts x r,jg el k ts=some (x,r)->GX el x ts.length r.length
 l:∀n ts x r,jB el k n ts=some (x,r)->GX el x ts.length r.length
 lo:∀n a ts x r,AX el a->sK el k n a ts=some (x,r)->GX el x (mK a+ts.length) r.length
 u:∀ts x r,xu el k ts=some (x,r)->GX el x ts.length r.length
 w:∀a ts x r,AX el a->mO el k a ts=some (x,r)->GX el x (mK a+ts.length) r.length
 p:∀ts x r,kV el k ts=some (x,r)->GX el x ts.length r.length
 c:∀s ts x r,sU el k s ts=some (x,r)->GX el x ts.length r.length
 a:∀l ts l' r,tj el l->rF el k l ts=some (l',r)->tj el l'/\ks l'+r.length<=ks l+ts.length
 v:∀s l ts x r,tj el l->oR el k s l ts=some (x,r)->GX el x (1+ks l+ts.length) r.length
 m:∀ts x r,tI el k ts=some (x,r)->GX el x ts.length r.length
 b:∀s t n l ts x r,tj el l->t<=2000->(3<=t->∀j:Nat,j<l.length->FV el t j)->l.length<=n->we el k s t n l ts=some (x,r)->GX el x (1+ks l+ts.length) r.length
theorem OQ {α:Type} (l:List α):l.tail.length<=l.length:=by cases l<;>simp
theorem OH:GK el 0:=by
 refine⟨?_,?_,?_,?_,?_,?_,?_,?_,?_,?_,?_⟩<;>intros<;>rename_i h<;>first | (simp[jg]at h;done) | (simp[jB]at h;done) | (simp[sK]at h;done) | (simp[xu]at h;done) | (simp[mO]at h;done) | (simp[kV]at h;done) | (simp[sU]at h;done) | (simp[rF]at h;done) | (simp[oR]at h;done) | (simp[tI]at h;done) | (simp[we]at h;done)
theorem Hp {x:Ex} (h:AX el x):tj el [x]:=by rw[tj,tj];exact⟨h,trivial⟩
theorem Rb {x y:Ex} (h:AX el x) (g:AX el y):tj el [x,y]:=by rw[tj,tj,tj];exact⟨h,g,trivial⟩
theorem S_ {x y z:Ex} (h:AX el x) (g:AX el y) (f:AX el z):tj el [x,y,z]:=by rw[tj,tj,tj,tj];exact⟨h,g,f,trivial⟩
theorem Qe (x:Ex):ks [x]=mK x:=by rw[ks,ks];rfl
theorem SN (x y:Ex):ks [x,y]=mK x+mK y:=by rw[ks,ks,ks];omega
theorem TA (x y z:Ex):ks [x,y,z]=mK x+mK y+mK z:=by rw[ks,ks,ks,ks];omega
theorem Nu {n:Int} {ts:List Tk} {op:Int} (h:Ia n ts=some op):ts.length=ts.tail.length+1:=by
 cases ts with
 |nil=>cases h
 |cons t l=>rfl
theorem SW {k:Nat} (C:GK el k):∀ts x r,jg el (k+1) ts=some (x,r)->GX el x ts.length r.length:=by
 intro ts x r h;rw[jg]at h;obtain⟨⟨a,r1⟩,h1,o⟩:=mW.1 h;have J:=C.l _ _ _ _ h1;dsimp only at o;split at o
 ·rename_i hc
  obtain⟨⟨b,U⟩,R,j⟩:=mW.1 o;have I:=C.e _ _ _ R;dsimp only at j;injection j with j;injection j with e1 e2;subst e1 e2
  have hl:=lT hc;exact vW (xO iI iI iI iI iI) (Rb J.1 I.1) (by rw[SN];have:=J.2;have:=I.2;omega)
 split at o
 ·rename_i hc
  obtain⟨⟨b,U⟩,R,j⟩:=mW.1 o;have I:=C.e _ _ _ R;dsimp only at j;injection j with j;injection j with e1 e2;subst e1 e2
  have hl:=lT hc;exact vW (xO (by decide) (by decide) (by decide) (by decide) (by decide)) (Rb J.1 I.1) (by rw[SN];have:=J.2;have:=I.2;omega)
 injection o with o;injection o with e1 e2;subst e1 e2
 exact J
theorem S8 {k:Nat} (C:GK el k):∀n ts x r,jB el (k+1) n ts=some (x,r)->GX el x ts.length r.length:=by
 intro n ts x r h;rw[jB]at h;split at h
 ·split at h
  ·rename_i hc
   obtain⟨⟨b,r2⟩,J,o⟩:=mW.1 h;have j:=C.l _ _ _ _ J;dsimp only at o;injection o with o;injection o with e1 e2;subst e1 e2
   have hl:=lT hc;exact vW (xO (by decide) (by decide) (by decide) (by decide) (by decide)) (Hp j.1) (by rw[Qe];have:=j.2;omega)
  exact C.l _ _ _ _ h
 split at h
 ·exact C.u _ _ _ h
 obtain⟨⟨a,r1⟩,U,R⟩:=mW.1 h;have I:=C.l _ _ _ _ U;have j:=C.lo _ _ _ _ _ I.1 R;exact⟨j.1,by have:=I.2;have:=j.2;omega⟩
theorem RH {k:Nat} (C:GK el k):∀n a ts x r,AX el a->sK el (k+1) n a ts=some (x,r)->GX el x (mK a+ts.length) r.length:=by
 intro n a ts x r I h;rw[sK]at h;split at h
 ·injection h with h;injection h with e1 e2;subst e1 e2
  exact⟨I,js _⟩
 rename_i op hop
 have hl:=Nu hop;obtain⟨⟨b,U⟩,h1,j⟩:=mW.1 h;have R:=C.l _ _ _ _ h1;dsimp only at j;have o:GX el (.mk 3 op 0 0 ⟨#[]⟩ [a,b]) (mK a+ts.length) U.length:=vW (xO (by decide) (by decide) (by decide) (by decide) (by decide)) (Rb I R.1) (by rw[SN];have:=R.2;omega);split at j
 ·injection j with j;injection j with e1 e2;subst e1 e2
  exact o
 have J:=C.lo _ _ _ _ _ o.1 j;exact⟨J.1,by have:=J.2;have:=o.2;omega⟩
theorem Tg {k:Nat} (C:GK el k):∀ts x r,xu el (k+1) ts=some (x,r)->GX el x ts.length r.length:=by
 intro ts x r h;have j:((kV el k ts).bind fun (e,r)=>mO el k e r)=some (x,r)->GX el x ts.length r.length:=by
  intro h;obtain⟨⟨a,r1⟩,h1,U⟩:=mW.1 h;have ga:=C.p _ _ _ h1;have J:=C.w _ _ _ _ ga.1 U;exact⟨J.1,by have:=ga.2;have:=J.2;omega⟩
 have I:∀(o op:Int),o≠1->o≠2->o≠8->o≠9->ts.length=ts.tail.length+1->((xu el k ts.tail).bind fun (a,r)=>some (Ex.mk o op 0 0 ⟨#[]⟩ [a],r))=some (x,r)->GX el x ts.length r.length:=by
  intro o op h1 U h3 h4 hl h;obtain⟨⟨b,r2⟩,h5,R⟩:=mW.1 h;have J:=C.u _ _ _ h5;dsimp only at R;injection R with R;injection R with e1 e2;subst e1 e2
  exact vW (xO h1 U h3 h4 iI) (Hp J.1) (by rw[Qe];have:=J.2;omega)
 rw[xu]at h;split at h
 ·exact j h
 split at h
 ·rename_i hc
  exact I 3 2 iI iI iI iI (lT hc) h
 split at h
 ·rename_i hc
  exact I 5 0 iI iI iI iI (lT hc) h
 exact j h
theorem Lo {ts r:List Tk} {t v:Int} (h:l_ el ts=some ((t,v),r)) (h3:3<=t):FV el t v:=by
 unfold l_ at h;split at h
 ·injection h with h;injection h with h _;injection h with h _;omega
 split at h
 ·injection h with h;injection h with h _;injection h with h _;omega
 split at h
 ·cases h
 rename_i s r' hi
 cases ht:qh el s with
 |none=>rw[ht]at h;cases h
 |some tv=>
 rw[ht]at h;injection h with h;injection h with h _
 subst h;exact⟨s,ht⟩
theorem Js {ts r:List Tk} {o:sO} (h:mD el ts=some (o,r)):3<=o.t->FV el o.t o.tag:=by
 unfold mD at h;obtain⟨⟨⟨t,v⟩,r1⟩,h1,U⟩:=mW.1 h;dsimp only at U;obtain⟨⟨_,r2⟩,R,J⟩:=mW.1 U;dsimp only at J;obtain⟨⟨s,r3⟩,h5,I⟩:=mW.1 J;dsimp only at I;obtain⟨⟨_,r4⟩,h7,j⟩:=mW.1 I;dsimp only at j;injection j with j;injection j with e1 e2;subst e1
 exact fun R=>Lo h1 R
theorem mC {s:ByteArray} {ts r:List Tk} {u:Unit} (h:iF [s] ts=some (u,r)):ts.length=r.length+1:=xE h
theorem SV {k:Nat} (htag:∀u∈el,u.tags.l.length<=16) (hel:el.length<=1000) (C:GK el k):∀a ts x r,AX el a->mO el (k+1) a ts=some (x,r)->GX el x (mK a+ts.length) r.length:=by
 intro a ts x r J h;rw[mO]at h;split at h
 ·rename_i hc
  have hl:=lT hc;obtain⟨⟨o,r1⟩,U,R⟩:=mW.1 h;have j:=zp htag hel U;have hr:=Js U;dsimp only at R;have I:GX el (.mk 8 0 o.t o.tag o.name [a]) (mK a+ts.length) r1.length:=vW ⟨j.1,fun e=>absurd e (by decide),fun e=>absurd e (by decide),fun _ h3=>hr h3,fun e=>absurd e (by decide)⟩ (Hp J) (by rw[Qe];have:=j.2;omega);have gc:=C.w _ _ _ _ I.1 R;exact⟨gc.1,by have:=gc.2;have:=I.2;omega⟩
 injection h with h;injection h with e1 e2;subst e1 e2
 exact⟨J,js _⟩
theorem xa {k:Int} {ts:List Tk} (h:ju k ts=true):ts.length=ts.tail.length+1:=by
 cases ts with
 |nil=>cases h
 |cons t l=>rfl
theorem SM {k:Nat} (htag:∀u∈el,u.tags.l.length<=16) (hel:el.length<=1000) (C:GK el k):∀ts x r,kV el (k+1) ts=some (x,r)->GX el x ts.length r.length:=by
 intro ts x r h;have leaf:∀(kd t v:Int) (s:ByteArray) (m:Nat),Qx el kd 0 t v s 0->m+1<=ts.length->GX el (.mk kd 0 t v s []) ts.length m:=fun kd t v s m hq hm=>vW hq (by rw[tj];trivial) (by rw[ks];omega)
 have R:∀(t v:Int),t<=2000->(3<=t->FV el t v)->∀(s:ByteArray),Qx el 1 0 t v s 0:=fun t v ht hr s=>⟨ht,fun _=>hr,fun e=>absurd e iI,fun e=>absurd e iI,fun e=>absurd e iI⟩
 rw[kV]at h;by_cases j:rI ts=true
 ·rw[iG j]at h
  have hn:=j;unfold rI at hn;rw[mT]at hn;have l1:=lT hn.1;have l2:=xa hn.2;injection h with h;injection h with e1 e2;subst e1 e2
  exact leaf 1 2 _ _ _ (R 2 _ iI (fun J=>absurd J iI) _) iu
 rw[iV j]at h;by_cases j:jq ⟨#[45]⟩ ts=true
 ·rw[iG j]at h
  cases h
 rw[iV j]at h;by_cases j:ju 2 ts=true
 ·rw[iG j]at h
  have I:=j;have l1:=xa I;split at h
  ·cases h
  injection h with h;injection h with e1 e2;subst e1 e2
  exact leaf 1 2 _ _ _ (R 2 _ iI (fun J=>absurd J iI) _) iu
 rw[iV j]at h;by_cases j:ju 5 ts=true
 ·rw[iG j]at h
  have I:=j;have l1:=xa I;injection h with h;injection h with e1 e2;subst e1 e2
  exact leaf 11 0 0 _ _ (xO iI iI iI iI iI) iu
 rw[iV j]at h;by_cases j:jq ⟨#[116,114,117,101]⟩ ts=true
 ·rw[iG j]at h
  have I:=j;have l1:=lT I;injection h with h;injection h with e1 e2;subst e1 e2
  exact leaf 1 1 1 _ _ (R 1 _ iI (fun J=>absurd J iI) _) iu
 rw[iV j]at h;by_cases j:jq ⟨#[102,97,108,115,101]⟩ ts=true
 ·rw[iG j]at h
  have I:=j;have l1:=lT I;injection h with h;injection h with e1 e2;subst e1 e2
  exact leaf 1 1 0 _ _ (R 1 _ iI (fun J=>absurd J iI) _) iu
 rw[iV j]at h;by_cases j:jq ⟨#[40]⟩ ts=true
 ·rw[iG j]at h
  have I:=j;have l1:=lT I;obtain⟨⟨e,r1⟩,h1,o⟩:=mW.1 h;have ge:=C.e _ _ _ h1;dsimp only at o;obtain⟨⟨_,r2⟩,J,h4⟩:=mW.1 o;have l2:=mC J;dsimp only at h4;injection h4 with h4;injection h4 with e1 e2;subst e1 e2
  exact⟨ge.1,by have:=ge.2;omega⟩
 rw[iV j]at h;by_cases j:jq ⟨#[105,102]⟩ ts=true
 ·rw[iG j]at h
  have I:=j;have l1:=lT I;obtain⟨⟨c,r1⟩,h1,o⟩:=mW.1 h;have gc:=C.e _ _ _ h1;dsimp only at o;obtain⟨⟨_,r2⟩,J,h4⟩:=mW.1 o;have l2:=mC J;dsimp only at h4;obtain⟨⟨a,r3⟩,h5,h6⟩:=mW.1 h4;have ga:=C.e _ _ _ h5;dsimp only at h6;obtain⟨⟨_,r4⟩,h7,h8⟩:=mW.1 h6;have l4:=mC h7;dsimp only at h8;obtain⟨⟨b,r5⟩,h9,U⟩:=mW.1 h8;have gb:=C.e _ _ _ h9;dsimp only at U;injection U with U;injection U with e1 e2;subst e1 e2
  exact vW (xO (by decide) (by decide) (by decide) (by decide) (by decide)) (S_ gc.1 ga.1 gb.1) (by rw[TA];have:=gc.2;have:=ga.2;have:=gb.2;omega)
 rw[iV j]at h;by_cases j:jq ⟨#[109,101,114,103,101]⟩ ts=true
 ·rw[iG j]at h
  have I:=j;have l1:=lT I;have gm:=C.m _ _ _ h;exact⟨gm.1,by have:=gm.2;omega⟩
 rw[iV j]at h;obtain⟨⟨s,r1⟩,h1,o⟩:=mW.1 h;have l1:=mm h1;dsimp only at o;split at o
 ·rename_i I
  have l2:=lT I;have gc:=C.c _ _ _ _ o;exact⟨gc.1,by have:=gc.2;omega⟩
 split at o
 ·rename_i t v ht
  injection o with o;injection o with e1 e2;subst e1 e2
  have hs:=Eh htag ht;exact leaf 1 t v _ _ (R t v (by omega) (fun _=>⟨s,ht⟩) _) (by omega)
 rename_i ht
 injection o with o;injection o with e1 e2;subst e1 e2
 exact leaf 2 0 0 _ _ ⟨iI,fun e=>absurd e iI,fun _=>ht,fun e=>absurd e iI,fun e=>absurd e iI⟩ iu
theorem Tj {k:Nat} (C:GK el k):∀s l ts x r,tj el l->oR el (k+1) s l ts=some (x,r)->GX el x (1+ks l+ts.length) r.length:=by
 intro s l ts x r o h;rw[oR]at h;split at h
 ·rename_i hk
  have R:=lT hk;obtain⟨⟨e,J⟩,I,j⟩:=mW.1 h;have ge:=C.p _ _ _ I;dsimp only at j;injection j with j;injection j with e1 e2;subst e1 e2
  exact vW (xO (by decide) (by decide) (by decide) (by decide) (by decide)) (tH.2 ⟨o,Hp ge.1⟩) (by rw[qI,Qe];have:=ge.2;omega)
 injection h with h;injection h with e1 e2;subst e1 e2
 exact vW (xO iI iI iI iI iI) o (js _)
theorem S7 {k:Nat} (C:GK el k):∀l ts l' r,tj el l->rF el (k+1) l ts=some (l',r)->tj el l'/\ks l'+r.length<=ks l+ts.length:=by
 intro l ts l' r j h;rw[rF]at h;split at h
 ·rename_i hk
  have l1:=lT hk;obtain⟨⟨e,U⟩,R,o⟩:=mW.1 h;have ge:=C.e _ _ _ R;dsimp only at o;have I:=C.a _ _ _ _ (tH.2 ⟨j,Hp ge.1⟩) o;exact⟨I.1,by have J:=I.2;rw[qI,Qe]at J;have:=ge.2;omega⟩
 injection h with h;injection h with e1 e2;subst e1 e2
 exact⟨j,js _⟩
theorem SO {k:Nat} (C:GK el k):∀s ts x r,sU el (k+1) s ts=some (x,r)->GX el x ts.length r.length:=by
 intro s ts x r h;rw[sU]at h;split at h
 ·rename_i hk
  have l1:=lT hk;have j:=C.v _ _ _ _ _ (by rw[tj];trivial) h;exact⟨j.1,by have o:=j.2;rw[ks]at o;omega⟩
 obtain⟨⟨e,r1⟩,h1,R⟩:=mW.1 h;have ge:=C.e _ _ _ h1;dsimp only at R;obtain⟨⟨l,r2⟩,o,J⟩:=mW.1 R;have U:=C.a _ _ _ _ (Hp ge.1) o;dsimp only at J;obtain⟨⟨_,r3⟩,h5,I⟩:=mW.1 J;have l3:=mC h5;dsimp only at I;have j:=C.v _ _ _ _ _ U.1 I;exact⟨j.1,by have h7:=j.2;have h8:=U.2;rw[Qe]at h8;have:=ge.2;omega⟩
theorem MO {t v:Int} {ts r:List Tk} {tv:Int×Int} (hw:lk el t v true ts=true) (ha:l_ el ts=some (tv,r)) (h3:3<=t):FV el t v:=by
 unfold lk at hw;split at hw
 ·rename_i hc
  exfalso;have:(t==1)=false:=by rw[beq_eq_false_iff_ne];omega
  rw[this]at hw;simp at hw
 rw[mT]at hw;obtain⟨o,j⟩:=hw;cases htg:qh el (Cb ts) with
 |none=>rw[htg]at j;simp at j
 |some p=>
 obtain⟨u,x⟩:=p;rw[htg]at j;simp at j;exact⟨Cb ts,by rw[htg,j.1,j.2]⟩
theorem Jz {ts r:List Tk} {t v:Int} (hw:lk el 0 (if jq ⟨#[116,114,117,101]⟩ ts then 1 else 0) false ts=true) (ha:l_ el ts=some ((t,v),r)) (h3:3<=t):FV el t 0:=by
 unfold lk at hw;split at hw
 ·rename_i j
  exfalso;unfold l_ at ha;rw[uG]at j;rcases j with j | j
  ·rw[iG j]at ha
   injection ha with ha;injection ha with ha _;injection ha with ha _;omega
  by_cases R:jq ⟨#[116,114,117,101]⟩ ts=true
  ·rw[iG R]at ha
   injection ha with ha;injection ha with ha _;injection ha with ha _;omega
  rw[iV R,iG j]at ha;injection ha with ha;injection ha with ha _;injection ha with ha _;omega
 rename_i j
 rw[mT]at hw;obtain⟨U,I⟩:=hw;rw[uG,not_or]at j;unfold l_ at ha;rw[iV j.1,iV j.2]at ha;cases ts with
 |nil=>cases ha
 |cons a l=>
 have J:pV (a::l)=some (a.text,l):=by
  show (if a.kind==1 then _ else _)=_
  rw[show (a.kind==1)=true from U];rfl
 rw[J]at ha;dsimp only at ha;cases htg:qh el a.text with
 |none=>rw[htg]at ha;cases ha
 |some p=>
 obtain⟨u,x⟩:=p;rw[htg]at ha;have o:Cb (a::l)=a.text:=rfl;rw[o,htg]at I;simp at I;injection ha with ha;injection ha with ha _;injection ha with e1 e2
 subst e1;exact⟨a.text,by rw[htg,I]⟩
theorem Tb {k:Nat} (htag:∀u∈el,u.tags.l.length<=16) (hel:el.length<=1000) (C:GK el k):∀ts x r,tI el (k+1) ts=some (x,r)->GX el x ts.length r.length:=by
 intro ts x r h;rw[tI]at h;obtain⟨⟨s,r1⟩,h1,h2⟩:=mW.1 h;have l1:=mm h1;dsimp only at h2;obtain⟨⟨_,r2⟩,h3,o⟩:=mW.1 h2;have l2:=mC h3;dsimp only at o;by_cases R:lk el 0 (if jq ⟨#[116,114,117,101]⟩ r2 then 1 else 0) false r2=true
 ·rw[iG R]at o
  obtain⟨⟨⟨t,v⟩,r3⟩,U,h6⟩:=mW.1 o;have l3:=rW U;have hs:=vu htag U;dsimp only at h6;obtain⟨⟨_,r4⟩,h7,h8⟩:=mW.1 h6;have l4:=mC h7;dsimp only at h8;obtain⟨⟨e,r5⟩,h9,J⟩:=mW.1 h8;have ge:=C.e _ _ _ h9;dsimp only at J;obtain⟨⟨_,r6⟩,a6,I⟩:=mW.1 J;have l6:=mC a6;dsimp only at I;have gb:=C.b _ _ _ _ _ _ _ (Hp ge.1) (by omega) (fun h3 j hj=>by
   have:j=0:=by simp at hj;exact hj
   subst this;exact Jz R U h3) hs.2.2.1 I
  exact⟨gb.1,by have a1:=gb.2;rw[Qe]at a1;have:=ge.2;omega⟩
 rw[iV R]at o;cases o
theorem Tc {k:Nat} (C:GK el k):∀s t n l ts x r,tj el l->t<=2000->(3<=t->∀j:Nat,j<l.length->FV el t j)->l.length<=n->we el (k+1) s t n l ts=some (x,r)->GX el x (1+ks l+ts.length) r.length:=by
 intro s t n l ts x r hl ht hr hn h;rw[we]at h;split at h
 ·rename_i hlt
  obtain⟨⟨_,r2⟩,o,J⟩:=mW.1 h;have l2:=mC o;dsimp only at J;by_cases hw:lk el t (if t=1 then 1-(l.length:Int) else l.length) true r2=true
  ·rw[iG hw]at J
   obtain⟨⟨tv,r3⟩,h5,h6⟩:=mW.1 J;have l3:=rW h5;dsimp only at h6;split at h6
   ·obtain⟨⟨_,r4⟩,h7,h8⟩:=mW.1 h6
    have l4:=mC h7;dsimp only at h8;obtain⟨⟨e,r5⟩,h9,U⟩:=mW.1 h8;have ge:=C.e _ _ _ h9;dsimp only at U;obtain⟨⟨_,r6⟩,a6,R⟩:=mW.1 U;have l6:=mC a6;dsimp only at R;have gb:=C.b _ _ _ _ _ _ _ (tH.2 ⟨hl,Hp ge.1⟩) ht (fun o j hj=>by
     rw[mo]at hj;simp at hj;rcases qa j l.length with I | I
     ·exact hr o j I
     have:j=l.length:=by omega
     subst this;rw[iV (show ¬t=1 by omega)]at hw;exact MO hw h5 o) (by rw[mo];simp;omega) R
    exact⟨gb.1,by have a1:=gb.2;rw[qI,Qe]at a1;have:=ge.2;omega⟩
   cases h6
  rw[iV hw]at J;cases J
 rename_i hge
 injection h with h;injection h with e1 e2;subst e1 e2
 by_cases h1:t=1
 ·rw[iG h1]
  exact vW ⟨ht,fun e=>absurd e iI,fun e=>absurd e iI,fun e=>absurd e iI,fun _ o=>absurd o iu⟩ (AT hl) (by rw[vJ];exact js _)
 rw[iV h1];exact vW ⟨ht,fun e=>absurd e iI,fun e=>absurd e iI,fun e=>absurd e iI,fun _ o=>hr o⟩ hl (js _)
theorem NF (htag:∀u∈el,u.tags.l.length<=16) (hel:el.length<=1000):∀k,GK el k
 |0=>OH
 |k+1=>have C:=NF htag hel k;⟨SW C,S8 C,RH C,Tg C,SV htag hel C,SM htag hel C,SO C,S7 C,Tj C,Tb htag hel C,Tc C⟩
theorem uN (htag:∀u∈el,u.tags.l.length<=16) (hel:el.length<=1000) {k:Nat} {ts r:List Tk} {x:Ex} (h:jg el k ts=some (x,r)):AX el x/\mK x+r.length<=ts.length:=(NF htag hel k).e _ _ _ h
end
end
def NG (el:List iW) (k o t v:Int) (s:ByteArray) (n:Nat):Prop:=
 n<=64/\(
 (k=1/\o=0/\n=0/\s=⟨#[]⟩/\qS el t/\nq el t v=true) \/
 (k=2/\o=0/\t=0/\v=0/\n=0/\kT s=true) \/
 (k=3/\((1<=o/\o<=2/\n=1)\/(3<=o/\o<=16/\n=2))/\t=0/\v=0/\s=⟨#[]⟩) \/
 (((k=4/\n=3)\/(k=5/\n=1)\/(k=6/\n=2)\/(k=7/\n=2))/\o=0/\t=0/\v=0/\s=⟨#[]⟩) \/
 (k=8/\o=0/\n=1/\t≠2/\qS el t/\nq el t v=true/\kT s=true) \/
 (k=9/\o=0/\v=0/\t≠2/\qS el t/\n=jV el t/\1<=n/\kT s=true) \/
 (k=10/\o=0/\t=0/\(v=0\/(v=1/\1<=n))/\kT s=true) \/
 (k=11/\o=0/\t=0/\v=0/\n=0/\(pb s.data.toList).2=0))
mutual
def GE (el:List iW):Ex->Prop
 |.mk k o t v s xs=>NG el k o t v s xs.length/\IE el xs
def IE (el:List iW):List Ex->Prop
 |[]=>True
 |x::xs=>GE el x/\IE el xs
end
theorem IE.get {el:List iW}:∀{xs:List Ex},IE el xs->∀{i:Nat} {x:Ex},xs[i]?=some x->GE el x
 |[],_,i,x,h=>by simp at h
 |y::ys,hg,0,x,h=>by rw[IE]at hg;simp at h;subst h;exact hg.1
 |y::ys,hg,i+1,x,h=>by rw[IE]at hg;exact IE.get hg.2 (by simpa using h)
theorem F':∀{xs:List Ex} {i:Nat} {x:Ex},xs[i]?=some x->mK x<=ks xs
 |[],i,x,h=>by simp at h
 |y::ys,0,x,h=>by simp at h;subst h;rw[ks];omega
 |y::ys,i+1,x,h=>by rw[ks];have:=F' (xs:=ys) (i:=i) (x:=x) (by simpa using h);omega
theorem yX {el:List iW} {t:Int} (h:jV el t≠0):qS el t:=by
 unfold jV at h;unfold qS;by_cases J:t=1
 ·exact .inl J
 by_cases I:t=2
 ·exact .inr (.inl I)
 rw[iV J,iV I]at h;by_cases j:3<=t
 ·rw[iG j]at h
  refine .inr (.inr ⟨j,?_⟩);rcases qa (t-3).toNat el.length with o | o
  ·omega
  rw[LH o]at h;exact absurd rfl h
 rw[iV j]at h;exact absurd rfl h
theorem AW {s:ByteArray} (h:(pb s.data.toList).2=0):s.size<=66:=by
 have o:=jr s;rcases qa 66 s.size with j | j
 ·rw[wU (by omega)]at h;simp at h
 exact j
theorem jM {s:ByteArray} (h:kT s=true):0<s.size/\s.size<=40:=by
 unfold kT at h;simp only[mT,decide_eq_true_eq]at h;exact⟨h.1.1.1.1,h.1.1.1.2⟩
theorem qL {s:ByteArray} (h:s.toList.isEmpty=true):s=⟨#[]⟩:=by
 rw[nC]at h;exact Ig (List.isEmpty_iff.1 h)
theorem RS {el:List iW} {k o t v:Int} {s:ByteArray} {n:Nat} (h1:Ay k o t v s n=0) (h2:Dl el k t v n=0):NG el k o t v s n:=by
 unfold Ay at h1;by_cases hn:64<n
 ·rw[iG hn]at h1;omega
 rw[iV hn]at h1;unfold xJ at h1;split at h1
 ·omega
 rename_i hc
 simp only[not_or,not_and,Bool.not_eq_false]at hc;obtain⟨J,j,I,hr⟩:=hc;refine⟨iu,?_⟩;unfold fA at J;unfold fT at j;unfold fO at I hr;unfold fN fW at h1;unfold Dl at h2;by_cases k1:k=1
 ·subst k1
  simp at J I h1 h2;refine .inl ⟨rfl,I,iu,qL (by simpa using h1),?_,?_⟩
  ·exact yX (by intro R;rw[iG R]at h2;omega)
  split at h2
  ·omega
  split at h2
  ·assumption
  omega
 by_cases k2:k=2
 ·subst k2
  simp[mG]at J I h1 j;exact .inr (.inl ⟨rfl,I,j.1,j.2,iu,h1⟩)
 by_cases k3:k=3
 ·subst k3
  simp[mG]at J I h1 j hr;refine .inr (.inr (.inl ⟨rfl,?_,j.1,j.2,qL (by simpa using h1)⟩));unfold kY at J;split at J
  ·left;simp at *;omega
  right;simp at *;omega
 by_cases k4:k=4
 ·subst k4
  simp[mG]at J I h1 j;exact .inr (.inr (.inr (.inl ⟨.inl ⟨rfl,iu⟩,I,j.1,j.2,qL (by simpa using h1)⟩)))
 by_cases k5:k=5
 ·subst k5
  simp[mG]at J I h1 j;exact .inr (.inr (.inr (.inl ⟨.inr (.inl ⟨rfl,iu⟩),I,j.1,j.2,qL (by simpa using h1)⟩)))
 by_cases k6:k=6
 ·subst k6
  simp[mG]at J I h1 j;exact .inr (.inr (.inr (.inl ⟨.inr (.inr (.inl ⟨rfl,iu⟩)),I,j.1,j.2,qL (by simpa using h1)⟩)))
 by_cases k7:k=7
 ·subst k7
  simp[mG]at J I h1 j;exact .inr (.inr (.inr (.inl ⟨.inr (.inr (.inr ⟨rfl,iu⟩)),I,j.1,j.2,qL (by simpa using h1)⟩)))
 by_cases k8:k=8
 ·subst k8
  simp at J I h1 j h2;refine .inr (.inr (.inr (.inr (.inl ⟨rfl,I,iu,j.1,?_,?_,h1⟩))))
  ·exact yX (by intro R;rw[iG R]at h2;omega)
  split at h2
  ·omega
  split at h2
  ·assumption
  omega
 by_cases k9:k=9
 ·subst k9
  simp at J I h1 j h2;by_cases R:jV el t=0
  ·rw[iG R]at h2;omega
  rw[iV R]at h2;by_cases h8:n=jV el t
  ·exact .inr (.inr (.inr (.inr (.inr (.inl ⟨rfl,I,j,J.1,yX R,h8,iu,h1⟩)))))
  rw[iV h8]at h2;omega
 by_cases a1:k=10
 ·subst a1
  simp at J I h1 j;refine .inr (.inr (.inr (.inr (.inr (.inr (.inl ⟨rfl,I,j.1,?_,h1⟩))))));rcases j.2 with h | h
  ·exact .inl h
  exact .inr ⟨h,iu⟩
 by_cases U:k=11
 ·subst U
  simp[mG]at J I h1 j;exact .inr (.inr (.inr (.inr (.inr (.inr (.inr ⟨rfl,I,j.1,j.2,iu,h1⟩))))))
 simp[k1,k2,k3,k4,k5,k6,k7,k8,k9,a1,U]at J
theorem Cs:∀{l:List Tx},kR l=0->∀e∈l,uo e=0
 |[],_,e,h=>by simp at h
 |a::l,h0,e,h=>by
  rw[kR]at h0;by_cases ha:uo a=0
  ·rw[iG ha]at h0
   rcases uW.1 h with rfl | h
   ·exact ha
   exact Cs h0 e h
  rw[iV ha]at h0;exact absurd h0 ha
theorem Cl {el:List iW}:∀{l:List Tx},lv el l=0->∀e∈l,Bl el e=0
 |[],_,e,h=>by simp at h
 |a::l,h0,e,h=>by
  rw[lv]at h0;by_cases ha:Bl el a=0
  ·rw[iG ha]at h0
   rcases uW.1 h with rfl | h
   ·exact ha
   exact Cl h0 e h
  rw[iV ha]at h0;exact absurd h0 ha
mutual
theorem KQ {el:List iW}:∀x:Tx,(∀e∈x.list,uo e=0/\Bl el e=0)->GE el x.er
 |.mk k o t v s A c xs,h=>by
  rw[Tx.er,GE,nM];have h0:=h (.mk k o t v s A c xs) (by rw[Tx.list];exact nG);exact⟨RS h0.1 h0.2,Ij xs fun e he=>h e (by rw[Tx.list];exact qj _ he)⟩
theorem Ij {el:List iW}:∀xs:List Tx,(∀e∈Tx.lists xs,uo e=0/\Bl el e=0)->IE el (Tx.kv xs)
 |[],h=>by rw[Tx.kv,IE];trivial
 |x::xs,h=>by
  rw[Tx.kv,IE];exact⟨KQ x fun e he=>h e (by rw[Tx.lists];exact List.mem_append_left _ he),Ij xs fun e he=>h e (by rw[Tx.lists];exact List.mem_append_right _ he)⟩
end
theorem Pt {el:List iW} {x:Tx} (h:qk el x=0):vj x=0/\lv el x.list=0:=by
 unfold qk at h;by_cases j:vj x=0
 ·rw[iG j]at h;exact⟨j,h⟩
 rw[iV j]at h;exact absurd h j
theorem Ki {el:List iW} {x:Tx} (h:qk el x=0):GE el x.er/\x.size<=400:=by
 obtain⟨j,I⟩:=Pt h;unfold vj at j;split at j
 ·omega
 rename_i h9
 exact⟨KQ x fun e o=>⟨Cs j e o,Cl I e o⟩,iu⟩
def mL (el:List iW):Prop:=∀u∈el,∀g∈u.tags.l,g.size<=40
theorem KI {n:Nat} (h:n<=99999):(xF n).size<=20:=by
 have j:=jr (xF n);rw[qV,Lib.decDigits_length]at j;have o:=Lib.nDigits_le20 n iu;omega
theorem xw {el:List iW} (hT:mL el) {t v:Int} (hv:nq el t v=true):(iY (wm el t v)).length<=40:=by
 unfold wm;by_cases o:t=1
 ·rw[iG o]
  split
  ·rw[kH,ja];decide
  rw[kH,ja];decide
 rw[iV o];by_cases j:t=2
 ·unfold nq at hv
  rw[iG j]at hv;simp only[mT,decide_eq_true_eq]at hv;rw[iG j];split
  ·have:=KI (n:=v.natAbs) iu
   have J:=jr (xF v.natAbs);rw[jl,Cm,ja];simp;omega
  have:=KI (n:=v.toNat) iu;rw[Cm,ja];simp;omega
 rw[iV j];cases hu:el[(t-3).toNat]? with
 |none=>simp[ja]
 |some u=>
 have I:=om hu;show (iY [rM (u.tags.l.getD v.toNat ⟨#[]⟩)]).length<=40
 rw[lQ,ja,oV];rw[jr];rw[wC];cases hg:u.tags.l[v.toNat]? with
 |none=>decide
 |some g=>exact hT u I g (om hg)
def mM:List Ar->Nat
 |[]=>0
 |a::l=>(iY a.l).length+50+mM l
theorem AG:∀{L:List Ar} {i:Nat},i<L.length->(iY (pF L i).l).length+50<=mM L
 |[],i,h=>by simp at h
 |a::l,0,h=>by rw[mM];show (iY a.l).length+50<=_;omega
 |a::l,i+1,h=>by
  rw[mM];have:=AG (L:=l) (i:=i) (by simpa using h);show (iY (pF l i).l).length+50<=_
  omega
theorem vD:∀a b:List Ar,mM (a++b)=mM a+mM b
 |[],b=>by simp[mM]
 |x::a,b=>by rw[lP,mM,mM,vD a b];omega
theorem xN:∀l:List Ar,mM l.reverse=mM l
 |[]=>rfl
 |a::l=>by rw[List.reverse_cons,vD,xN l,mM,mM,mM];omega
theorem Ck:∀l:List Ar,(iY (mq qR (l.map Ar.l))).length<=mM l
 |[]=>by rw[tW,mq,ja];simp
 |[a]=>by rw[mJ,tW,mq,mM,mM];omega
 |a::b::l=>by
  have h2:=Ck (b::l);rw[mJ,mJ,mq,iC,iC,<- mJ,mM];have h3:(iY qR).length=2:=iI;simp only[mo];omega
theorem ER {el:List iW} (hT:mL el) {t:Int}:∀(L:List Ar) (i:Nat),(∀j,i<=j->j<i+L.length->nq el t (if t=1 then 1-(j:Int) else j)=true)->(iY (wj el t i L)).length<=mM L
 |[],i,_=>by rw[wj,ja];simp
 |a::L,i,h=>by
  have h1:=xw hT (h i (js _) (by simp));have h2:=ER hT L (i+1) fun j h9 h8=>h j iu (by simp only[py];omega)
  rw[wj,mM,jn,jl,iC,jn,jl,jn,iC,jl];simp only[mo,py,wJ];omega
theorem Cj (L:List Ar) {i:Nat} (h:i<L.length):(iY (kM (pF L i))).length+48<=mM L:=by
 have o:=AG h;have j:(iY (kM (pF L i))).length<=(iY (pF L i).l).length+2:=by
  unfold kM;split
  ·omega
  rw[jl,iC,jl,ja];simp
 omega
theorem Ad (L:List Ar) (h:L.length=2):mM L=(iY (pF L 0).l).length+50+((iY (pF L 1).l).length+50):=by
 match L,h with
 |[a,b],_=>rfl
theorem Gd (L:List Ar) (h:L.length=3):mM L=(iY (pF L 0).l).length+50+((iY (pF L 1).l).length+50)+((iY (pF L 2).l).length+50):=by
 match L,h with
 |[a,b,c],_=>show _=_;simp only[mM];show _=(iY a.l).length+50+((iY b.l).length+50)+((iY c.l).length+50);omega
theorem Jq (L:List Ar) (h:1<=L.length):mM L=mM (L.take (L.length-1))+((iY (pF L (L.length-1)).l).length+50):=by
 have o:=vD (L.take (L.length-1)) (L.drop (L.length-1));rw[Gv]at o;rw[o];have j:L.length-1<L.length:=iu;rw[MG j,List.drop_of_length_le iu,mM,mM];unfold pF;rw[wC,qn j];rfl
theorem tX (a:Ar):(iY (kM a)).length<=(iY a.l).length+2:=by
 unfold kM;split
 ·omega
 rw[jl,iC,jl,ja];simp
theorem OV {c:Prop} [Decidable c] {a b:Pc} (ha:(iY [a]).length<=3) (hb:(iY [b]).length<=3):(iY [if c then a else b]).length<=3:=by split<;>assumption
theorem MK (o:Int):(iY [z_ o]).length<=3:=by
 unfold z_;repeat (refine OV iI ?_)
 decide
theorem uL {el:List iW} {t:Int} {n j:Nat} (h2:t≠2) (hn:n=jV el t) (hj:j<n):nq el t (if t=1 then 1-(j:Int) else j)=true:=by
 unfold nq;rw[iV h2];simp only[mT,decide_eq_true_eq];by_cases o:t=1
 ·rw[iG o]
  have:jV el t=2:=by unfold jV;rw[iG o]
  omega
 rw[iV o];omega
theorem Pl {el:List iW} (hT:mL el) {k o t v:Int} {s:ByteArray} {L:List Ar} (h:NG el k o t v s L.length):(iY (uF el k o t v s L)).length+50<=200+mM L:=by
 have a1:=jr s;obtain⟨_,⟨rfl,rfl,I,rfl,ht,U⟩ | ⟨rfl,rfl,rfl,rfl,I,J⟩ | ⟨rfl,ho,rfl,rfl,rfl⟩ | ⟨hk,rfl,rfl,rfl,rfl⟩ | ⟨rfl,rfl,I,R,ht,U,J⟩ | ⟨rfl,rfl,rfl,R,ht,I,a6,J⟩ | ⟨rfl,rfl,rfl,U,J⟩ | ⟨rfl,rfl,rfl,rfl,I,J⟩⟩:=h
 ·have:=xw hT U
  show (iY (wm el t v)).length+50<=_
  omega
 ·have:=jM J
  show (iY [rM s]).length+50<=_
  rw[lQ,ja];simp;omega
 ·show (iY (EA o L)).length+50<=_
  rcases ho with⟨h1,h2,I⟩ | ⟨h1,h2,I⟩
  ·have:=Cj L (i:=0) iu
   have h9:=AG (L:=L) (i:=0) iu;unfold EA;by_cases h3:o=1
   ·rw[iG h3,kH,jn];simp;omega
   rw[iV h3,iG (by omega)];split
   ·rw[jl,jl,iC,jl,ja];simp;omega
   rw[jl];simp;omega
  have h8:=Ad L I;have e0:=tX (pF L 0);have e1:=tX (pF L 1);have e2:=MK o;unfold EA;rw[iV (by omega),iV (by omega),iC,jn,show z_ o::.sp 32::kM (pF L 1)=[z_ o]++(.sp 32::kM (pF L 1)) from rfl,iC,jn];simp only[mo,py];omega
 ·rcases hk with⟨rfl,I⟩ | ⟨rfl,I⟩ | ⟨rfl,I⟩ | ⟨rfl,I⟩
  ·have h8:=Gd L I
   unfold uF;simp (config:={ decide:=true }) only[↓reduceIte,iC,kH,jn,jl,ja];simp;omega
  ·have e0:=Cj L (i:=0) (by omega)
   unfold uF;simp (config:={ decide:=true }) only[↓reduceIte,iC,kH,jn,jl,ja];simp;omega
  ·have h8:=Ad L I
   have e0:=tX (pF L 0);have e1:=tX (pF L 1);unfold uF;simp (config:={ decide:=true }) only[↓reduceIte,iC,kH,jn,jl,ja];simp;omega
  have h8:=Ad L I;have e0:=tX (pF L 0);have e1:=tX (pF L 1);unfold uF;simp (config:={ decide:=true }) only[↓reduceIte,iC,kH,jn,jl,ja];simp;omega
 ·have h9:=jM J
  have h8:=xw hT U;have e0:=Cj L (i:=0) (by omega);show (iY (kM (pF L 0)++.sp 32::FX el t v s)).length+50<=_
  unfold FX;rw[iC,jn,kH,jn,iC,jl,lQ,jl,ja];simp;omega
 ·have h9:=jM J
  show (iY (mB [109,101,114,103,101]::.sp 32::rM s::wj el t 0 (if t=1 then L.reverse else L))).length+50<=_
  have hb:(iY (wj el t 0 (if t=1 then L.reverse else L))).length<=mM L:=by
   split
   ·rw[<- xN L]
    exact ER hT _ _ fun j _ h7=>uL R I (by rw[List.length_reverse]at h7;omega)
   exact ER hT _ _ fun j _ h7=>uL R I (by omega)
  rw[kH,jn,lQ];simp;omega
 ·have h9:=jM J
  show (iY (AU v s L)).length+50<=_
  unfold AU;rw[lQ,jl,iC,jl];rcases U with rfl | ⟨rfl,I⟩
  ·have:=Ck L
   rw[iV (by decide),ja,show L.length-(0:Int).toNat=L.length from rfl,pf];simp;omega
  have h7:=Ck (L.take (L.length-1));have h6:=Jq L I;have e0:=tX (pF L (L.length-1));rw[iG rfl,jn,kH,jn,show L.length-(1:Int).toNat=L.length-1 from rfl];generalize iY (mq qR (List.map Ar.l (L.take (L.length-1))))=z at h7⊢;simp;omega
 have h9:=AW J;show (iY [So s]).length+50<=_
 rw[NQ,ja];simp;omega
mutual
theorem yU {el:List iW} (hT:mL el):∀x:Ex,GE el x->(iY (kX el x)).length+50<=200*mK x
 |.mk k o t v s xs,h=>by
  rw[GE]at h;rw[kX,mK];have h1:=Pl hT (L:=jy el xs) (by rw[nD];exact h.1);have h2:=Gb hT xs h.2;omega
theorem Gb {el:List iW} (hT:mL el):∀xs:List Ex,IE el xs->mM (jy el xs)<=200*ks xs
 |[],h=>by rw[jy,mM];omega
 |x::xs,h=>by
  rw[IE]at h;have h1:=yU hT x h.1;have h2:=Gb hT xs h.2;rw[jy,mM,ks];show (iY (kX el x)).length+50+mM (jy el xs)<=_
  omega
end
end Go.Proofs.YtnigblndonocfaaGreatDoor
