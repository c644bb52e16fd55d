/- A part of the proof. -/
import Derived.Test.YtnigblndonocfaaGreatDoorP5
set_option linter.unusedVariables false
set_option linter.unusedSimpArgs false
namespace Go.Proofs.YtnigblndonocfaaGreatDoor
set_option maxRecDepth 100000
set_option maxHeartbeats 6400000
open Go.RowKit Go.BigFrame Go.Proofs.Tryz
def FV (el:List iW) (t v:Int):Prop:=∃s,qh el s=some (t,v)
structure Qx (el:List iW) (k o t v:Int) (s:yB) (n:Nat):Prop where
 tb:t<=2000
 co:k=1->3<=t->FV el t v
 va:k=2->qh el s=none
 wh:k=8->3<=t->FV el t v
 me:k=9->3<=t->∀j:Nat,j<n->FV el t j
mutual
def AX (el:List iW):Ex->Prop
 |.mk k o t v s xs=>Qx el k o t v s xs/\tj el xs
def tj (el:List iW):List Ex->Prop
 |[]=>True
 |x::xs=>AX el x/\tj el xs
end
mutual
def mK:Ex->Nat
 |.mk _ _ _ _ _ xs=>1+ks xs
def ks:List Ex->Nat
 |[]=>0
 |x::xs=>mK x+ks xs
end
section
variable {el:List iW}
theorem tH:∀{a b:List Ex},tj el (a++b)↔tj el a/\tj el b
 |[],b=>by rw[sb,tj];simp
 |x::a,b=>by rw[lP,tj,tj,tH];simp only[and_assoc]
theorem qI:∀(a b:List Ex),ks (a++b)=ks a+ks b
 |[],b=>by rw[sb,ks,t_]
 |x::a,b=>by rw[lP,ks,ks,qI a b,CL]
theorem AT:∀{a:List Ex},tj el a->tj el a.reverse
 |[],_=>by rw[List.reverse_nil,tj];trivial
 |x::a,h=>by
  rw[tj]at h;rw[List.reverse_cons,tH,tj,tj];exact⟨AT h.2,h.1,trivial⟩
theorem vJ:∀(a:List Ex),ks a.reverse=ks a
 |[]=>rfl
 |x::a=>by rw[List.reverse_cons,qI,vJ a,ks,ks,ks];omega
def GX (el:List iW) (x:Ex) (n m:Nat):Prop:=AX el x/\mK x+m<=n
theorem vW {k o t v:Int} {s:yB} {xs:List Ex} {n m:Nat} (hq:Qx el k o t v s xs) (ha:tj el xs) (hs:1+ks xs+m<=n):GX el (.mk k o t v s xs) n m:=⟨by rw[AX];exact⟨hq,ha⟩,by rw[mK];exact hs⟩
theorem xO {k o t v:Int} {s:yB} {n:Nat} (h1:k≠1) (h2:k≠2) (h8:k≠8) (h9:k≠9) (ht:t<=2000):Qx el k o t v s n:=⟨ht,fun e=>absurd e h1,fun e=>absurd e h2,fun e=>absurd e h8,fun e=>absurd e h9⟩
structure GK (el:List iW) (k:Nat):Prop where
 e:∀ts x r,jg el k ts=some (x,r)->GX el x ts r
 l:∀n ts x r,jB el k n ts=some (x,r)->GX el x ts r
 lo:∀n a ts x r,AX el a->sK el k n a ts=some (x,r)->GX el x (mK a+ts) r.length
 u:∀ts x r,xu el k ts=some (x,r)->GX el x ts r
 w:∀a ts x r,AX el a->mO el k a ts=some (x,r)->GX el x (mK a+ts) r.length
 p:∀ts x r,kV el k ts=some (x,r)->GX el x ts r
 c:∀s ts x r,sU el k s ts=some (x,r)->GX el x ts r
 a:∀l ts l' r,tj el l->rF el k l ts=some (l',r)->tj el l'/\ks l'+r.length<=ks l+ts
 v:∀s l ts x r,tj el l->oR el k s l ts=some (x,r)->GX el x (1+ks l+ts) r.length
 m:∀ts x r,tI el k ts=some (x,r)->GX el x ts r
 b:∀s t n l ts x r,tj el l->t<=2000->(3<=t->∀j:Nat,j<l.length->FV el t j)->l.length<=n->we el k s t n l ts=some (x,r)->GX el x (1+ks l+ts) r.length
theorem OQ {α:Type} (l:List α):l.tail.length<=l:=by cases l<;>simp
theorem OH:GK el 0:=by
 refine⟨?_,?_,?_,?_,?_,?_,?_,?_,?_,?_,?_⟩<;>intros<;>rename_i h<;>first | (simp[jg]at h;done) | (simp[jB]at h;done) | (simp[sK]at h;done) | (simp[xu]at h;done) | (simp[mO]at h;done) | (simp[kV]at h;done) | (simp[sU]at h;done) | (simp[rF]at h;done) | (simp[oR]at h;done) | (simp[tI]at h;done) | (simp[we]at h;done)
theorem Hp {x:Ex} (h:AX el x):tj el [x]:=by rw[tj,tj];exact⟨h,trivial⟩
theorem Rb {x y:Ex} (h:AX el x) (g:AX el y):tj el [x,y]:=by rw[tj,tj,tj];exact⟨h,g,trivial⟩
theorem S_ {x y z:Ex} (h:AX el x) (g:AX el y) (f:AX el z):tj el [x,y,z]:=by rw[tj,tj,tj,tj];exact⟨h,g,f,trivial⟩
theorem Qe (x:Ex):ks [x]=mK x:=by rw[ks,ks];rfl
theorem SN (x y:Ex):ks [x,y]=mK x+mK y:=by rw[ks,ks,ks];omega
theorem TA (x y z:Ex):ks [x,y,z]=mK x+mK y+mK z:=by rw[ks,ks,ks,ks];omega
theorem Nu {n:Int} {ts:List Tk} {op:Int} (h:Ia n ts=some op):ts.length=ts.tail+1:=by
 cases ts with
 |nil=>cases h
 |cons t l=>rfl
theorem SW {k:Nat} (C:GK el k):∀ts x r,jg el (k+1) ts=some (x,r)->GX el x ts r:=by
 intro ts x r h;rw[jg]at h;obtain⟨⟨a,r1⟩,h1,o⟩:=mW.1 h;have J:=C.l _ _ _ _ h1;dsimp only at o;split at o
 ·rename_i hc
  obtain⟨⟨b,U⟩,R,j⟩:=mW.1 o;have I:=C.e _ _ _ R;dsimp only at j;injection j with j;injection j with e1 e2;subst e1 e2
  have hl:=lT hc;exact vW (xO iI iI iI iI iI) (Rb J.1 I.1) (by rw[SN];have:=J.2;have:=I.2;omega)
 split at o
 ·rename_i hc
  obtain⟨⟨b,U⟩,R,j⟩:=mW.1 o;have I:=C.e _ _ _ R;dsimp only at j;injection j with j;injection j with e1 e2;subst e1 e2
  have hl:=lT hc;exact vW (xO (by decide) (by decide) (by decide) (by decide) (by decide)) (Rb J.1 I.1) (by rw[SN];have:=J.2;have:=I.2;omega)
 injection o with o;injection o with e1 e2;subst e1 e2
 exact J
theorem S8 {k:Nat} (C:GK el k):∀n ts x r,jB el (k+1) n ts=some (x,r)->GX el x ts r:=by
 intro n ts x r h;rw[jB]at h;split at h
 ·split at h
  ·rename_i hc
   obtain⟨⟨b,r2⟩,J,o⟩:=mW.1 h;have j:=C.l _ _ _ _ J;dsimp only at o;injection o with o;injection o with e1 e2;subst e1 e2
   have hl:=lT hc;exact vW (xO (by decide) (by decide) (by decide) (by decide) (by decide)) (Hp j.1) (by rw[Qe];have:=j.2;omega)
  exact C.l _ _ _ _ h
 split at h
 ·exact C.u _ _ _ h
 obtain⟨⟨a,r1⟩,U,R⟩:=mW.1 h;have I:=C.l _ _ _ _ U;have j:=C.lo _ _ _ _ _ I.1 R;exact⟨j.1,by have:=I.2;have:=j.2;omega⟩
theorem RH {k:Nat} (C:GK el k):∀n a ts x r,AX el a->sK el (k+1) n a ts=some (x,r)->GX el x (mK a+ts) r.length:=by
 intro n a ts x r I h;rw[sK]at h;split at h
 ·injection h with h;injection h with e1 e2;subst e1 e2
  exact⟨I,js _⟩
 rename_i op hop
 have hl:=Nu hop;obtain⟨⟨b,U⟩,h1,j⟩:=mW.1 h;have R:=C.l _ _ _ _ h1;dsimp only at j;have o:GX el (.mk 3 op 0 0 ⟨#[]⟩ [a,b]) (mK a+ts) U.length:=vW (xO (by decide) (by decide) (by decide) (by decide) (by decide)) (Rb I R.1) (by rw[SN];have:=R.2;omega);split at j
 ·injection j with j;injection j with e1 e2;subst e1 e2
  exact o
 have J:=C.lo _ _ _ _ _ o.1 j;exact⟨J.1,by have:=J.2;have:=o.2;omega⟩
theorem Tg {k:Nat} (C:GK el k):∀ts x r,xu el (k+1) ts=some (x,r)->GX el x ts r:=by
 intro ts x r h;have j:((kV el k ts).bind fun (e,r)=>mO el k e r)=some (x,r)->GX el x ts r:=by
  intro h;obtain⟨⟨a,r1⟩,h1,U⟩:=mW.1 h;have ga:=C.p _ _ _ h1;have J:=C.w _ _ _ _ ga.1 U;exact⟨J.1,by have:=ga.2;have:=J.2;omega⟩
 have I:∀(o op:Int),o≠1->o≠2->o≠8->o≠9->ts.length=ts.tail+1->((xu el k ts.tail).bind fun (a,r)=>some (Ex.mk o op 0 0 ⟨#[]⟩ [a],r))=some (x,r)->GX el x ts r:=by
  intro o op h1 U h3 h4 hl h;obtain⟨⟨b,r2⟩,h5,R⟩:=mW.1 h;have J:=C.u _ _ _ h5;dsimp only at R;injection R with R;injection R with e1 e2;subst e1 e2
  exact vW (xO h1 U h3 h4 iI) (Hp J.1) (by rw[Qe];have:=J.2;omega)
 rw[xu]at h;split at h
 ·exact j h
 split at h
 ·rename_i hc
  exact I 3 2 iI iI iI iI (lT hc) h
 split at h
 ·rename_i hc
  exact I 5 0 iI iI iI iI (lT hc) h
 exact j h
theorem Lo {ts r:List Tk} {t v:Int} (h:l_ el ts=some ((t,v),r)) (h3:3<=t):FV el t v:=by
 unfold l_ at h;split at h
 ·injection h with h;injection h with h _;injection h with h _;omega
 split at h
 ·injection h with h;injection h with h _;injection h with h _;omega
 split at h
 ·cases h
 rename_i s r' hi
 cases ht:qh el s with
 |none=>rw[ht]at h;cases h
 |some tv=>
 rw[ht]at h;injection h with h;injection h with h _
 subst h;exact⟨s,ht⟩
theorem Js {ts r:List Tk} {o:sO} (h:mD el ts=some (o,r)):3<=o.t->FV el o.t o.tag:=by
 unfold mD at h;obtain⟨⟨⟨t,v⟩,r1⟩,h1,U⟩:=mW.1 h;dsimp only at U;obtain⟨⟨_,r2⟩,R,J⟩:=mW.1 U;dsimp only at J;obtain⟨⟨s,r3⟩,h5,I⟩:=mW.1 J;dsimp only at I;obtain⟨⟨_,r4⟩,h7,j⟩:=mW.1 I;dsimp only at j;injection j with j;injection j with e1 e2;subst e1
 exact fun R=>Lo h1 R
theorem mC {s:yB} {ts r:List Tk} {u:Unit} (h:iF [s] ts=some (u,r)):ts.length=r+1:=xE h
theorem SV {k:Nat} (htag:∀u∈el,u.tags.l.length<=16) (hel:el.length<=1000) (C:GK el k):∀a ts x r,AX el a->mO el (k+1) a ts=some (x,r)->GX el x (mK a+ts) r.length:=by
 intro a ts x r J h;rw[mO]at h;split at h
 ·rename_i hc
  have hl:=lT hc;obtain⟨⟨o,r1⟩,U,R⟩:=mW.1 h;have j:=zp htag hel U;have hr:=Js U;dsimp only at R;have I:GX el (.mk 8 0 o.t o.tag o.name [a]) (mK a+ts) r1.length:=vW ⟨j.1,fun e=>absurd e (by decide),fun e=>absurd e (by decide),fun _ h3=>hr h3,fun e=>absurd e (by decide)⟩ (Hp J) (by rw[Qe];have:=j.2;omega);have gc:=C.w _ _ _ _ I.1 R;exact⟨gc.1,by have:=gc.2;have:=I.2;omega⟩
 injection h with h;injection h with e1 e2;subst e1 e2
 exact⟨J,js _⟩
theorem xa {k:Int} {ts:List Tk} (h:ju k ts=true):ts.length=ts.tail+1:=by
 cases ts with
 |nil=>cases h
 |cons t l=>rfl
theorem SM {k:Nat} (htag:∀u∈el,u.tags.l.length<=16) (hel:el.length<=1000) (C:GK el k):∀ts x r,kV el (k+1) ts=some (x,r)->GX el x ts r:=by
 intro ts x r h;have leaf:∀(kd t v:Int) (s:yB) (m:Nat),Qx el kd 0 t v s 0->m+1<=ts->GX el (.mk kd 0 t v s []) ts.length m:=fun kd t v s m hq hm=>vW hq (by rw[tj];trivial) (by rw[ks];omega)
 have R:∀(t v:Int),t<=2000->(3<=t->FV el t v)->∀(s:yB),Qx el 1 0 t v s 0:=fun t v ht hr s=>⟨ht,fun _=>hr,fun e=>absurd e iI,fun e=>absurd e iI,fun e=>absurd e iI⟩
 rw[kV]at h;by_cases j:rI ts=true
 ·rw[iG j]at h
  have hn:=j;unfold rI at hn;rw[mT]at hn;have l1:=lT hn.1;have l2:=xa hn.2;injection h with h;injection h with e1 e2;subst e1 e2
  exact leaf 1 2 _ _ _ (R 2 _ iI (fun J=>absurd J iI) _) iu
 rw[iV j]at h;by_cases j:jq ⟨#[45]⟩ ts=true
 ·rw[iG j]at h
  cases h
 rw[iV j]at h;by_cases j:ju 2 ts=true
 ·rw[iG j]at h
  have I:=j;have l1:=xa I;split at h
  ·cases h
  injection h with h;injection h with e1 e2;subst e1 e2
  exact leaf 1 2 _ _ _ (R 2 _ iI (fun J=>absurd J iI) _) iu
 rw[iV j]at h;by_cases j:ju 5 ts=true
 ·rw[iG j]at h
  have I:=j;have l1:=xa I;injection h with h;injection h with e1 e2;subst e1 e2
  exact leaf 11 0 0 _ _ (xO iI iI iI iI iI) iu
 rw[iV j]at h;by_cases j:jq ⟨#[116,114,117,101]⟩ ts=true
 ·rw[iG j]at h
  have I:=j;have l1:=lT I;injection h with h;injection h with e1 e2;subst e1 e2
  exact leaf 1 1 1 _ _ (R 1 _ iI (fun J=>absurd J iI) _) iu
 rw[iV j]at h;by_cases j:jq ⟨#[102,97,108,115,101]⟩ ts=true
 ·rw[iG j]at h
  have I:=j;have l1:=lT I;injection h with h;injection h with e1 e2;subst e1 e2
  exact leaf 1 1 0 _ _ (R 1 _ iI (fun J=>absurd J iI) _) iu
 rw[iV j]at h;by_cases j:jq ⟨#[40]⟩ ts=true
 ·rw[iG j]at h
  have I:=j;have l1:=lT I;obtain⟨⟨e,r1⟩,h1,o⟩:=mW.1 h;have ge:=C.e _ _ _ h1;dsimp only at o;obtain⟨⟨_,r2⟩,J,h4⟩:=mW.1 o;have l2:=mC J;dsimp only at h4;injection h4 with h4;injection h4 with e1 e2;subst e1 e2
  exact⟨ge.1,by have:=ge.2;omega⟩
 rw[iV j]at h;by_cases j:jq ⟨#[105,102]⟩ ts=true
 ·rw[iG j]at h
  have I:=j;have l1:=lT I;obtain⟨⟨c,r1⟩,h1,o⟩:=mW.1 h;have gc:=C.e _ _ _ h1;dsimp only at o;obtain⟨⟨_,r2⟩,J,h4⟩:=mW.1 o;have l2:=mC J;dsimp only at h4;obtain⟨⟨a,r3⟩,h5,h6⟩:=mW.1 h4;have ga:=C.e _ _ _ h5;dsimp only at h6;obtain⟨⟨_,r4⟩,h7,h8⟩:=mW.1 h6;have l4:=mC h7;dsimp only at h8;obtain⟨⟨b,r5⟩,h9,U⟩:=mW.1 h8;have gb:=C.e _ _ _ h9;dsimp only at U;injection U with U;injection U with e1 e2;subst e1 e2
  exact vW (xO (by decide) (by decide) (by decide) (by decide) (by decide)) (S_ gc.1 ga.1 gb.1) (by rw[TA];have:=gc.2;have:=ga.2;have:=gb.2;omega)
 rw[iV j]at h;by_cases j:jq ⟨#[109,101,114,103,101]⟩ ts=true
 ·rw[iG j]at h
  have I:=j;have l1:=lT I;have gm:=C.m _ _ _ h;exact⟨gm.1,by have:=gm.2;omega⟩
 rw[iV j]at h;obtain⟨⟨s,r1⟩,h1,o⟩:=mW.1 h;have l1:=mm h1;dsimp only at o;split at o
 ·rename_i I
  have l2:=lT I;have gc:=C.c _ _ _ _ o;exact⟨gc.1,by have:=gc.2;omega⟩
 split at o
 ·rename_i t v ht
  injection o with o;injection o with e1 e2;subst e1 e2
  have hs:=Eh htag ht;exact leaf 1 t v _ _ (R t v (by omega) (fun _=>⟨s,ht⟩) _) (by omega)
 rename_i ht
 injection o with o;injection o with e1 e2;subst e1 e2
 exact leaf 2 0 0 _ _ ⟨iI,fun e=>absurd e iI,fun _=>ht,fun e=>absurd e iI,fun e=>absurd e iI⟩ iu
theorem Tj {k:Nat} (C:GK el k):∀s l ts x r,tj el l->oR el (k+1) s l ts=some (x,r)->GX el x (1+ks l+ts) r.length:=by
 intro s l ts x r o h;rw[oR]at h;split at h
 ·rename_i hk
  have R:=lT hk;obtain⟨⟨e,J⟩,I,j⟩:=mW.1 h;have ge:=C.p _ _ _ I;dsimp only at j;injection j with j;injection j with e1 e2;subst e1 e2
  exact vW (xO (by decide) (by decide) (by decide) (by decide) (by decide)) (tH.2 ⟨o,Hp ge.1⟩) (by rw[qI,Qe];have:=ge.2;omega)
 injection h with h;injection h with e1 e2;subst e1 e2
 exact vW (xO iI iI iI iI iI) o (js _)
theorem S7 {k:Nat} (C:GK el k):∀l ts l' r,tj el l->rF el (k+1) l ts=some (l',r)->tj el l'/\ks l'+r.length<=ks l+ts:=by
 intro l ts l' r j h;rw[rF]at h;split at h
 ·rename_i hk
  have l1:=lT hk;obtain⟨⟨e,U⟩,R,o⟩:=mW.1 h;have ge:=C.e _ _ _ R;dsimp only at o;have I:=C.a _ _ _ _ (tH.2 ⟨j,Hp ge.1⟩) o;exact⟨I.1,by have J:=I.2;rw[qI,Qe]at J;have:=ge.2;omega⟩
 injection h with h;injection h with e1 e2;subst e1 e2
 exact⟨j,js _⟩
theorem SO {k:Nat} (C:GK el k):∀s ts x r,sU el (k+1) s ts=some (x,r)->GX el x ts r:=by
 intro s ts x r h;rw[sU]at h;split at h
 ·rename_i hk
  have l1:=lT hk;have j:=C.v _ _ _ _ _ (by rw[tj];trivial) h;exact⟨j.1,by have o:=j.2;rw[ks]at o;omega⟩
 obtain⟨⟨e,r1⟩,h1,R⟩:=mW.1 h;have ge:=C.e _ _ _ h1;dsimp only at R;obtain⟨⟨l,r2⟩,o,J⟩:=mW.1 R;have U:=C.a _ _ _ _ (Hp ge.1) o;dsimp only at J;obtain⟨⟨_,r3⟩,h5,I⟩:=mW.1 J;have l3:=mC h5;dsimp only at I;have j:=C.v _ _ _ _ _ U.1 I;exact⟨j.1,by have h7:=j.2;have h8:=U.2;rw[Qe]at h8;have:=ge.2;omega⟩
theorem MO {t v:Int} {ts r:List Tk} {tv:Int×Int} (hw:lk el t v true ts=true) (ha:l_ el ts=some (tv,r)) (h3:3<=t):FV el t v:=by
 unfold lk at hw;split at hw
 ·rename_i hc
  exfalso;have:(t==1)=false:=by rw[beq_eq_false_iff_ne];omega
  rw[this]at hw;simp at hw
 rw[mT]at hw;obtain⟨o,j⟩:=hw;cases htg:qh el (Cb ts) with
 |none=>rw[htg]at j;simp at j
 |some p=>
 obtain⟨u,x⟩:=p;rw[htg]at j;simp at j;exact⟨Cb ts,by rw[htg,j.1,j.2]⟩
theorem Jz {ts r:List Tk} {t v:Int} (hw:lk el 0 (if jq ⟨#[116,114,117,101]⟩ ts then 1 else 0) false ts=true) (ha:l_ el ts=some ((t,v),r)) (h3:3<=t):FV el t 0:=by
 unfold lk at hw;split at hw
 ·rename_i j
  exfalso;unfold l_ at ha;rw[uG]at j;rcases j with j | j
  ·rw[iG j]at ha
   injection ha with ha;injection ha with ha _;injection ha with ha _;omega
  by_cases R:jq ⟨#[116,114,117,101]⟩ ts=true
  ·rw[iG R]at ha
   injection ha with ha;injection ha with ha _;injection ha with ha _;omega
  rw[iV R,iG j]at ha;injection ha with ha;injection ha with ha _;injection ha with ha _;omega
 rename_i j
 rw[mT]at hw;obtain⟨U,I⟩:=hw;rw[uG,not_or]at j;unfold l_ at ha;rw[iV j.1,iV j.2]at ha;cases ts with
 |nil=>cases ha
 |cons a l=>
 have J:pV (a::l)=some (a.text,l):=by
  show (if a.kind==1 then _ else _)=_
  rw[show (a.kind==1)=true from U];rfl
 rw[J]at ha;dsimp only at ha;cases htg:qh el a.text with
 |none=>rw[htg]at ha;cases ha
 |some p=>
 obtain⟨u,x⟩:=p;rw[htg]at ha;have o:Cb (a::l)=a.text:=rfl;rw[o,htg]at I;simp at I;injection ha with ha;injection ha with ha _;injection ha with e1 e2
 subst e1;exact⟨a.text,by rw[htg,I]⟩
theorem Tb {k:Nat} (htag:∀u∈el,u.tags.l.length<=16) (hel:el.length<=1000) (C:GK el k):∀ts x r,tI el (k+1) ts=some (x,r)->GX el x ts r:=by
 intro ts x r h;rw[tI]at h;obtain⟨⟨s,r1⟩,h1,h2⟩:=mW.1 h;have l1:=mm h1;dsimp only at h2;obtain⟨⟨_,r2⟩,h3,o⟩:=mW.1 h2;have l2:=mC h3;dsimp only at o;by_cases R:lk el 0 (if jq ⟨#[116,114,117,101]⟩ r2 then 1 else 0) false r2=true
 ·rw[iG R]at o
  obtain⟨⟨⟨t,v⟩,r3⟩,U,h6⟩:=mW.1 o;have l3:=rW U;have hs:=vu htag U;dsimp only at h6;obtain⟨⟨_,r4⟩,h7,h8⟩:=mW.1 h6;have l4:=mC h7;dsimp only at h8;obtain⟨⟨e,r5⟩,h9,J⟩:=mW.1 h8;have ge:=C.e _ _ _ h9;dsimp only at J;obtain⟨⟨_,r6⟩,a6,I⟩:=mW.1 J;have l6:=mC a6;dsimp only at I;have gb:=C.b _ _ _ _ _ _ _ (Hp ge.1) (by omega) (fun h3 j hj=>by
   have:j=0:=by simp at hj;exact hj
   subst this;exact Jz R U h3) hs.2.2.1 I
  exact⟨gb.1,by have a1:=gb.2;rw[Qe]at a1;have:=ge.2;omega⟩
 rw[iV R]at o;cases o
theorem Tc {k:Nat} (C:GK el k):∀s t n l ts x r,tj el l->t<=2000->(3<=t->∀j:Nat,j<l.length->FV el t j)->l.length<=n->we el (k+1) s t n l ts=some (x,r)->GX el x (1+ks l+ts) r.length:=by
 intro s t n l ts x r hl ht hr hn h;rw[we]at h;split at h
 ·rename_i hlt
  obtain⟨⟨_,r2⟩,o,J⟩:=mW.1 h;have l2:=mC o;dsimp only at J;by_cases hw:lk el t (if t=1 then 1-(l:Int) else l.length) true r2=true
  ·rw[iG hw]at J
   obtain⟨⟨tv,r3⟩,h5,h6⟩:=mW.1 J;have l3:=rW h5;dsimp only at h6;split at h6
   ·obtain⟨⟨_,r4⟩,h7,h8⟩:=mW.1 h6
    have l4:=mC h7;dsimp only at h8;obtain⟨⟨e,r5⟩,h9,U⟩:=mW.1 h8;have ge:=C.e _ _ _ h9;dsimp only at U;obtain⟨⟨_,r6⟩,a6,R⟩:=mW.1 U;have l6:=mC a6;dsimp only at R;have gb:=C.b _ _ _ _ _ _ _ (tH.2 ⟨hl,Hp ge.1⟩) ht (fun o j hj=>by
     rw[mo]at hj;simp at hj;rcases qa j l with I | I
     ·exact hr o j I
     have:j=l:=by omega
     subst this;rw[iV (show ¬t=1 by omega)]at hw;exact MO hw h5 o) (by rw[mo];simp;omega) R
    exact⟨gb.1,by have a1:=gb.2;rw[qI,Qe]at a1;have:=ge.2;omega⟩
   cases h6
  rw[iV hw]at J;cases J
 rename_i hge
 injection h with h;injection h with e1 e2;subst e1 e2
 by_cases h1:t=1
 ·rw[iG h1]
  exact vW ⟨ht,fun e=>absurd e iI,fun e=>absurd e iI,fun e=>absurd e iI,fun _ o=>absurd o iu⟩ (AT hl) (by rw[vJ];exact js _)
 rw[iV h1];exact vW ⟨ht,fun e=>absurd e iI,fun e=>absurd e iI,fun e=>absurd e iI,fun _ o=>hr o⟩ hl (js _)
theorem NF (htag:∀u∈el,u.tags.l.length<=16) (hel:el.length<=1000):∀k,GK el k
 |0=>OH
 |k+1=>have C:=NF htag hel k;⟨SW C,S8 C,RH C,Tg C,SV htag hel C,SM htag hel C,SO C,S7 C,Tj C,Tb htag hel C,Tc C⟩
theorem uN (htag:∀u∈el,u.tags.l.length<=16) (hel:el.length<=1000) {k:Nat} {ts r:List Tk} {x:Ex} (h:jg el k ts=some (x,r)):AX el x/\mK x+r.length<=ts:=(NF htag hel k).e _ _ _ h
end
def NG (el:List iW) (k o t v:Int) (s:yB) (n:Nat):Prop:=
 n<=64/\(
 (k=1/\o=0/\n=0/\s=⟨#[]⟩/\qS el t/\nq el t v=true) \/
 (k=2/\o=0/\t=0/\v=0/\n=0/\kT s=true) \/
 (k=3/\((1<=o/\o<=2/\n=1)\/(3<=o/\o<=16/\n=2))/\t=0/\v=0/\s=⟨#[]⟩) \/
 (((k=4/\n=3)\/(k=5/\n=1)\/(k=6/\n=2)\/(k=7/\n=2))/\o=0/\t=0/\v=0/\s=⟨#[]⟩) \/
 (k=8/\o=0/\n=1/\t≠2/\qS el t/\nq el t v=true/\kT s=true) \/
 (k=9/\o=0/\v=0/\t≠2/\qS el t/\n=jV el t/\1<=n/\kT s=true) \/
 (k=10/\o=0/\t=0/\(v=0\/(v=1/\1<=n))/\kT s=true) \/
 (k=11/\o=0/\t=0/\v=0/\n=0/\(pb s.data.toList).2=0))
mutual
def GE (el:List iW):Ex->Prop
 |.mk k o t v s xs=>NG el k o t v s xs/\IE el xs
def IE (el:List iW):List Ex->Prop
 |[]=>True
 |x::xs=>GE el x/\IE el xs
end
theorem IE.get {el:List iW}:∀{xs:List Ex},IE el xs->∀{i:Nat} {x:Ex},xs[i]?=some x->GE el x
 |[],_,i,x,h=>by simp at h
 |y::ys,hg,0,x,h=>by rw[IE]at hg;simp at h;subst h;exact hg.1
 |y::ys,hg,i+1,x,h=>by rw[IE]at hg;exact IE.get hg.2 (by simpa using h)
theorem F':∀{xs:List Ex} {i:Nat} {x:Ex},xs[i]?=some x->mK x<=ks xs
 |[],i,x,h=>by simp at h
 |y::ys,0,x,h=>by simp at h;subst h;rw[ks];omega
 |y::ys,i+1,x,h=>by rw[ks];have:=F' (xs:=ys) (i:=i) (x:=x) (by simpa using h);omega
theorem yX {el:List iW} {t:Int} (h:jV el t≠0):qS el t:=by
 unfold jV at h;unfold qS;by_cases J:t=1
 ·exact .inl J
 by_cases I:t=2
 ·exact .inr (.inl I)
 rw[iV J,iV I]at h;by_cases j:3<=t
 ·rw[iG j]at h
  refine .inr (.inr ⟨j,?_⟩);rcases qa (t-3).toNat el.length with o | o
  ·omega
  rw[LH o]at h;exact absurd rfl h
 rw[iV j]at h;exact absurd rfl h
theorem AW {s:yB} (h:(pb s.data.toList).2=0):s.size<=66:=by
 have o:=jr s;rcases qa 66 s.size with j | j
 ·rw[wU (by omega)]at h;simp at h
 exact j
theorem jM {s:yB} (h:kT s=true):0<s.size/\s.size<=40:=by
 unfold kT at h;simp only[mT,decide_eq_true_eq]at h;exact⟨h.1.1.1.1,h.1.1.1.2⟩
theorem qL {s:yB} (h:s.toList.isEmpty=true):s=⟨#[]⟩:=by
 rw[nC]at h;exact Ig (List.isEmpty_iff.1 h)
theorem RS {el:List iW} {k o t v:Int} {s:yB} {n:Nat} (h1:Ay k o t v s n=0) (h2:Dl el k t v n=0):NG el k o t v s n:=by
 unfold Ay at h1;by_cases hn:64<n
 ·rw[iG hn]at h1;omega
 rw[iV hn]at h1;unfold xJ at h1;split at h1
 ·omega
 rename_i hc
 simp only[not_or,not_and,Bool.not_eq_false]at hc;obtain⟨J,j,I,hr⟩:=hc;refine⟨iu,?_⟩;unfold fA at J;unfold fT at j;unfold fO at I hr;unfold fN fW at h1;unfold Dl at h2;by_cases k1:k=1
 ·subst k1
  simp at J I h1 h2;refine .inl ⟨rfl,I,iu,qL (by simpa using h1),?_,?_⟩
  ·exact yX (by intro R;rw[iG R]at h2;omega)
  split at h2
  ·omega
  split at h2
  ·assumption
  omega
 by_cases k2:k=2
 ·subst k2
  simp[mG]at J I h1 j;exact .inr (.inl ⟨rfl,I,j.1,j.2,iu,h1⟩)
 by_cases k3:k=3
 ·subst k3
  simp[mG]at J I h1 j hr;refine .inr (.inr (.inl ⟨rfl,?_,j.1,j.2,qL (by simpa using h1)⟩));unfold kY at J;split at J
  ·left;simp at *;omega
  right;simp at *;omega
 by_cases k4:k=4
 ·subst k4
  simp[mG]at J I h1 j;exact .inr (.inr (.inr (.inl ⟨.inl ⟨rfl,iu⟩,I,j.1,j.2,qL (by simpa using h1)⟩)))
 by_cases k5:k=5
 ·subst k5
  simp[mG]at J I h1 j;exact .inr (.inr (.inr (.inl ⟨.inr (.inl ⟨rfl,iu⟩),I,j.1,j.2,qL (by simpa using h1)⟩)))
 by_cases k6:k=6
 ·subst k6
  simp[mG]at J I h1 j;exact .inr (.inr (.inr (.inl ⟨.inr (.inr (.inl ⟨rfl,iu⟩)),I,j.1,j.2,qL (by simpa using h1)⟩)))
 by_cases k7:k=7
 ·subst k7
  simp[mG]at J I h1 j;exact .inr (.inr (.inr (.inl ⟨.inr (.inr (.inr ⟨rfl,iu⟩)),I,j.1,j.2,qL (by simpa using h1)⟩)))
 by_cases k8:k=8
 ·subst k8
  simp at J I h1 j h2;refine .inr (.inr (.inr (.inr (.inl ⟨rfl,I,iu,j.1,?_,?_,h1⟩))))
  ·exact yX (by intro R;rw[iG R]at h2;omega)
  split at h2
  ·omega
  split at h2
  ·assumption
  omega
 by_cases k9:k=9
 ·subst k9
  simp at J I h1 j h2;by_cases R:jV el t=0
  ·rw[iG R]at h2;omega
  rw[iV R]at h2;by_cases h8:n=jV el t
  ·exact .inr (.inr (.inr (.inr (.inr (.inl ⟨rfl,I,j,J.1,yX R,h8,iu,h1⟩)))))
  rw[iV h8]at h2;omega
 by_cases a1:k=10
 ·subst a1
  simp at J I h1 j;refine .inr (.inr (.inr (.inr (.inr (.inr (.inl ⟨rfl,I,j.1,?_,h1⟩))))));rcases j.2 with h | h
  ·exact .inl h
  exact .inr ⟨h,iu⟩
 by_cases U:k=11
 ·subst U
  simp[mG]at J I h1 j;exact .inr (.inr (.inr (.inr (.inr (.inr (.inr ⟨rfl,I,j.1,j.2,iu,h1⟩))))))
 simp[k1,k2,k3,k4,k5,k6,k7,k8,k9,a1,U]at J
theorem Cs:∀{l:List Tx},kR l=0->∀e∈l,uo e=0
 |[],_,e,h=>by simp at h
 |a::l,h0,e,h=>by
  rw[kR]at h0;by_cases ha:uo a=0
  ·rw[iG ha]at h0
   rcases uW.1 h with rfl | h
   ·exact ha
   exact Cs h0 e h
  rw[iV ha]at h0;exact absurd h0 ha
theorem Cl {el:List iW}:∀{l:List Tx},lv el l=0->∀e∈l,Bl el e=0
 |[],_,e,h=>by simp at h
 |a::l,h0,e,h=>by
  rw[lv]at h0;by_cases ha:Bl el a=0
  ·rw[iG ha]at h0
   rcases uW.1 h with rfl | h
   ·exact ha
   exact Cl h0 e h
  rw[iV ha]at h0;exact absurd h0 ha
mutual
theorem KQ {el:List iW}:∀x:Tx,(∀e∈x.list,uo e=0/\Bl el e=0)->GE el x.er
 |.mk k o t v s A c xs,h=>by
  rw[Tx.er,GE,nM];have h0:=h (.mk k o t v s A c xs) (by rw[Tx.list];exact nG);exact⟨RS h0.1 h0.2,Ij xs fun e he=>h e (by rw[Tx.list];exact qj _ he)⟩
theorem Ij {el:List iW}:∀xs:List Tx,(∀e∈Tx.lists xs,uo e=0/\Bl el e=0)->IE el (Tx.kv xs)
 |[],h=>by rw[Tx.kv,IE];trivial
 |x::xs,h=>by
  rw[Tx.kv,IE];exact⟨KQ x fun e he=>h e (by rw[Tx.lists];exact List.mem_append_left _ he),Ij xs fun e he=>h e (by rw[Tx.lists];exact List.mem_append_right _ he)⟩
end
theorem Pt {el:List iW} {x:Tx} (h:qk el x=0):vj x=0/\lv el x.list=0:=by
 unfold qk at h;by_cases j:vj x=0
 ·rw[iG j]at h;exact⟨j,h⟩
 rw[iV j]at h;exact absurd h j
theorem Ki {el:List iW} {x:Tx} (h:qk el x=0):GE el x.er/\x.size<=400:=by
 obtain⟨j,I⟩:=Pt h;unfold vj at j;split at j
 ·omega
 rename_i h9
 exact⟨KQ x fun e o=>⟨Cs j e o,Cl I e o⟩,iu⟩
def mL (el:List iW):Prop:=∀u∈el,∀g∈u.tags.l,g.size<=40
theorem KI {n:Nat} (h:n<=99999):(xF n).size<=20:=by
 have j:=jr (xF n);rw[qV,Lib.decDigits_length]at j;have o:=Lib.nDigits_le20 n iu;omega
theorem xw {el:List iW} (hT:mL el) {t v:Int} (hv:nq el t v=true):(iY (wm el t v)).length<=40:=by
 unfold wm;by_cases o:t=1
 ·rw[iG o]
  split
  ·rw[kH,ja];decide
  rw[kH,ja];decide
 rw[iV o];by_cases j:t=2
 ·unfold nq at hv
  rw[iG j]at hv;simp only[mT,decide_eq_true_eq]at hv;rw[iG j];split
  ·have:=KI (n:=v.natAbs) iu
   have J:=jr (xF v.natAbs);rw[jl,Cm,ja];simp;omega
  have:=KI (n:=v.toNat) iu;rw[Cm,ja];simp;omega
 rw[iV j];cases hu:el[(t-3).toNat]? with
 |none=>simp[ja]
 |some u=>
 have I:=om hu;show (iY [rM (u.tags.l.getD v.toNat ⟨#[]⟩)]).length<=40
 rw[lQ,ja,oV];rw[jr];rw[wC];cases hg:u.tags.l[v.toNat]? with
 |none=>decide
 |some g=>exact hT u I g (om hg)
def mM:List Ar->Nat
 |[]=>0
 |a::l=>(iY a.l).length+50+mM l
theorem AG:∀{L:List Ar} {i:Nat},i<L->(iY (pF L i).l).length+50<=mM L
 |[],i,h=>by simp at h
 |a::l,0,h=>by rw[mM];show (iY a.l).length+50<=_;omega
 |a::l,i+1,h=>by
  rw[mM];have:=AG (L:=l) (i:=i) (by simpa using h);show (iY (pF l i).l).length+50<=_
  omega
theorem vD:∀a b:List Ar,mM (a++b)=mM a+mM b
 |[],b=>by simp[mM]
 |x::a,b=>by rw[lP,mM,mM,vD a b];omega
theorem xN:∀l:List Ar,mM l.reverse=mM l
 |[]=>rfl
 |a::l=>by rw[List.reverse_cons,vD,xN l,mM,mM,mM];omega
theorem Ck:∀l:List Ar,(iY (mq qR (l.map Ar.l))).length<=mM l
 |[]=>by rw[tW,mq,ja];simp
 |[a]=>by rw[mJ,tW,mq,mM,mM];omega
 |a::b::l=>by
  have h2:=Ck (b::l);rw[mJ,mJ,mq,iC,iC,<- mJ,mM];have h3:(iY qR).length=2:=iI;simp only[mo];omega
theorem ER {el:List iW} (hT:mL el) {t:Int}:∀(L:List Ar) (i:Nat),(∀j,i<=j->j<i+L.length->nq el t (if t=1 then 1-(j:Int) else j)=true)->(iY (wj el t i L)).length<=mM L
 |[],i,_=>by rw[wj,ja];simp
 |a::L,i,h=>by
  have h1:=xw hT (h i (js _) (by simp));have h2:=ER hT L (i+1) fun j h9 h8=>h j iu (by simp only[py];omega)
  rw[wj,mM,jn,jl,iC,jn,jl,jn,iC,jl];simp only[mo,py,wJ];omega
theorem Cj (L:List Ar) {i:Nat} (h:i<L):(iY (kM (pF L i))).length+48<=mM L:=by
 have o:=AG h;have j:(iY (kM (pF L i))).length<=(iY (pF L i).l).length+2:=by
  unfold kM;split
  ·omega
  rw[jl,iC,jl,ja];simp
 omega
theorem Ad (L:List Ar) (h:L.length=2):mM L=(iY (pF L 0).l).length+50+((iY (pF L 1).l).length+50):=by
 match L,h with
 |[a,b],_=>rfl
theorem Gd (L:List Ar) (h:L.length=3):mM L=(iY (pF L 0).l).length+50+((iY (pF L 1).l).length+50)+((iY (pF L 2).l).length+50):=by
 match L,h with
 |[a,b,c],_=>show _=_;simp only[mM];show _=(iY a.l).length+50+((iY b.l).length+50)+((iY c.l).length+50);omega
theorem Jq (L:List Ar) (h:1<=L.length):mM L=mM (L.take (L-1))+((iY (pF L (L-1)).l).length+50):=by
 have o:=vD (L.take (L-1)) (L.drop (L-1));rw[Gv]at o;rw[o];have j:L.length-1<L:=iu;rw[MG j,List.drop_of_length_le iu,mM,mM];unfold pF;rw[wC,qn j];rfl
theorem tX (a:Ar):(iY (kM a)).length<=(iY a.l).length+2:=by
 unfold kM;split
 ·omega
 rw[jl,iC,jl,ja];simp
theorem OV {c:Prop} [Decidable c] {a b:Pc} (ha:(iY [a]).length<=3) (hb:(iY [b]).length<=3):(iY [if c then a else b]).length<=3:=by split<;>assumption
theorem MK (o:Int):(iY [z_ o]).length<=3:=by
 unfold z_;repeat (refine OV iI ?_)
 decide
theorem uL {el:List iW} {t:Int} {n j:Nat} (h2:t≠2) (hn:n=jV el t) (hj:j<n):nq el t (if t=1 then 1-(j:Int) else j)=true:=by
 unfold nq;rw[iV h2];simp only[mT,decide_eq_true_eq];by_cases o:t=1
 ·rw[iG o]
  have:jV el t=2:=by unfold jV;rw[iG o]
  omega
 rw[iV o];omega
theorem Pl {el:List iW} (hT:mL el) {k o t v:Int} {s:yB} {L:List Ar} (h:NG el k o t v s L):(iY (uF el k o t v s L)).length+50<=200+mM L:=by
 have a1:=jr s;obtain⟨_,⟨rfl,rfl,I,rfl,ht,U⟩ | ⟨rfl,rfl,rfl,rfl,I,J⟩ | ⟨rfl,ho,rfl,rfl,rfl⟩ | ⟨hk,rfl,rfl,rfl,rfl⟩ | ⟨rfl,rfl,I,R,ht,U,J⟩ | ⟨rfl,rfl,rfl,R,ht,I,a6,J⟩ | ⟨rfl,rfl,rfl,U,J⟩ | ⟨rfl,rfl,rfl,rfl,I,J⟩⟩:=h
 ·have:=xw hT U
  show (iY (wm el t v)).length+50<=_
  omega
 ·have:=jM J
  show (iY [rM s]).length+50<=_
  rw[lQ,ja];simp;omega
 ·show (iY (EA o L)).length+50<=_
  rcases ho with⟨h1,h2,I⟩ | ⟨h1,h2,I⟩
  ·have:=Cj L (i:=0) iu
   have h9:=AG (L:=L) (i:=0) iu;unfold EA;by_cases h3:o=1
   ·rw[iG h3,kH,jn];simp;omega
   rw[iV h3,iG (by omega)];split
   ·rw[jl,jl,iC,jl,ja];simp;omega
   rw[jl];simp;omega
  have h8:=Ad L I;have e0:=tX (pF L 0);have e1:=tX (pF L 1);have e2:=MK o;unfold EA;rw[iV (by omega),iV (by omega),iC,jn,show z_ o::.sp 32::kM (pF L 1)=[z_ o]++(.sp 32::kM (pF L 1)) from rfl,iC,jn];simp only[mo,py];omega
 ·rcases hk with⟨rfl,I⟩ | ⟨rfl,I⟩ | ⟨rfl,I⟩ | ⟨rfl,I⟩
  ·have h8:=Gd L I
   unfold uF;simp (config:={ decide:=true }) only[↓reduceIte,iC,kH,jn,jl,ja];simp;omega
  ·have e0:=Cj L (i:=0) (by omega)
   unfold uF;simp (config:={ decide:=true }) only[↓reduceIte,iC,kH,jn,jl,ja];simp;omega
  ·have h8:=Ad L I
   have e0:=tX (pF L 0);have e1:=tX (pF L 1);unfold uF;simp (config:={ decide:=true }) only[↓reduceIte,iC,kH,jn,jl,ja];simp;omega
  have h8:=Ad L I;have e0:=tX (pF L 0);have e1:=tX (pF L 1);unfold uF;simp (config:={ decide:=true }) only[↓reduceIte,iC,kH,jn,jl,ja];simp;omega
 ·have h9:=jM J
  have h8:=xw hT U;have e0:=Cj L (i:=0) (by omega);show (iY (kM (pF L 0)++.sp 32::FX el t v s)).length+50<=_
  unfold FX;rw[iC,jn,kH,jn,iC,jl,lQ,jl,ja];simp;omega
 ·have h9:=jM J
  show (iY (mB [109,101,114,103,101]::.sp 32::rM s::wj el t 0 (if t=1 then L.reverse else L))).length+50<=_
  have hb:(iY (wj el t 0 (if t=1 then L.reverse else L))).length<=mM L:=by
   split
   ·rw[<- xN L]
    exact ER hT _ _ fun j _ h7=>uL R I (by rw[List.length_reverse]at h7;omega)
   exact ER hT _ _ fun j _ h7=>uL R I (by omega)
  rw[kH,jn,lQ];simp;omega
 ·have h9:=jM J
  show (iY (AU v s L)).length+50<=_
  unfold AU;rw[lQ,jl,iC,jl];rcases U with rfl | ⟨rfl,I⟩
  ·have:=Ck L
   rw[iV (by decide),ja,show L.length-(0:Int).toNat=L.length from rfl,pf];simp;omega
  have h7:=Ck (L.take (L-1));have h6:=Jq L I;have e0:=tX (pF L (L-1));rw[iG rfl,jn,kH,jn,show L.length-(1:Int).toNat=L.length-1 from rfl];generalize iY (mq qR (List.map Ar.l (L.take (L.length-1))))=z at h7⊢;simp;omega
 have h9:=AW J;show (iY [So s]).length+50<=_
 rw[NQ,ja];simp;omega
mutual
theorem yU {el:List iW} (hT:mL el):∀x:Ex,GE el x->(iY (kX el x)).length+50<=200*mK x
 |.mk k o t v s xs,h=>by
  rw[GE]at h;rw[kX,mK];have h1:=Pl hT (L:=jy el xs) (by rw[nD];exact h.1);have h2:=Gb hT xs h.2;omega
theorem Gb {el:List iW} (hT:mL el):∀xs:List Ex,IE el xs->mM (jy el xs)<=200*ks xs
 |[],h=>by rw[jy,mM];omega
 |x::xs,h=>by
  rw[IE]at h;have h1:=yU hT x h.1;have h2:=Gb hT xs h.2;rw[jy,mM,ks];show (iY (kX el x)).length+50+mM (jy el xs)<=_
  omega
end
theorem TF (s t:yB) (r:List Tk):jq s (⟨2,t⟩::r)=false:=rfl
theorem TE (s t:yB) (r:List Tk):jq s (⟨5,t⟩::r)=false:=rfl
theorem pd (l:List UInt8) (ps:List Pc):toks (mB l::ps)=⟨3,⟨l.toArray⟩⟩::toks ps:=rfl
theorem lK (l:List UInt8) (ps:List Pc):toks (mf l::ps)=⟨4,⟨l.toArray⟩⟩::toks ps:=rfl
theorem um (s:yB) (ps:List Pc):toks (rM s::ps)=⟨1,s⟩::toks ps:=rfl
theorem jT (c:UInt8) (ps:List Pc):toks (.sp c::ps)=toks ps:=rfl
theorem po:toks []=[]:=rfl
theorem jk (s t:yB) (r:List Tk):jq s (⟨3,t⟩::r)=(t.data.toList==s.data.toList):=by
 show (((3:Int)==3||(3:Int)==4)&&t.toList==s.toList)=_
 rw[nC,nC];rfl
theorem kg (s t:yB) (r:List Tk):jq s (⟨4,t⟩::r)=(t.data.toList==s.data.toList):=by
 show (((4:Int)==3||(4:Int)==4)&&t.toList==s.toList)=_
 rw[nC,nC];rfl
theorem uy (s t:yB) (r:List Tk):jq s (⟨1,t⟩::r)=false:=rfl
theorem QX (s:yB) (t:Tk) (r:List Tk):jq s (t::r)=wg s t:=rfl
theorem QQ (n:Int) (t:Tk) (r:List Tk):Ia n (t::r)=Ia n [t]:=rfl
theorem lJ (l:List UInt8) (r:List Tk):iF [⟨l.toArray⟩] (⟨4,⟨l.toArray⟩⟩::r)=some ((),r):=by
 unfold iF;rw[kg,iG (by simp)];rfl
theorem uk (l:List UInt8) (r:List Tk):iF [⟨l.toArray⟩] (⟨3,⟨l.toArray⟩⟩::r)=some ((),r):=by
 unfold iF;rw[jk,iG (by simp)];rfl
structure tE (r:List Tk):Prop where
 op:∀n:Int,Ia n r=none
 ar:jq ⟨#[45,62]⟩ r=false
 fb:jq ⟨#[102,98,121]⟩ r=false
 wh:jq ⟨#[119,104,101,110]⟩ r=false
 ev:jq ⟨#[101,118,101,114,121]⟩ r=false
 pa:jq ⟨#[40]⟩ r=false
def vF (n:Int) (t:Tk):Bool:=(t.kind==3||t.kind==4)&&Be n t.text
def Qm (t:Tk):Bool:=!vF 0 t&&!vF 1 t&&!vF 3 t&&!vF 4 t&&!vF 5 t&&!wg ⟨#[45,62]⟩ t&&!wg ⟨#[102,98,121]⟩ t&&!wg ⟨#[119,104,101,110]⟩ t&&!wg ⟨#[101,118,101,114,121]⟩ t&&!wg ⟨#[40]⟩ t
theorem N6 {n:Int} (h0:n≠0) (h1:n≠1) (h3:n≠3) (h4:n≠4):B9 n=B9 5:=by
 unfold B9;rw[iV h0,iV h1,iV h3,iV h4];rfl
theorem EB {n:Int} (h0:n≠0) (h1:n≠1) (h3:n≠3) (h4:n≠4) (s:yB):Be n s=Be 5 s:=by
 unfold Be;rw[N6 h0 h1 h3 h4]
theorem u_ {n:Int} {t:Tk} (h:vF n t=false) (r:List Tk):Ia n (t::r)=none:=by
 unfold vF at h;show (if (t.kind==3||t.kind==4)&&Be n t.text then _ else none)=none
 rw[h];rfl
theorem ET {t:Tk} (h0:vF 0 t=false) (h1:vF 1 t=false) (h3:vF 3 t=false) (h4:vF 4 t=false) (h5:vF 5 t=false) (r:List Tk) (n:Int):Ia n (t::r)=none:=by
 by_cases J:n=0
 ·rw[J];exact u_ h0 r
 by_cases I:n=1
 ·rw[I];exact u_ h1 r
 by_cases o:n=3
 ·rw[o];exact u_ h3 r
 by_cases j:n=4
 ·rw[j];exact u_ h4 r
 refine u_ ?_ r;unfold vF at h5⊢;rw[EB J I o j];exact h5
theorem tE.of {t:Tk} (h:Qm t=true) (r:List Tk):tE (t::r):=by
 unfold Qm at h;simp only[mT,IU]at h;obtain⟨⟨⟨⟨⟨⟨⟨⟨⟨h0,h1⟩,h3⟩,h4⟩,U⟩,R⟩,J⟩,I⟩,o⟩,j⟩:=h;exact⟨ET h0 h1 h3 h4 U r,R,J,I,o,j⟩
section
variable {el:List iW}
theorem tJ {K:Nat} {ts r:List Tk} {x:Ex} (hP:∀k,K<=k->kV el k ts=some (x,r)) (h1:jq ⟨#[45]⟩ ts=false) (h2:jq ⟨#[112,114,101]⟩ ts=false) (hw:jq ⟨#[119,104,101,110]⟩ r=false) :
  ∀k,K+2<=k->xu el k ts=some (x,r):=fun k hk=>by
 obtain⟨k,rfl⟩:∃j,k=j+2:=⟨k-2,iu⟩;rw[xu];unfold rI;rw[h1,h2,qu,iV iI,iV iI,iV iI,hP (k+1) iu];show mO el (k+1) x r=_
 rw[mO,hw,iV iI]
theorem Ly {K:Nat} {ts r:List Tk} {x:Ex} (hP:∀k,K<=k->kV el k ts=some (x,r)) (h1:rI ts=true) (hw:jq ⟨#[119,104,101,110]⟩ r=false) :
  ∀k,K+2<=k->xu el k ts=some (x,r):=fun k hk=>by
 obtain⟨k,rfl⟩:∃j,k=j+2:=⟨k-2,iu⟩;rw[xu,h1,iG rfl,hP (k+1) iu];show mO el (k+1) x r=_
 rw[mO,hw,iV iI]
theorem rA {K:Nat} {n:Int} {ts r:List Tk} {x:Ex} (h2:n≠2) (h6:n≠6) (hL:∀k,K<=k->jB el k (n+1) ts=some (x,r)) (ho:Ia n r=none) :
  ∀k,K+2<=k->jB el k n ts=some (x,r):=fun k hk=>by
 obtain⟨k,rfl⟩:∃j,k=j+2:=⟨k-2,iu⟩;rw[jB,iV h2,iV h6,hL (k+1) iu];show sK el (k+1) n x r=_
 rw[sK,ho]
theorem JS {K:Nat} {ts r:List Tk} {x:Ex} (hL:∀k,K<=k->jB el k 3 ts=some (x,r)) (hn:jq ⟨#[110,111,116]⟩ ts=false) :
  ∀k,K+1<=k->jB el k 2 ts=some (x,r):=fun k hk=>by
 obtain⟨k,rfl⟩:∃j,k=j+1:=⟨k-1,iu⟩;rw[jB,iG rfl,hn,iV iI,hL k iu]
theorem Oy {K:Nat} {ts r:List Tk} {x:Ex} (hU:∀k,K<=k->xu el k ts=some (x,r)):∀k,K+1<=k->jB el k 6 ts=some (x,r):=fun k hk=>by
 obtain⟨k,rfl⟩:∃j,k=j+1:=⟨k-1,iu⟩;rw[jB,iV iI,iG rfl,hU k iu]
theorem vb {K:Nat} {n:Int} {ts r:List Tk} {x:Ex} (hU:∀k,K<=k->xu el k ts=some (x,r)) (hn:jq ⟨#[110,111,116]⟩ ts=false) (h0:-1<=n) (h5:n<=5) (ho:∀m:Int,n<m->m<=5->Ia m r=none) :
  ∀k,K+12<=k->jB el k (n+1) ts=some (x,r):=by
 have o:=Oy hU;by_cases e5:n=5
 ·subst e5;exact fun k j=>o k iu
 have I:=rA (n:=5) iI iI o (ho 5 iu iu);by_cases e4:n=4
 ·subst e4;exact fun k j=>I k iu
 have J:=rA (n:=4) iI iI I (ho 4 iu iu);by_cases e3:n=3
 ·subst e3;exact fun k j=>J k iu
 have R:=rA (n:=3) iI iI J (ho 3 iu iu);by_cases e2:n=2
 ·subst e2;exact fun k j=>R k iu
 have U:=JS R hn;by_cases e1:n=1
 ·subst e1;exact fun k j=>U k iu
 have L1:=rA (n:=1) iI iI U (ho 1 iu iu);by_cases e0:n=0
 ·subst e0;exact fun k j=>L1 k iu
 have L0:=rA (n:=0) iI iI L1 (ho 0 iu iu);obtain rfl:n=-1:=iu;exact fun k j=>L0 k iu
theorem Gj {K:Nat} {n:Int} {ts r:List Tk} {x:Ex} (hL:∀k,K<=k->jB el k n ts=some (x,r)) (hn:n<=2\/jq ⟨#[110,111,116]⟩ ts=false) (h0:0<=n) (h5:n<=5) (ho:∀m:Int,Ia m r=none) :
  ∀k,K+10<=k->jB el k 0 ts=some (x,r):=by
 have d0:∀j,(∀k,j<=k->jB el k 1 ts=some (x,r))->∀k,j+2<=k->jB el k 0 ts=some (x,r):=fun j h=>rA (n:=0) iI iI h (ho 0)
 have U:∀j,(∀k,j<=k->jB el k 2 ts=some (x,r))->∀k,j+4<=k->jB el k 0 ts=some (x,r):=fun j h k o=>d0 (j+2) (rA (n:=1) iI iI h (ho 1)) k iu
 rcases (by omega:n=0\/n=1\/n=2\/n=3\/n=4\/n=5) with rfl | rfl | rfl | rfl | rfl | rfl
 ·exact fun k o=>hL k iu
 ·exact fun k o=>d0 K hL k iu
 ·exact fun k o=>U K hL k iu
 all_goals
  have I:jq ⟨#[110,111,116]⟩ ts=false:=by
   rcases hn with h | h
   ·omega
   exact h
  have R:∀j,(∀k,j<=k->jB el k 3 ts=some (x,r))->∀k,j+5<=k->jB el k 0 ts=some (x,r):=fun j h k o=>U (j+1) (JS h I) k iu
  have J:∀j,(∀k,j<=k->jB el k 4 ts=some (x,r))->∀k,j+7<=k->jB el k 0 ts=some (x,r):=fun j h k o=>R (j+2) (rA (n:=3) iI iI h (ho 3)) k iu
  have d4:∀j,(∀k,j<=k->jB el k 5 ts=some (x,r))->∀k,j+9<=k->jB el k 0 ts=some (x,r):=fun j h k o=>J (j+2) (rA (n:=4) iI iI h (ho 4)) k iu
  first
  |exact fun k o=>R K hL k iu
  |exact fun k o=>J K hL k iu
  |exact fun k o=>d4 K hL k iu
theorem wX {K:Nat} {ts r:List Tk} {x:Ex} (hL:∀k,K<=k->jB el k 0 ts=some (x,r)) (hr:tE r):∀k,K+1<=k->jg el k ts=some (x,r):=fun k hk=>by
 obtain⟨k,rfl⟩:∃j,k=j+1:=⟨k-1,iu⟩;rw[jg,hL k iu];show (if jq ⟨#[45,62]⟩ r then _ else if jq ⟨#[102,98,121]⟩ r then _ else some (x,r))=_
 rw[hr.ar,hr.fb,iV iI,iV iI]
theorem ov {K:Nat} {ts r:List Tk} {x:Ex} (hU:∀k,K<=k->xu el k ts=some (x,r)) (hn:jq ⟨#[110,111,116]⟩ ts=false) (hr:tE r):∀k,K+13<=k->jg el k ts=some (x,r):=fun k hk=>
 wX (vb (n:=-1) hU hn iI iI fun m _ _=>hr.op m) hr k iu
def Ju (o:Int):Int:=if o=4\/o=5 then 0 else if o=3 then 1 else if 11<=o then 3 else if o<=7 then 4 else 5
def uZ (o:Int):Tk:=match z_ o with
 |.tk t=>t
 |.sp _=>⟨0,⟨#[]⟩⟩
theorem ye (o:Int) (h3:3<=o) (h16:o<=16):z_ o=.tk (uZ o)/\0<=Ju o/\Ju o<=5/\Ju o≠2/\Ia (Ju o) [uZ o]=some o/\jq ⟨#[119,104,101,110]⟩ [uZ o]=false/\jq ⟨#[101,118,101,114,121]⟩ [uZ o]=false/\jq ⟨#[40]⟩ [uZ o]=false:=by
 rcases (by omega:o=3\/o=4\/o=5\/o=6\/o=7\/o=8\/o=9\/o=10\/o=11\/o=12\/o=13\/o=14\/o=15\/o=16) with h | h | h | h | h | h | h | h | h | h | h | h | h | h<;>(subst h;refine⟨rfl,iI,iI,iI,by decide +kernel,by decide +kernel,by decide +kernel,by decide +kernel⟩)
def Tu (o:Int):Bool:=(!(decide (Ju o<1))||!vF 1 (uZ o))&&(!(decide (Ju o<3))||!vF 3 (uZ o))&&(!(decide (Ju o<4))||!vF 4 (uZ o))&&(!(decide (Ju o<5))||!vF 5 (uZ o))
theorem OJ (o:Int) (h3:3<=o) (h16:o<=16):Tu o=true:=by
 rcases (by omega:o=3\/o=4\/o=5\/o=6\/o=7\/o=8\/o=9\/o=10\/o=11\/o=12\/o=13\/o=14\/o=15\/o=16) with h | h | h | h | h | h | h | h | h | h | h | h | h | h<;>(subst h;decide +kernel)
theorem Qw (o:Int) (h3:3<=o) (h16:o<=16) (m:Int) (h1:Ju o<m) (h5:m<=5) (r:List Tk):Ia m (uZ o::r)=none:=by
 have h:=OJ o h3 h16;have U:=(ye o h3 h16).2.1;unfold Tu at h;simp only[mT,uG,IU,decide_eq_false_iff_not]at h;obtain⟨⟨⟨R,J⟩,I⟩,j⟩:=h;refine u_ ?_ r;rcases (by omega:m=1\/m=2\/m=3\/m=4\/m=5) with rfl | rfl | rfl | rfl | rfl
 ·exact R.resolve_left iu
 ·have:vF 5 (uZ o)=false:=j.resolve_left iu
  unfold vF at this⊢;rw[EB iI iI iI iI];exact this
 ·exact J.resolve_left iu
 ·exact I.resolve_left iu
 exact j.resolve_left iu
theorem MI {K:Nat} {ta tb r:List Tk} {a b:Ex} {o:Int} (h3:3<=o) (h16:o<=16) (ha:∀k,K<=k->xu el k (ta++uZ o::(tb++r))=some (a,uZ o::(tb++r))) (hb:∀k,K<=k->xu el k (tb++r)=some (b,r))
  (hna:jq ⟨#[110,111,116]⟩ (ta++uZ o::(tb++r))=false) (hnb:jq ⟨#[110,111,116]⟩ (tb++r)=false) (hr:tE r) :
  ∀k,K+28<=k->jg el k (ta++uZ o::(tb++r))=some (.mk 3 o 0 0 ⟨#[]⟩ [a,b],r):=by
 obtain⟨-,h0,I,h2,J,-,-,-⟩:=ye o h3 h16;have U:=vb (n:=Ju o) ha hna iu I (fun m h1 I=>Qw o h3 h16 m h1 I _);have R:=vb (n:=Ju o) hb hnb iu I (fun m _ _=>hr.op m);have hL:∀k,K+15<=k->jB el k (Ju o) (ta++uZ o::(tb++r))=some (.mk 3 o 0 0 ⟨#[]⟩ [a,b],r):=fun k hk=>by
  obtain⟨k,rfl⟩:∃j,k=j+3:=⟨k-3,iu⟩;rw[jB,iV h2,iV iu,U (k+2) iu];show sK el (k+2) (Ju o) a (uZ o::(tb++r))=_
  rw[sK,QQ,J];show (jB el (k+1) (Ju o+1) (tb++r)).bind _=_
  rw[R (k+1) iu];show (if Ju o=3 then _ else _)=_
  split
  ·rfl
  rw[sK,hr.op]
 exact fun k hk=>wX (Gj hL (.inr hna) h0 I hr.op) hr k iu
end
structure x_ (el el':List iW):Prop where
 tag:∀s,qh el' s=qh el s
 sz:∀t,jV el' t=jV el t
theorem MQ (x:yB):∀(zs:List yB) (i:Nat),0<=Lib.idxFromS zs x i->∃j:Nat,Lib.idxFromS zs x i=((i+j:Nat):Int)/\zs[j]?=some x
 |[],i,h=>by simp[Lib.idxFromS]at h
 |z::zs,i,h=>by
  unfold Lib.idxFromS at h⊢;by_cases hz:z=x
  ·rw[iG hz];exact⟨0,by simp,by simp[hz]⟩
  rw[iV hz]at h⊢;obtain⟨j,h1,h2⟩:=MQ x zs (i+1) h;exact⟨j+1,by rw[h1];congr 1;omega,by simpa using h2⟩
theorem Kv {s:yB}:∀{el:List iW} {j:Nat} {t v:Int},AB s el j=some (t,v)->∃(i:Nat) (u:iW) (m:Nat),el[i]?=some u/\t=3+((j+i:Nat):Int)/\v=(m:Int)/\u.tags.l[m]?=some s
 |[],j,t,v,h=>by cases h
 |u::l,j,t,v,h=>by
  unfold AB at h;by_cases hu:0<=Lib.idxOfS u.tags.l s
  ·rw[iG hu]at h
   injection h with h
   injection h with h1 h2
   obtain⟨m,h3,h4⟩:=MQ s u.tags.l 0 hu;refine⟨0,u,m,rfl,by rw[<- h1];rfl,?_,h4⟩;rw[<- h2];show Lib.idxFromS u.tags.l s 0=_
   rw[h3,t_]
  rw[iV hu]at h;obtain⟨i,u',m,h1,h2,h3,h4⟩:=Kv h;exact⟨i+1,u',m,by simpa using h1,by rw[h2];congr 2;omega,h3,h4⟩
theorem MR {el:List iW} {t v:Int} (h:FV el t v):∃s,wm el t v=[rM s]/\qh el s=some (t,v):=by
 obtain⟨s,j⟩:=h;obtain⟨i,u,m,I,R,J,o⟩:=Kv j;refine⟨s,?_,j⟩;unfold wm;rw[iV iu,iV iu,show (t-3).toNat=i by omega,I];show [rM (u.tags.l.getD v.toNat ⟨#[]⟩)]=[rM s]
 rw[wC,show v.toNat=m by omega,o];rfl
section
variable {el el':List iW}
theorem JR {v:Int} (hv:nq el 1 v=true):(v=1/\wm el 1 v=[mB [116,114,117,101]])\/(v=0/\wm el 1 v=[mB [102,97,108,115,101]]):=by
 unfold nq at hv;rw[iV iI]at hv;simp only[mT,decide_eq_true_eq]at hv;have:jV el 1=2:=rfl;rw[this]at hv;rcases (by omega:v=1\/v=0) with rfl | rfl
 ·exact .inl ⟨rfl,rfl⟩
 exact .inr ⟨rfl,rfl⟩
theorem Bt (hA:x_ el el') {t v:Int} (h2:t≠2) (ht:qS el t) (hv:nq el t v=true) (hr:3<=t->FV el t v) :
  ∃tk,toks (wm el t v)=[tk]/\(∀r,l_ el' (tk::r)=some ((t,v),r))/\(∀r,lk el' t v true (tk::r)=true)/\((t=1->v=1)->(3<=t->v=0)->∀r,lk el' 0 (if jq ⟨#[116,114,117,101]⟩ (tk::r) then 1 else 0) false (tk::r)=true):=by
 by_cases I:t=1
 ·subst I
  rcases JR hv with⟨rfl,hp⟩ | ⟨rfl,hp⟩
  ·rw[hp]
   refine⟨⟨3,⟨#[116,114,117,101]⟩⟩,rfl,fun r=>?_,fun r=>?_,fun _ _ r=>?_⟩
   ·unfold l_;rw[jk,iG iI];rfl
   ·unfold lk;simp[jk]
   unfold lk;simp[jk]
  rw[hp];refine⟨⟨3,⟨#[102,97,108,115,101]⟩⟩,rfl,fun r=>?_,fun r=>?_,fun h _ r=>?_⟩
  ·unfold l_;rw[jk,iV iI,jk,iG iI];rfl
  ·unfold lk;simp[jk]
  exact absurd (h rfl) iI
 have o:3<=t:=by
  rcases ht with h | h | h
  ·exact absurd h I
  ·exact absurd h h2
  exact h.1
 obtain⟨s,hp,j⟩:=MR (hr o);rw[hp];refine⟨⟨1,s⟩,rfl,fun r=>?_,fun r=>?_,fun _ h r=>?_⟩
 ·unfold l_
  rw[uy,uy,iV iI,iV iI];show (match qh el' s with | none=>none | some tv=>some (tv,r))=_
  rw[hA.tag,j]
 ·unfold lk
  rw[uy,uy];show (true&&(match qh el' s with | some (u,x)=>!((true&&(!(u==t)||!(x==v)))||(!true&&!(x==0))) | none=>!true))=true
  rw[hA.tag,j];simp
 have J:=h o;unfold lk;rw[uy,uy];show (true&&(match qh el' s with | some (u,x)=>!((false&&(!(u==0)||!(x==_)))||(!false&&!(x==0))) | none=>!false))=true
 rw[hA.tag,j,J];simp
theorem FO (k:Nat) (s:yB) (r:List Tk):kV el' (k+1) (⟨1,s⟩::r)=if jq ⟨#[40]⟩ r then sU el' k s r.tail else match qh el' s with
   |some (t,v)=>some (.mk 1 0 t v ⟨#[]⟩ [],r)
   |none=>some (.mk 2 0 0 0 s [],r):=by
 rw[kV];unfold rI;simp only[uy,qu,ju,pV];rfl
theorem OI (k:Nat) (s:yB) (r:List Tk):kV el' (k+1) (⟨5,s⟩::r)=some (.mk 11 0 0 0 s [],r):=by
 rw[kV];unfold rI;simp only[TE,qu,ju];rfl
theorem Pa (k:Nat) (n:Nat) (hn:n<=32767) (r:List Tk):kV el' (k+1) (⟨2,xF n⟩::r)=some (.mk 1 0 2 n ⟨#[]⟩ [],r):=by
 rw[kV];unfold rI;simp only[TF,qu,ju,Cb,Hm (show n<=32768 by omega)];rw[iV iI,iV iI,iG iI,iV iu];rfl
theorem MC (n:Nat) (r:List Tk):rI (⟨4,⟨#[45]⟩⟩::⟨2,xF n⟩::r)=true:=by
 unfold rI;rw[kg];rfl
theorem PK (k:Nat) (n:Nat) (hn:n<=32768) (r:List Tk):kV el' (k+1) (⟨4,⟨#[45]⟩⟩::⟨2,xF n⟩::r)=some (.mk 1 0 2 (-(n:Int)) ⟨#[]⟩ [],r):=by
 rw[kV,MC,iG rfl];show some (Ex.mk 1 0 2 (-(rY (xF n))) ⟨#[]⟩ [],r)=_
 rw[Hm hn]
theorem zN (t:Tk) (r:List Tk) (h:wg ⟨#[45]⟩ t=false):rI (t::r)=false:=by unfold rI;rw[QX,h];rfl
theorem LV (k:Nat) (r:List Tk):kV el' (k+1) (⟨3,⟨#[116,114,117,101]⟩⟩::r)=some (.mk 1 0 1 1 ⟨#[]⟩ [],r):=by
 rw[kV];simp[rI,jk,ju]
theorem Jr (k:Nat) (r:List Tk):kV el' (k+1) (⟨3,⟨#[102,97,108,115,101]⟩⟩::r)=some (.mk 1 0 1 0 ⟨#[]⟩ [],r):=by
 rw[kV];simp[rI,jk,ju]
theorem Ht {K:Nat} {ts r:List Tk} {x:Ex} (hE:∀k,K<=k->jg el' k (ts++⟨4,⟨#[41]⟩⟩::r)=some (x,⟨4,⟨#[41]⟩⟩::r)):∀k,K+1<=k->kV el' k (⟨4,⟨#[40]⟩⟩::(ts++⟨4,⟨#[41]⟩⟩::r))=some (x,r):=fun k hk=>by
 obtain⟨k,rfl⟩:∃j,k=j+1:=⟨k-1,iu⟩;rw[kV,zN _ _ ((kg ⟨#[45]⟩ ⟨#[40]⟩ []).trans rfl)];simp only[kg,ju,ry];rw[iV iI,iV iI,iV iI,iV iI,iV iI,iV iI,iG iI,hE k iu];show (iF [⟨#[41]⟩] (⟨4,⟨#[41]⟩⟩::r)).bind _=_
 rw[lJ [41] r];rfl
theorem Ox {K:Nat} {ta tb tc r:List Tk} {a b c:Ex} (ha:∀k,K<=k->jg el' k (ta++⟨3,⟨#[116,104,101,110]⟩⟩::(tb++⟨3,⟨#[101,108,115,101]⟩⟩::(tc++r)))=some (a,⟨3,⟨#[116,104,101,110]⟩⟩::(tb++⟨3,⟨#[101,108,115,101]⟩⟩::(tc++r))))
  (hb:∀k,K<=k->jg el' k (tb++⟨3,⟨#[101,108,115,101]⟩⟩::(tc++r))=some (b,⟨3,⟨#[101,108,115,101]⟩⟩::(tc++r))) (hc:∀k,K<=k->jg el' k (tc++r)=some (c,r)) :
  ∀k,K+1<=k->kV el' k (⟨3,⟨#[105,102]⟩⟩::(ta++⟨3,⟨#[116,104,101,110]⟩⟩::(tb++⟨3,⟨#[101,108,115,101]⟩⟩::(tc++r))))=some (.mk 4 0 0 0 ⟨#[]⟩ [a,b,c],r):=fun k hk=>by
 obtain⟨k,rfl⟩:∃j,k=j+1:=⟨k-1,iu⟩;rw[kV,zN _ _ ((jk ⟨#[45]⟩ ⟨#[105,102]⟩ []).trans rfl)];simp only[jk,ju,ry];rw[iV iI,iV iI,iV iI,iV iI,iV iI,iV iI,iV iI,iG iI,ha k iu];show (iF [⟨#[116,104,101,110]⟩] (⟨3,⟨#[116,104,101,110]⟩⟩::_)).bind _=_
 rw[uk [116,104,101,110]];show (jg el' k (tb++⟨3,⟨#[101,108,115,101]⟩⟩::(tc++r))).bind _=_
 rw[hb k iu];show (iF [⟨#[101,108,115,101]⟩] (⟨3,⟨#[101,108,115,101]⟩⟩::_)).bind _=_
 rw[uk [101,108,115,101]];show (jg el' k (tc++r)).bind _=_
 rw[hc k iu];rfl
def Ho (el:List iW) (l:List Ex):List Tk:=l.flatMap fun a=>⟨4,⟨#[44]⟩⟩::toks (kX el a)
theorem DR:∀(l acc:List Ex) (r:List Tk),(∀a∈l,∀r,tE r->∀k,30*mK a<=k->jg el' k (toks (kX el a)++r)=some (a,r)) ->
  ∀k,30*ks l+1<=k->rF el' k acc (Ho el l++⟨4,⟨#[41]⟩⟩::r)=some (acc++l,⟨4,⟨#[41]⟩⟩::r)
 |[],acc,r,_,k,hk=>by
  obtain⟨k,rfl⟩:∃j,k=j+1:=⟨k-1,iu⟩;show rF el' (k+1) acc (⟨4,⟨#[41]⟩⟩::r)=_
  rw[rF,kg,iV iI,oV]
 |a::l,acc,r,h,k,hk=>by
  rw[ks]at hk;have hza:0<mK a:=by cases a;rw[mK];omega
  obtain⟨k,rfl⟩:∃j,k=j+1:=⟨k-1,iu⟩;show rF el' (k+1) acc ((⟨4,⟨#[44]⟩⟩::toks (kX el a))++Ho el l++⟨4,⟨#[41]⟩⟩::r)=_
  rw[kD,lP,rF,kg,iG iI,ry];have hst:tE (Ho el l++⟨4,⟨#[41]⟩⟩::r):=by
   cases l with
   |nil=>exact tE.of (by decide +kernel) r
   |cons b l=>exact tE.of (t:=⟨4,⟨#[44]⟩⟩) (by decide +kernel) _
  rw[h a nG _ hst k iu];show rF el' k (acc++[a]) (Ho el l++⟨4,⟨#[41]⟩⟩::r)=_
  rw[DR l (acc++[a]) r (fun b o=>h b (qj _ o)) k iu,kD];rfl
theorem Hy:∀(a:Ex) (l:List Ex),toks (mq qR ((jy el (a::l)).map Ar.l))=toks (kX el a)++Ho el l
 |a,[]=>by rw[jy,jy];show toks (kX el a)=_++[];rw[oV]
 |a,b::l=>by
  have ih:=Hy b l;rw[jy];rw[jy]at ih⊢;show toks (kX el a++qR++mq qR (kX el b::(jy el l).map Ar.l))=_
  rw[iN,iN];rw[show toks (mq qR (kX el b::(jy el l).map Ar.l))=toks (kX el b)++Ho el l from ih,kD];rfl
theorem IQ {k:Nat} (hk:1<=k) (s:yB) (l:List Ex) {r:List Tk} (h:jq ⟨#[101,118,101,114,121]⟩ r=false):oR el' k s l r=some (.mk 10 0 0 0 s l,r):=by
 obtain⟨k,rfl⟩:∃j,k=j+1:=⟨k-1,iu⟩;rw[oR,h,iV iI]
theorem Jd {k:Nat} (s:yB) (l:List Ex) {ts r:List Tk} {x:Ex} (h:∀j,k<=j+1->kV el' j ts=some (x,r)) (hk:1<=k):∀k',k<=k'->oR el' k' s l (⟨3,⟨#[101,118,101,114,121]⟩⟩::ts)=some (.mk 10 0 0 1 s (l++[x]),r):=fun k' hk'=>by
 obtain⟨j,rfl⟩:∃j,k'=j+1:=⟨k'-1,iu⟩;rw[oR,jk,iG iI,ry,h j iu];rfl
theorem D' {s:yB} (l:List Ex) {r r':List Tk} {x:Ex} (hE:∀a∈l,∀r,tE r->∀k,30*mK a<=k->jg el' k (toks (kX el a)++r)=some (a,r)) (hd:∀a∈l,∀r,jq ⟨#[41]⟩ (toks (kX el a)++r)=false)
  {K:Nat} (hv:∀k,K<=k->oR el' k s l r=some (x,r')) (hK:30*ks l+1<=K) :
  ∀k,K+3<=k->kV el' k (⟨1,s⟩::⟨4,⟨#[40]⟩⟩::(toks (mq qR ((jy el l).map Ar.l))++⟨4,⟨#[41]⟩⟩::r))=some (x,r'):=fun k hk=>by
 obtain⟨k,rfl⟩:∃j,k=j+2:=⟨k-2,iu⟩;rw[FO,kg,iG iI,ry];cases l with
 |nil=>
  show sU el' (k+1) s (⟨4,⟨#[41]⟩⟩::r)=_
  rw[sU,kg,iG iI,ry,hv k iu]
 |cons a l=>
 rw[Hy,kD,sU,hd a nG,iV iI];rw[ks]at hK;have hza:0<mK a:=by cases a;rw[mK];omega
 have hst:tE (Ho el l++⟨4,⟨#[41]⟩⟩::r):=by
  cases l with
  |nil=>exact tE.of (by decide +kernel) r
  |cons b l=>exact tE.of (t:=⟨4,⟨#[44]⟩⟩) (by decide +kernel) _
 rw[hE a nG _ hst k iu];show (rF el' k [a] (Ho el l++⟨4,⟨#[41]⟩⟩::r)).bind _=_
 rw[DR l [a] r (fun b o=>hE b (qj _ o)) k iu];show (iF [⟨#[41]⟩] (⟨4,⟨#[41]⟩⟩::r)).bind _=_
 rw[lJ [41] r];exact hv k iu
theorem GN (hA:x_ el el') {t:Int} {s:yB} {n:Nat} (h2:t≠2) (ht:qS el t) (hn:n=jV el t) (hr:3<=t->∀j:Nat,j<n->FV el t j):∀(l acc:List Ex) (r:List Tk),acc+l=n ->
  (∀a∈l,∀r,tE r->∀k,30*mK a<=k->jg el' k (toks (kX el a)++r)=some (a,r)) ->
  ∀k,30*ks l+1<=k->we el' k s t n acc (toks (wj el t acc (jy el l))++r)=some (.mk 9 0 t 0 s (if t=1 then (acc++l).reverse else acc++l),r)
 |[],acc,r,hl,_,k,hk=>by
  obtain⟨k,rfl⟩:∃j,k=j+1:=⟨k-1,iu⟩;rw[jy,wj,po,sb,we,iV (by simp at hl;omega),oV]
 |a::l,acc,r,hl,h,k,hk=>by
  rw[ks]at hk;have hza:0<mK a:=by cases a;rw[mK];omega
  rw[py]at hl;obtain⟨k,rfl⟩:∃j,k=j+1:=⟨k-1,iu⟩;have hval:nq el t (if t=1 then 1-(acc:Int) else acc.length)=true:=uL h2 hn (by omega);obtain⟨tk,e1,e2,e3,-⟩:=Bt hA h2 ht hval (fun h3=>by rw[iV (by omega)];exact hr h3 _ (by omega));rw[jy,wj,jT,lK,iN,e1,jT,lK,jT,iN,lK];rw[we,iG iu];show (iF [⟨#[40]⟩] (⟨4,⟨#[40]⟩⟩::_)).bind _=_
  rw[lJ [40]];show (if lk el' t (if t=1 then 1-(acc:Int) else acc.length) true (tk::_) then (l_ el' (tk::_)).bind _ else none)=_
  rw[e3,iG rfl];show (l_ el' (tk::_)).bind _=_
  rw[e2];show (if t=t then (iF [⟨#[45,62]⟩] (⟨4,⟨#[45,62]⟩⟩::_)).bind _ else none)=_
  rw[iG rfl,lJ [45,62]];show (jg el' k (toks (kX el a)++⟨4,⟨#[41]⟩⟩::toks (wj el t (acc.length+1) (jy el l))++r)).bind _=_
  rw[kD,h a nG (⟨4,⟨#[41]⟩⟩::toks (wj el t (acc.length+1) (jy el l))++r) (tE.of (t:=⟨4,⟨#[41]⟩⟩) (by decide +kernel) _) k iu];show (iF [⟨#[41]⟩] (⟨4,⟨#[41]⟩⟩::_)).bind _=_
  rw[lJ [41]];show we el' k s t n (acc++[a]) (toks (wj el t (acc.length+1) (jy el l))++r)=_
  have ih:=GN hA (s:=s) h2 ht hn hr l (acc++[a]) r (by rw[mo];simp;omega) (fun b hb=>h b (qj _ hb)) k iu;rw[mo,xH,kD]at ih;exact ih
theorem IN (hA:x_ el el') {t:Int} {s:yB} {n:Nat} (h2:t≠2) (ht:qS el t) (hn:n=jV el t) (hr:3<=t->∀j:Nat,j<n->FV el t j) (a:Ex) (l:List Ex) (r:List Tk) (hl:1+l=n)
  (h:∀b∈a::l,∀r,tE r->∀k,30*mK b<=k->jg el' k (toks (kX el b)++r)=some (b,r)) :
  ∀k,30*ks (a::l)+3<=k->kV el' k (⟨3,⟨#[109,101,114,103,101]⟩⟩::⟨1,s⟩::(toks (wj el t 0 (jy el (a::l)))++r))=some (.mk 9 0 t 0 s (if t=1 then (a::l).reverse else a::l),r):=fun k hk=>by
 rw[ks]at hk;have hza:0<mK a:=by cases a;rw[mK];omega
 obtain⟨k,rfl⟩:∃j,k=j+2:=⟨k-2,iu⟩;rw[kV,zN _ _ ((jk ⟨#[45]⟩ ⟨#[109,101,114,103,101]⟩ []).trans rfl)];simp only[jk,ju,ry];rw[iV iI,iV iI,iV iI,iV iI,iV iI,iV iI,iV iI,iV iI,iG iI];have hval:nq el t (if t=1 then 1-((0:Nat):Int) else ((0:Nat):Int))=true:=uL h2 hn (by omega);obtain⟨tk,e1,e2,-,e4⟩:=Bt hA h2 ht hval (fun h3=>by rw[iV iu];exact hr h3 0 iu);have e5:=e4 (fun h1=>by rw[iG h1];rfl) (fun h3=>by rw[iV iu];rfl);rw[jy,wj,jT,lK,iN,e1,jT,lK,jT,iN,lK,tI];show (iF [⟨#[40]⟩] (⟨4,⟨#[40]⟩⟩::_)).bind _=_
 rw[lJ [40]];show (if lk el' 0 (if jq ⟨#[116,114,117,101]⟩ (tk::_) then 1 else 0) false (tk::_) then (l_ el' (tk::_)).bind _ else none)=_
 rw[e5,iG rfl];show (l_ el' (tk::_)).bind _=_
 rw[e2];show (iF [⟨#[45,62]⟩] (⟨4,⟨#[45,62]⟩⟩::_)).bind _=_
 rw[lJ [45,62]];show (jg el' k (toks (kX el a)++⟨4,⟨#[41]⟩⟩::toks (wj el t (0+1) (jy el l))++r)).bind _=_
 rw[kD,h a nG (⟨4,⟨#[41]⟩⟩::toks (wj el t (0+1) (jy el l))++r) (tE.of (t:=⟨4,⟨#[41]⟩⟩) (by decide +kernel) _) k iu];show (iF [⟨#[41]⟩] (⟨4,⟨#[41]⟩⟩::_)).bind _=_
 rw[lJ [41]];show we el' k s t (jV el' t) [a] (toks (wj el t (0+1) (jy el l))++r)=_
 rw[hA.sz,<- hn];exact GN hA (s:=s) h2 ht hn hr l [a] r (by rw[xH];exact hl) (fun b hb=>h b (qj _ hb)) k iu
structure nT (el el':List iW) (x:Ex):Prop where
 e:∀r,tE r->∀k,30*mK x<=k->jg el' k (toks (kX el x)++r)=some (x,r)
 o:∀r,jq ⟨#[101,118,101,114,121]⟩ r=false->jq ⟨#[40]⟩ r=false->∀k,30*mK x+1<=k->kV el' k (toks (kM ⟨kb x,kG x,kX el x⟩)++r)=some (x,r)
 hd:∃t tl,toks (kM ⟨kb x,kG x,kX el x⟩)=t::tl/\wg ⟨#[45]⟩ t=false/\wg ⟨#[112,114,101]⟩ t=false/\wg ⟨#[110,111,116]⟩ t=false/\(t.kind=2->kG x=true)
 he:∀r,jq ⟨#[41]⟩ (toks (kX el x)++r)=false
theorem nT.Ty {x:Ex} (e:∀r,tE r->∀k,30*mK x<=k->jg el' k (toks (kX el x)++r)=some (x,r)) (he:∀r,jq ⟨#[41]⟩ (toks (kX el x)++r)=false)
  (hp:kb x=true->(∀r,jq ⟨#[101,118,101,114,121]⟩ r=false->jq ⟨#[40]⟩ r=false->∀k,30*mK x+1<=k->kV el' k (toks (kX el x)++r)=some (x,r)) /\
   ∃t tl,toks (kX el x)=t::tl/\wg ⟨#[45]⟩ t=false/\wg ⟨#[112,114,101]⟩ t=false/\wg ⟨#[110,111,116]⟩ t=false/\(t.kind=2->kG x=true)):nT el el' x:=by
 cases h:kb x with
 |true=>
  obtain⟨o,j⟩:=hp h;refine⟨e,?_,?_,he⟩
  ·rw[h];exact o
  rw[h];exact j
 |false=>
 refine⟨e,fun r o j k J=>?_,?_,he⟩
 ·rw[h]
  show kV el' k (toks (mf [40]::(kX el x++[mf [41]]))++r)=_
  rw[lK,iN,lK,po,lP,kD];exact Ht (e (⟨4,⟨#[41]⟩⟩::r) (tE.of (by decide +kernel) r)) k iu
 rw[h];exact⟨⟨4,⟨#[40]⟩⟩,toks (kX el x++[mf [41]]),rfl,(kg _ _ []).trans rfl,(kg _ _ []).trans rfl,(kg _ _ []).trans rfl,fun I=>absurd I (show (4:Int)≠2 by decide)⟩
theorem nT.Ts {x:Ex} {t:Tk} {tl:List Tk} (ht:toks (kX el x)=t::tl) (hP:∀r,jq ⟨#[101,118,101,114,121]⟩ r=false->jq ⟨#[40]⟩ r=false->∀k,30*mK x<=k+15->kV el' k (toks (kX el x)++r)=some (x,r))
  (h1:wg ⟨#[45]⟩ t=false) (h2:wg ⟨#[112,114,101]⟩ t=false) (h3:wg ⟨#[110,111,116]⟩ t=false) (h4:wg ⟨#[41]⟩ t=false) (h5:t.kind=2->kG x=true):nT el el' x:=by
 have U:15<=30*mK x:=by cases x;rw[mK];omega
 refine nT.Ty (fun r j k o=>?_) (fun r=>by rw[ht];exact h4) (fun _=>⟨fun r R J k o=>hP r R J k iu,t,tl,ht,h1,h2,h3,h5⟩);have I:=tJ (K:=30*mK x-15) (fun k o=>hP r j.ev j.pa k iu) (by rw[ht];exact h1) (by rw[ht];exact h2) j.wh;exact ov I (by rw[ht];exact h3) j k iu
theorem nT.un {x:Ex} (h:nT el el' x) {r:List Tk} (h1:jq ⟨#[101,118,101,114,121]⟩ r=false) (h2:jq ⟨#[40]⟩ r=false) (h3:jq ⟨#[119,104,101,110]⟩ r=false) :
  ∀k,30*mK x+3<=k->xu el' k (toks (kM ⟨kb x,kG x,kX el x⟩)++r)=some (x,r):=by
 obtain⟨t,R,j,J,I,U,-⟩:=h.hd;exact tJ (h.o r h1 h2) (by rw[j];exact J) (by rw[j];exact I) h3
theorem nT.nt {x:Ex} (h:nT el el' x) (r:List Tk):jq ⟨#[110,111,116]⟩ (toks (kM ⟨kb x,kG x,kX el x⟩)++r)=false:=by
 obtain⟨t,I,j,R,J,o,-⟩:=h.hd;rw[j];exact o
theorem nT.np {x:Ex} (h:nT el el' x) (r:List Tk):jq ⟨#[41]⟩ (toks (kM ⟨kb x,kG x,kX el x⟩)++r)=false:=by
 cases hp:kb x with
 |true=>exact h.he r
 |false=>exact (kg _ _ _).trans rfl
end
abbrev AN:=@tE.of
abbrev wN:=@nT.Ty
abbrev Ba:=@nT.Ts
section
variable {el el':List iW}
theorem Mu (l:List Ex):(jy el l).reverse=jy el l.reverse:=by
 have h:∀l:List Ex,jy el l=l.map fun x=>⟨kb x,kG x,kX el x⟩:=fun l=>by
  induction l with
  |nil=>rw[jy];rfl
  |cons a l ih=>rw[jy,ih];rfl
 rw[h,h,List.map_reverse]
theorem LB (l:List Ex) (n:Nat):(jy el l).take n=jy el (l.take n):=by
 have h:∀l:List Ex,jy el l=l.map fun x=>⟨kb x,kG x,kX el x⟩:=fun l=>by
  induction l with
  |nil=>rw[jy];rfl
  |cons a l ih=>rw[jy,ih];rfl
 rw[h,h,List.map_take]
theorem Jy {l:List Ex} (h:l.length=1):∃a,l=[a]:=by
 match l,h with
 |[a],_=>exact⟨a,rfl⟩
theorem JC {l:List Ex} (h:l.length=2):∃a b,l=[a,b]:=by
 match l,h with
 |[a,b],_=>exact⟨a,b,rfl⟩
theorem N9 {l:List Ex} (h:l.length=3):∃a b c,l=[a,b,c]:=by
 match l,h with
 |[a,b,c],_=>exact⟨a,b,c,rfl⟩
theorem I4 (hA:x_ el el') {t v:Int} (ht:qS el t) (hv:nq el t v=true) (hr:3<=t->FV el t v):nT el el' (.mk 1 0 t v ⟨#[]⟩ []):=by
 have hz:mK (.mk 1 0 t v ⟨#[]⟩ [])=1:=by rw[mK,ks]
 have hp:kX el (.mk 1 0 t v ⟨#[]⟩ [])=wm el t v:=by rw[kX];rfl
 by_cases U:t=1
 ·subst U
  rcases JR hv with⟨rfl,o⟩ | ⟨rfl,o⟩
  ·refine Ba (t:=⟨3,⟨#[116,114,117,101]⟩⟩) (tl:=[]) (by rw[hp,o];rfl) (fun r _ _ k I=>?_) ((jk _ _ []).trans rfl) ((jk _ _ []).trans rfl) ((jk _ _ []).trans rfl) ((jk _ _ []).trans rfl) (fun h=>absurd h (show (3:Int)≠2 by decide))
   obtain⟨k,rfl⟩:∃j,k=j+1:=⟨k-1,by omega⟩;rw[hp,o];exact LV k r
  refine Ba (t:=⟨3,⟨#[102,97,108,115,101]⟩⟩) (tl:=[]) (by rw[hp,o];rfl) (fun r _ _ k I=>?_) ((jk _ _ []).trans rfl) ((jk _ _ []).trans rfl) ((jk _ _ []).trans rfl) ((jk _ _ []).trans rfl) (fun h=>absurd h (show (3:Int)≠2 by decide));obtain⟨k,rfl⟩:∃j,k=j+1:=⟨k-1,by omega⟩;rw[hp,o];exact Jr k r
 by_cases R:t=2
 ·subst R
  unfold nq at hv;rw[iG rfl]at hv;simp only[mT,decide_eq_true_eq]at hv;by_cases h0:v<0
  ·have o:wm el 2 v=[mf [45],.tk ⟨2,xF v.natAbs⟩]:=by unfold wm;rw[iV iI,iG rfl,iG h0]
   have J:kb (.mk 1 0 2 v ⟨#[]⟩ [])=false:=by
    rw[kb];simp;omega
   refine wN (fun r hr k I=>?_) (fun r=>by rw[hp,o];exact (kg _ _ _).trans rfl) (fun h=>by rw[J]at h;cases h);rw[hp,o];show jg el' k (⟨4,⟨#[45]⟩⟩::⟨2,xF v.natAbs⟩::r)=_
   have hP:∀k,1<=k->kV el' k (⟨4,⟨#[45]⟩⟩::⟨2,xF v.natAbs⟩::r)=some (.mk 1 0 2 v ⟨#[]⟩ [],r):=fun k I=>by
    obtain⟨k,rfl⟩:∃j,k=j+1:=⟨k-1,iu⟩;rw[PK k v.natAbs iu,show -((v.natAbs:Nat):Int)=v by omega]
   exact ov (Ly hP (MC _ _) hr.wh) ((kg _ _ _).trans rfl) hr k iu
  have o:wm el 2 v=[.tk ⟨2,xF v.toNat⟩]:=by unfold wm;rw[iV iI,iG rfl,iV h0]
  refine Ba (t:=⟨2,xF v.toNat⟩) (tl:=[]) (by rw[hp,o];rfl) (fun r _ _ k I=>?_) rfl rfl rfl rfl (fun _=>by rw[kG];rfl);obtain⟨k,rfl⟩:∃j,k=j+1:=⟨k-1,iu⟩;rw[hp,o];show kV el' (k+1) (⟨2,xF v.toNat⟩::r)=_
  rw[Pa k v.toNat iu,show ((v.toNat:Nat):Int)=v by omega]
 have h3:3<=t:=by
  rcases ht with h | h | h
  ·exact absurd h U
  ·exact absurd h R
  exact h.1
 obtain⟨s,o,hs⟩:=MR (hr h3);refine Ba (t:=⟨1,s⟩) (tl:=[]) (by rw[hp,o];rfl) (fun r _ g2 k I=>?_) rfl rfl rfl rfl (fun h=>absurd h (show (1:Int)≠2 by decide));obtain⟨k,rfl⟩:∃j,k=j+1:=⟨k-1,iu⟩;rw[hp,o];show kV el' (k+1) (⟨1,s⟩::r)=_
 rw[FO,g2,iV iI,hA.tag,hs]
theorem PS {a b:Ex} {o:Int} (h3:3<=o) (h16:o<=16) (ha:nT el el' a) (hb:nT el el' b):nT el el' (.mk 3 o 0 0 ⟨#[]⟩ [a,b]):=by
 have hz:mK (.mk 3 o 0 0 ⟨#[]⟩ [a,b])=1+(mK a+mK b):=by rw[mK,ks,ks,ks];omega
 obtain⟨f1,-,-,-,-,f6,f7,U⟩:=ye o h3 h16;have R:0<mK a:=by cases a;rw[mK];omega
 have J:0<mK b:=by cases b;rw[mK];omega
 have hp:toks (kX el (.mk 3 o 0 0 ⟨#[]⟩ [a,b]))=toks (kM ⟨kb a,kG a,kX el a⟩)++uZ o::(toks (kM ⟨kb b,kG b,kX el b⟩)):=by
  rw[kX];show toks (EA o (jy el [a,b]))=_
  unfold EA;rw[iV iu,iV iu,pz el (i:=0) rfl,pz el (i:=1) rfl,iN,jT,f1];show _++uZ o::toks (.sp 32::_)=_
  rw[jT]
 refine wN (fun r j k I=>?_) (fun r=>by rw[hp,kD];exact ha.np _) (fun h=>by rw[kb]at h;cases h);rw[hp,kD,lP];exact MI (K:=30*(mK a+mK b)-27) h3 h16 (fun k I=>ha.un (r:=uZ o::(toks (kM ⟨kb b,kG b,kX el b⟩)++r)) f7 U f6 k (by omega)) (fun k I=>hb.un j.ev j.pa j.wh k (by omega)) (ha.nt _) (hb.nt _) j k (by omega)
theorem NL {a:Ex} (ha:nT el el' a):nT el el' (.mk 3 1 0 0 ⟨#[]⟩ [a]):=by
 have R:mK (.mk 3 1 0 0 ⟨#[]⟩ [a])=1+mK a:=by rw[mK,ks,ks];omega
 have hp:toks (kX el (.mk 3 1 0 0 ⟨#[]⟩ [a]))=⟨3,⟨#[110,111,116]⟩⟩::toks (kM ⟨kb a,kG a,kX el a⟩):=by
  rw[kX];show toks (EA 1 (jy el [a]))=_
  unfold EA;rw[iG rfl,pz el (i:=0) rfl];rfl
 refine wN (fun r o k I=>?_) (fun r=>by rw[hp];exact (jk _ _ _).trans rfl) (fun h=>by rw[kb]at h;cases h);rw[hp,lP];have J:∀k,30*mK a+16<=k->jB el' k 2 (⟨3,⟨#[110,111,116]⟩⟩::(toks (kM ⟨kb a,kG a,kX el a⟩)++r))=some (.mk 3 1 0 0 ⟨#[]⟩ [a],r):=fun k I=>by
  obtain⟨k,rfl⟩:∃j,k=j+1:=⟨k-1,iu⟩;rw[jB,iG rfl,jk,iG iI,ry];have:=vb (n:=1) (ha.un o.ev o.pa o.wh) (ha.nt r) iI iI (fun m _ _=>o.op m) k iu;rw[show (1:Int)+1=2 from rfl]at this;rw[this];rfl
 exact wX (Gj J (.inl (by decide)) (by decide) (by decide) o.op) o k (by omega)
theorem M0 {a:Ex} (ha:nT el el' a):nT el el' (.mk 3 2 0 0 ⟨#[]⟩ [a]):=by
 have hz:mK (.mk 3 2 0 0 ⟨#[]⟩ [a])=1+mK a:=by rw[mK,ks,ks];omega
 cases hc:kG a with
 |true=>
  have hp:toks (kX el (.mk 3 2 0 0 ⟨#[]⟩ [a]))=⟨4,⟨#[45]⟩⟩::⟨4,⟨#[40]⟩⟩::(toks (kX el a)++[⟨4,⟨#[41]⟩⟩]):=by
   rw[kX];show toks (EA 2 (jy el [a]))=_
   unfold EA;rw[iV iI,iG rfl,pz el (i:=0) rfl,hc,iG rfl,lK,lK,iN];rfl
  refine wN (fun r o k J=>?_) (fun r=>by rw[hp];exact (kg _ _ _).trans rfl) (fun h=>by rw[kb]at h;cases h);rw[hp,lP,lP,kD];have R:∀k,30*mK a+4<=k->xu el' k (⟨4,⟨#[45]⟩⟩::⟨4,⟨#[40]⟩⟩::(toks (kX el a)++[⟨4,⟨#[41]⟩⟩]++r))=some (.mk 3 2 0 0 ⟨#[]⟩ [a],r):=fun k J=>by
   obtain⟨k,rfl⟩:∃j,k=j+1:=⟨k-1,iu⟩;have I:rI (⟨4,⟨#[45]⟩⟩::⟨4,⟨#[40]⟩⟩::(toks (kX el a)++[⟨4,⟨#[41]⟩⟩]++r))=false:=by unfold rI;rw[ry];show (_&&((4:Int)==2))=false;rw[Bool.and_eq_false_iff];exact .inr rfl
   rw[xu,I,iV iI,kg,iG iI,ry,kD];have hP:=tJ (Ht (ha.e (⟨4,⟨#[41]⟩⟩::r) (AN (by decide +kernel) r))) ((kg _ _ _).trans rfl) ((kg _ _ _).trans rfl) o.wh k iu;show (xu el' k (⟨4,⟨#[40]⟩⟩::(toks (kX el a)++⟨4,⟨#[41]⟩⟩::r))).bind _=_
   rw[hP];rfl
  rw[<- kD];exact ov R ((kg _ _ _).trans rfl) o k (by omega)
 |false=>
 have hp:toks (kX el (.mk 3 2 0 0 ⟨#[]⟩ [a]))=⟨4,⟨#[45]⟩⟩::toks (kM ⟨kb a,kG a,kX el a⟩):=by
  rw[kX];show toks (EA 2 (jy el [a]))=_
  unfold EA;rw[iV iI,iG rfl,pz el (i:=0) rfl];show toks (if kG a=true then _ else _)=_
  rw[hc,iV iI];rfl
 refine wN (fun r o k J=>?_) (fun r=>by rw[hp];exact (kg _ _ _).trans rfl) (fun h=>by rw[kb]at h;cases h);rw[hp,lP];have R:∀k,30*mK a+4<=k->xu el' k (⟨4,⟨#[45]⟩⟩::(toks (kM ⟨kb a,kG a,kX el a⟩)++r))=some (.mk 3 2 0 0 ⟨#[]⟩ [a],r):=fun k J=>by
  obtain⟨k,rfl⟩:∃j,k=j+1:=⟨k-1,iu⟩;have I:rI (⟨4,⟨#[45]⟩⟩::(toks (kM ⟨kb a,kG a,kX el a⟩)++r))=false:=by
   obtain⟨t,tl,U,-,-,-,g⟩:=ha.hd;unfold rI;rw[U,ry];show (_&&(t.kind==2))=false
   rw[Bool.and_eq_false_iff];refine .inr ?_;rw[beq_eq_false_iff_ne];intro h;rw[g h]at hc;cases hc
  rw[xu,I,iV iI,kg,iG iI,ry,ha.un o.ev o.pa o.wh k iu];rfl
 exact ov R ((kg _ _ _).trans rfl) o k (by omega)
theorem JA {a b:Ex} (ha:nT el el' a) (hb:nT el el' b):nT el el' (.mk 6 0 0 0 ⟨#[]⟩ [a,b]):=by
 have hz:mK (.mk 6 0 0 0 ⟨#[]⟩ [a,b])=1+(mK a+mK b):=by rw[mK,ks,ks,ks];omega
 have R:0<mK a:=by cases a;rw[mK];omega
 have J:0<mK b:=by cases b;rw[mK];omega
 have hp:toks (kX el (.mk 6 0 0 0 ⟨#[]⟩ [a,b]))=toks (kM ⟨kb a,kG a,kX el a⟩)++⟨4,⟨#[45,62]⟩⟩::(toks (kM ⟨kb b,kG b,kX el b⟩)):=by
  rw[kX];show toks (kM (pF (jy el [a,b]) 0)++.sp 32::mf [45,62]::.sp 32::kM (pF (jy el [a,b]) 1))=_
  rw[pz el (i:=0) rfl,pz el (i:=1) rfl,iN,jT,lK,jT]
 refine wN (fun r o k hk=>?_) (fun r=>by rw[hp,kD];exact ha.np _) (fun h=>by rw[kb]at h;cases h);rw[hp,kD,lP];obtain⟨k,rfl⟩:∃j,k=j+1:=⟨k-1,by omega⟩;have U:=ha.un (r:=⟨4,⟨#[45,62]⟩⟩::(toks (kM ⟨kb b,kG b,kX el b⟩)++r)) (kg _ _ _ |>.trans rfl) (kg _ _ _ |>.trans rfl) (kg _ _ _ |>.trans rfl);have I:=vb (n:=-1) U (ha.nt _) (by decide) (by decide) (fun m _ _=>ET (t:=⟨4,⟨#[45,62]⟩⟩) (by decide +kernel) (by decide +kernel) (by decide +kernel) (by decide +kernel) (by decide +kernel) _ m) k (by omega);rw[show (-1:Int)+1=0 from rfl]at I;rw[jg,I];show (if jq ⟨#[45,62]⟩ (⟨4,⟨#[45,62]⟩⟩::_) then (jg el' k (toks (kM ⟨kb b,kG b,kX el b⟩)++r)).bind _ else _)=_
 rw[kg,iG iI,ov (hb.un o.ev o.pa o.wh) (hb.nt r) o k iu];rfl
theorem Od {a b:Ex} (ha:nT el el' a) (hb:nT el el' b):nT el el' (.mk 7 0 0 0 ⟨#[]⟩ [a,b]):=by
 have hz:mK (.mk 7 0 0 0 ⟨#[]⟩ [a,b])=1+(mK a+mK b):=by rw[mK,ks,ks,ks];omega
 have R:0<mK a:=by cases a;rw[mK];omega
 have J:0<mK b:=by cases b;rw[mK];omega
 have hp:toks (kX el (.mk 7 0 0 0 ⟨#[]⟩ [a,b]))=toks (kM ⟨kb a,kG a,kX el a⟩)++⟨3,⟨#[102,98,121]⟩⟩::(toks (kM ⟨kb b,kG b,kX el b⟩)):=by
  rw[kX];show toks (kM (pF (jy el [a,b]) 0)++.sp 32::mB [102,98,121]::.sp 32::kM (pF (jy el [a,b]) 1))=_
  rw[pz el (i:=0) rfl,pz el (i:=1) rfl,iN,jT,pd,jT]
 refine wN (fun r o k hk=>?_) (fun r=>by rw[hp,kD];exact ha.np _) (fun h=>by rw[kb]at h;cases h);rw[hp,kD,lP];obtain⟨k,rfl⟩:∃j,k=j+1:=⟨k-1,by omega⟩;have U:=ha.un (r:=⟨3,⟨#[102,98,121]⟩⟩::(toks (kM ⟨kb b,kG b,kX el b⟩)++r)) (jk _ _ _ |>.trans rfl) (jk _ _ _ |>.trans rfl) (jk _ _ _ |>.trans rfl);have I:=vb (n:=-1) U (ha.nt _) (by decide) (by decide) (fun m _ _=>ET (t:=⟨3,⟨#[102,98,121]⟩⟩) (by decide +kernel) (by decide +kernel) (by decide +kernel) (by decide +kernel) (by decide +kernel) _ m) k (by omega);rw[show (-1:Int)+1=0 from rfl]at I;rw[jg,I];show (if jq ⟨#[45,62]⟩ (⟨3,⟨#[102,98,121]⟩⟩::_) then _ else if jq ⟨#[102,98,121]⟩ (⟨3,⟨#[102,98,121]⟩⟩::_) then (jg el' k (toks (kM ⟨kb b,kG b,kX el b⟩)++r)).bind _ else _)=_
 rw[jk,iV iI,jk,iG iI,ov (hb.un o.ev o.pa o.wh) (hb.nt r) o k iu];rfl
theorem MN {a:Ex} (ha:nT el el' a):nT el el' (.mk 5 0 0 0 ⟨#[]⟩ [a]):=by
 have R:mK (.mk 5 0 0 0 ⟨#[]⟩ [a])=1+mK a:=by rw[mK,ks,ks];omega
 have hp:toks (kX el (.mk 5 0 0 0 ⟨#[]⟩ [a]))=⟨3,⟨#[112,114,101]⟩⟩::toks (kM ⟨kb a,kG a,kX el a⟩):=by
  rw[kX];show toks (mB [112,114,101]::.sp 32::kM (pF (jy el [a]) 0))=_
  rw[pz el (i:=0) rfl];rfl
 refine wN (fun r o k I=>?_) (fun r=>by rw[hp];exact (jk _ _ _).trans rfl) (fun h=>by rw[kb]at h;cases h);rw[hp,lP];have J:∀k,30*mK a+4<=k->xu el' k (⟨3,⟨#[112,114,101]⟩⟩::(toks (kM ⟨kb a,kG a,kX el a⟩)++r))=some (.mk 5 0 0 0 ⟨#[]⟩ [a],r):=fun k I=>by
  obtain⟨k,rfl⟩:∃j,k=j+1:=⟨k-1,iu⟩;rw[xu,zN _ _ ((jk _ _ []).trans rfl),iV iI,jk,iV iI,jk,iG iI,ry,ha.un o.ev o.pa o.wh k iu];rfl
 exact ov J ((jk _ _ _).trans rfl) o k (by omega)
theorem LU (hA:x_ el el') {a:Ex} {t v:Int} {s:yB} (h2:t≠2) (ht:qS el t) (hv:nq el t v=true) (hr3:3<=t->FV el t v) (ha:nT el el' a):nT el el' (.mk 8 0 t v s [a]):=by
 have hz:mK (.mk 8 0 t v s [a])=1+mK a:=by rw[mK,ks,ks];omega
 obtain⟨I,e1,e2,-,-⟩:=Bt hA h2 ht hv hr3;have hp:toks (kX el (.mk 8 0 t v s [a]))=toks (kM ⟨kb a,kG a,kX el a⟩)++⟨3,⟨#[119,104,101,110]⟩⟩::I::⟨4,⟨#[40]⟩⟩::⟨1,s⟩::[⟨4,⟨#[41]⟩⟩]:=by
  rw[kX];show toks (kM (pF (jy el [a]) 0)++.sp 32::FX el t v s)=_
  unfold FX;rw[pz el (i:=0) rfl,iN,jT,pd,jT,iN,e1];rfl
 refine wN (fun r hr k hk=>?_) (fun r=>by rw[hp,kD];exact ha.np _) (fun h=>by rw[kb]at h;cases h);rw[hp,kD];have hU:∀k,30*mK a+4<=k->xu el' k (toks (kM ⟨kb a,kG a,kX el a⟩)++((⟨3,⟨#[119,104,101,110]⟩⟩::I::⟨4,⟨#[40]⟩⟩::⟨1,s⟩::[⟨4,⟨#[41]⟩⟩])++r))=some (.mk 8 0 t v s [a],r):=fun k hk=>by
  obtain⟨k,rfl⟩:∃j,k=j+3:=⟨k-3,iu⟩;have hP:=ha.o ((⟨3,⟨#[119,104,101,110]⟩⟩::I::⟨4,⟨#[40]⟩⟩::⟨1,s⟩::[⟨4,⟨#[41]⟩⟩])++r) ((jk _ _ _).trans rfl) ((jk _ _ _).trans rfl) (k+2) iu;obtain⟨t9,a6,J,g1,g2,-,-⟩:=ha.hd;have a1:rI (toks (kM ⟨kb a,kG a,kX el a⟩)++((⟨3,⟨#[119,104,101,110]⟩⟩::I::⟨4,⟨#[40]⟩⟩::⟨1,s⟩::[⟨4,⟨#[41]⟩⟩])++r))=false:=by rw[J];exact zN _ _ g1
  have U:jq ⟨#[45]⟩ (toks (kM ⟨kb a,kG a,kX el a⟩)++((⟨3,⟨#[119,104,101,110]⟩⟩::I::⟨4,⟨#[40]⟩⟩::⟨1,s⟩::[⟨4,⟨#[41]⟩⟩])++r))=false:=by rw[J];exact g1
  have R:jq ⟨#[112,114,101]⟩ (toks (kM ⟨kb a,kG a,kX el a⟩)++((⟨3,⟨#[119,104,101,110]⟩⟩::I::⟨4,⟨#[40]⟩⟩::⟨1,s⟩::[⟨4,⟨#[41]⟩⟩])++r))=false:=by rw[J];exact g2
  rw[xu,a1,iV iI,U,iV iI,R,iV iI,hP];show mO el' (k+2) a (⟨3,⟨#[119,104,101,110]⟩⟩::I::⟨4,⟨#[40]⟩⟩::⟨1,s⟩::⟨4,⟨#[41]⟩⟩::r)=_
  rw[mO,jk,iG iI,ry];have hs:mD el' (I::⟨4,⟨#[40]⟩⟩::⟨1,s⟩::⟨4,⟨#[41]⟩⟩::r)=some (⟨s,t,v⟩,r):=by
   unfold mD;rw[e2];show (iF [⟨#[40]⟩] (⟨4,⟨#[40]⟩⟩::_)).bind _=_
   rw[lJ [40]];show (iF [⟨#[41]⟩] (⟨4,⟨#[41]⟩⟩::r)).bind _=_
   rw[lJ [41]];rfl
  rw[hs];show mO el' (k+1) (.mk 8 0 t v s [a]) r=_
  rw[mO,hr.wh,iV iI]
 exact ov hU (ha.nt _) hr k (by omega)
theorem PB {a b c:Ex} (ha:nT el el' a) (hb:nT el el' b) (hc:nT el el' c):nT el el' (.mk 4 0 0 0 ⟨#[]⟩ [a,b,c]):=by
 have J:mK (.mk 4 0 0 0 ⟨#[]⟩ [a,b,c])=1+(mK a+mK b+mK c):=by rw[mK,ks,ks,ks,ks];omega
 have hp:toks (kX el (.mk 4 0 0 0 ⟨#[]⟩ [a,b,c]))=⟨3,⟨#[105,102]⟩⟩::(toks (kX el a)++⟨3,⟨#[116,104,101,110]⟩⟩::(toks (kX el b)++⟨3,⟨#[101,108,115,101]⟩⟩::toks (kX el c))):=by
  rw[kX];show toks (mB [105,102]::.sp 32::((pF (jy el [a,b,c]) 0).l++.sp 32::mB [116,104,101,110]::.sp 32::((pF (jy el [a,b,c]) 1).l++.sp 32::mB [101,108,115,101]::.sp 32::(pF (jy el [a,b,c]) 2).l)))=_
  rw[pz el (i:=0) rfl,pz el (i:=1) rfl,pz el (i:=2) rfl,pd,jT,iN,jT,pd,jT,iN,jT,pd,jT]
 refine wN (fun r j k o=>?_) (fun r=>by rw[hp];exact (jk _ _ _).trans rfl) (fun h=>by rw[kb]at h;cases h);rw[hp];simp only[lP,kD];have I:=Ox (K:=30*(mK a+mK b+mK c)) (fun k o=>ha.e _ (AN (t:=⟨3,⟨#[116,104,101,110]⟩⟩) (by decide +kernel) (toks (kX el b)++⟨3,⟨#[101,108,115,101]⟩⟩::(toks (kX el c)++r))) k iu)
  (fun k o=>hb.e _ (AN (t:=⟨3,⟨#[101,108,115,101]⟩⟩) (by decide +kernel) (toks (kX el c)++r)) k iu) (fun k o=>hc.e r j k iu)
 exact ov (tJ I ((jk _ _ _).trans rfl) ((jk _ _ _).trans rfl) j.wh) ((jk _ _ _).trans rfl) j k (by omega)
theorem Jl (hA:x_ el el') {t:Int} {s:yB} {xs:List Ex} (h2:t≠2) (ht:qS el t) (hn:xs.length=jV el t) (h1:1<=xs.length) (hr3:3<=t->∀j:Nat,j<xs.length->FV el t j) (hb:∀a∈xs,nT el el' a):nT el el' (.mk 9 0 t 0 s xs):=by
 have hz:mK (.mk 9 0 t 0 s xs)=1+ks xs:=by rw[mK]
 obtain⟨I,o⟩:=jt ((if t=1 then xs.reverse else xs));have J:I.length=xs:=by rw[<- o];split<;>simp
 have a6:ks I=ks xs:=by rw[<- o];split<;>simp[vJ]
 have U:∀a∈I,nT el el' a:=by
  rw[<- o];split
  ·exact fun a h=>hb a (List.mem_reverse.1 h)
  exact hb
 have R:(if t=1 then I.reverse else I)=xs:=by
  rw[<- o];by_cases h:t=1
  ·rw[iG h,iG h,List.reverse_reverse]
  rw[iV h,iV h]
 have hp:toks (kX el (.mk 9 0 t 0 s xs))=⟨3,⟨#[109,101,114,103,101]⟩⟩::⟨1,s⟩::toks (wj el t 0 (jy el I)):=by
  rw[kX];show toks (mB [109,101,114,103,101]::.sp 32::rM s::wj el t 0 (if t=1 then (jy el xs).reverse else jy el xs))=_
  rw[pd,jT,um,show (if t=1 then (jy el xs).reverse else jy el xs)=jy el I from by rw[<- o];split<;>simp[Mu]]
 refine wN (fun r hr k hk=>?_) (fun r=>by rw[hp];exact (jk _ _ _).trans rfl) (fun h=>by rw[kb]at h;cases h);cases I with
 |nil=>rw[<- J]at h1;simp at h1
 |cons a l=>
 rw[py]at J;have hP:=IN hA (s:=s) h2 ht hn hr3 a l r iu (fun b a1=>(U b a1).e);rw[R]at hP;rw[hp,lP,lP];exact ov (tJ hP ((jk _ _ _).trans rfl) ((jk _ _ _).trans rfl) hr.wh) ((jk _ _ _).trans rfl) hr k (by omega)
theorem LO {v:Int} {s:yB} {xs:List Ex} (hv:v=0\/(v=1/\1<=xs.length)) (hb:∀a∈xs,nT el el' a):nT el el' (.mk 10 0 0 v s xs):=by
 have hz:mK (.mk 10 0 0 v s xs)=1+ks xs:=by rw[mK]
 have R:kX el (.mk 10 0 0 v s xs)=AU v s (jy el xs):=by rw[kX];rfl
 rcases hv with rfl | ⟨rfl,h1⟩
 ·have hp:toks (kX el (.mk 10 0 0 0 s xs))=⟨1,s⟩::⟨4,⟨#[40]⟩⟩::(toks (mq qR ((jy el xs).map Ar.l))++[⟨4,⟨#[41]⟩⟩]):=by
   rw[R];unfold AU;rw[iV iI,show (jy el xs).length-(0:Int).toNat=(jy el xs).length from rfl,pf,um,lK,iN];rfl
  refine Ba hp (fun r g1 g2 k hk=>?_) rfl rfl rfl rfl (fun h=>absurd h (show (1:Int)≠2 by decide));rw[hp,lP,lP,kD];exact D' xs (fun a J=>(hb a J).e) (fun a J=>(hb a J).he) (K:=30*ks xs+1) (fun k hk=>IQ (by omega) s xs g1) (js _) k (by omega)
 obtain⟨I,z,rfl⟩:∃I z,xs=I++[z]:=⟨xs.dropLast,xs.getLast (by intro h;rw[h]at h1;simp at h1),(List.dropLast_concat_getLast _).symm⟩;have a1:=hb z (by simp);have a6:ks (I++[z])=ks I+mK z:=by rw[qI,ks,ks];omega
 have hl:(jy el (I++[z])).length-(1:Int).toNat=I.length:=by rw[nD,mo];rfl
 have U:(jy el (I++[z])).length-1=I.length:=hl;have hp:toks (kX el (.mk 10 0 0 1 s (I++[z])))=⟨1,s⟩::⟨4,⟨#[40]⟩⟩::(toks (mq qR ((jy el I).map Ar.l))++⟨4,⟨#[41]⟩⟩::⟨3,⟨#[101,118,101,114,121]⟩⟩::toks (kM ⟨kb z,kG z,kX el z⟩)):=by
  rw[R];unfold AU;rw[iG rfl,hl,U,LB,List.take_left,pz el (i:=I.length) (x:=z) (by simp),um,lK,iN,lK,jT,pd,jT]
 refine Ba hp (fun r g1 g2 k hk=>?_) rfl rfl rfl rfl (fun h=>absurd h (show (1:Int)≠2 by decide));rw[hp];simp only[lP,kD];exact D' I (fun a J=>(hb a (List.mem_append_left _ J)).e) (fun a J=>(hb a (List.mem_append_left _ J)).he) (K:=30*(ks I+mK z)+5)
  (Jd s I (fun j hj=>a1.o r g1 g2 j (by omega)) (by omega)) (by omega) k (by omega)
theorem Oc (hA:x_ el el') {s:yB} (hs:qh el s=none):nT el el' (.mk 2 0 0 0 s []):=by
 have I:mK (.mk 2 0 0 0 s [])=1:=by rw[mK,ks]
 have hp:toks (kX el (.mk 2 0 0 0 s []))=[⟨1,s⟩]:=by rw[kX];rfl
 refine Ba hp (fun r R o k J=>?_) rfl rfl rfl rfl (fun h=>absurd h (show (1:Int)≠2 by decide));obtain⟨k,rfl⟩:∃j,k=j+1:=⟨k-1,by omega⟩;rw[hp];show kV el' (k+1) (⟨1,s⟩::r)=_
 rw[FO,o,iV iI,hA.tag,hs]
theorem LW {s:yB}:nT el el' (.mk 11 0 0 0 s []):=by
 have o:mK (.mk 11 0 0 0 s [])=1:=by rw[mK,ks]
 have hp:toks (kX el (.mk 11 0 0 0 s []))=[⟨5,s⟩]:=by rw[kX];rfl
 refine Ba hp (fun r R J k I=>?_) rfl rfl rfl rfl (fun h=>absurd h (show (5:Int)≠2 by decide));obtain⟨k,rfl⟩:∃j,k=j+1:=⟨k-1,by omega⟩;rw[hp];exact OI k s r
mutual
theorem Gf (hA:x_ el el'):∀x:Ex,GE el x->AX el x->nT el el' x
 |.mk k o t v s xs,hg,ha=>by
  rw[GE]at hg;rw[AX]at ha;have hb:=Em hA xs hg.2 ha.2;obtain⟨q1,q2,q3,q4,q5⟩:=ha.1;obtain⟨-,⟨rfl,rfl,hn,rfl,ht,hv⟩ | ⟨rfl,rfl,rfl,rfl,hn,hs⟩ | ⟨rfl,ho,rfl,rfl,rfl⟩ | ⟨hk,rfl,rfl,rfl,rfl⟩ | ⟨rfl,rfl,hn,ht2,ht,hv,hs⟩ | ⟨rfl,rfl,rfl,ht2,ht,hn,h1n,hs⟩ | ⟨rfl,rfl,rfl,hv,hs⟩ | ⟨rfl,rfl,rfl,rfl,hn,hs⟩⟩:=hg.1
  ·obtain rfl:xs=[]:=B_ hn
   exact I4 hA ht hv (q2 rfl)
  ·obtain rfl:xs=[]:=B_ hn
   exact Oc hA (q3 rfl)
  ·rcases ho with⟨h1,h2,hn⟩ | ⟨h1,h2,hn⟩
   ·obtain⟨a,rfl⟩:=Jy hn
    rcases (by omega:o=1\/o=2) with rfl | rfl
    ·exact NL (hb a (by simp))
    exact M0 (hb a (by simp))
   obtain⟨a,b,rfl⟩:=JC hn;exact PS h1 h2 (hb a (by simp)) (hb b (by simp))
  ·rcases hk with⟨rfl,hn⟩ | ⟨rfl,hn⟩ | ⟨rfl,hn⟩ | ⟨rfl,hn⟩
   ·obtain⟨a,b,c,rfl⟩:=N9 hn
    exact PB (hb a (by simp)) (hb b (by simp)) (hb c (by simp))
   ·obtain⟨a,rfl⟩:=Jy hn
    exact MN (hb a (by simp))
   ·obtain⟨a,b,rfl⟩:=JC hn
    exact JA (hb a (by simp)) (hb b (by simp))
   obtain⟨a,b,rfl⟩:=JC hn;exact Od (hb a (by simp)) (hb b (by simp))
  ·obtain⟨a,rfl⟩:=Jy hn
   exact LU hA ht2 ht hv (q4 rfl) (hb a (by simp))
  ·exact Jl hA ht2 ht hn h1n (q5 rfl) hb
  ·exact LO hv hb
  obtain rfl:xs=[]:=B_ hn;exact LW
theorem Em (hA:x_ el el'):∀xs:List Ex,IE el xs->tj el xs->∀a∈xs,nT el el' a
 |[],_,_,a,h=>by simp at h
 |x::xs,hg,ha,a,h=>by
  rw[IE]at hg;rw[tj]at ha;rcases uW.1 h with h | h
  ·rw[h];exact Gf hA x hg.1 ha.1
  exact Em hA xs hg.2 ha.2 a h
end
end
section
open Go.Proofs.Tryz
section
variable {B:yM} {q:Nat} {A:zA} {c:Nat} {L:List Tk} {en:Int} {eA:zA} {ec:Nat} {el:List iW} {w w0 w1:yM} {i:Nat}
theorem NU:(prog.info? 77).map (fun i=>(i.zero,i.size,i.bytes))=some (some (.agg #[.string ⟨#[]⟩,JX,()]),3,48):=by kernel_rfl
theorem BW {ts:List Tk} (h:ju 1 ts=false):pV ts=none:=by
 cases ts with
 |nil=>rfl
 |cons t l=>
 show (if t.kind==1 then _ else _)=_
 rw[show (t.kind==1)=false from h];rfl
theorem II {el:List iW} {ts:List Tk} (h:ju 1 ts=false):wG el ts=none:=by
 unfold wG;rw[BW h];rfl
theorem Cq {W:yM} {b o:Nat} {y:iO} (h:SF W y) (hj:∀j u,(CJ y)[j]?=some u->W.cell? ⟨b,o+j,none⟩=some u):jG W b o y:=
 ⟨Int.le_trans h.tb iI,hj 0 _ rfl,hj 1 _ rfl,hj 2 _ rfl,jW h.nm iI,h.cl⟩
theorem Ac {M:Nat} (hM:M<=1000) (ob:Bool) (htag:∀u∈el,u.tags.l.length<=16) (hel:el.length<=1000) (h:Rd B q A c L en eA ec el w i):Calls prog 69 #[.pointer q,(M:Nat),ob] w (pk B q A c L en eA ec el w i (mv el ob M [] (L.drop i)) (VL 3 jG iO.er w)):=by
 obtain⟨X,hX⟩:=jt (mv el ob M [] (L.drop i));rw[hX];obtain⟨i0,b_⟩:=jt (i);rw[b_]at hX h⊢;have HX:=iy hX.symm;have aY:Hid (i0<=i0):=js _;have hq:=h.blk.lt;have ba:=h.base;obtain⟨w0,rfl⟩:∃v,v=w:=⟨_,rfl⟩;have aw0:ik w0 w0:=iq _;have R0:=iy h;have a0:ik (iz q w0) (iz q w0):=iq _;have bk:q<w0:=by omega
 have bl:B.heap.size<=w0:=by omega
 clear h;go_in;go_wp2_with fail;obtain⟨n1,aj⟩:=jt (w0.heap.size);have J:q<n1:=iu;have a1:=lI aj.symm;have bq:B<=n1:=iu;have bp:=lI aj;go_loopw [7] (fun v7 wr=>∃(i' m:Nat) (ys:List iO),Hid (i0<=i')/\Hid (ys+m=M)/\Hid (X=mv el ob m (ys.map iO.er) (L.drop i'))/\Hid (Rd B q A c L en eA ec el wr i')/\ik (iz q w0) (iz q wr)/\n1<=wr.heap.size/\Hid (kZ n1 77 3 CJ SF (fun b=>decide (b<n1)) wr v7 ys)) (fun _ wr=>L.length-lO wr q 2)
 ·exact⟨i0,M,[],aY,iy (t_ M),HX,R0,a0,a1,vZ⟩
 case round=>
 clear HX R0 a1;obtain⟨i2,m,ys,aJ,af,HX,aE,bd,a1,OL⟩:=hrel;have d1:=iy (je aE.fields.2.2.1);obtain⟨A7,c7,b6,_,_⟩:=ji OL.own;subst b6;have HC:=iy (qv aE 1);obtain⟨zk,hz⟩:=jt (ju 1 (L.drop i2));rw[hz]at HC;have HZ:=iy hz;clear hz;go_wp2_with fail;refine HC.mono ?_;clear HC;rintro e bn ⟨rfl,aN⟩;have aD:=iy (aE.after aN);have az:=im (q:=q) aN;have aV:=ij bd az;have aI:=aJ;have a1:=jW a1 aN.below.size;clear aN;replace OL:=iy (OL.out.iv qe J (lp J) az);cases zk
 ·skip
  have aP:=II (el:=el) HZ;have aF:Hid (X=none):=by (show _=_;rw[HX.out];cases m with | zero=>rfl | succ m=>(rw[mv,aP];rfl))
  have HC:=GI htag hel aD;rw[aP]at HC;have HC:=iy HC;go_wp2_with fail;refine HC.mono ?_;rintro e aA ⟨aZ,hY⟩;obtain⟨a,er,rfl,he⟩:=hY;unfold oD;go_wp2;exact⟨rfl,kf aF (ij (im aw0) (ij aV aZ)) (jz a er he)⟩
 have HC:=iy (mF aD (ys:Int) (M:Int));go_wp2_with fail;refine HC.mono ?_;clear HC;rintro e aA ⟨aN,hE⟩;have bg:=iy (aD.after aN);have ay:=im (q:=q) aN;have aU:=ij aV ay;have aH:=aI;have a1:=jW a1 aN.below.size;clear aN;replace OL:=iy (OL.out.iv qe J (lp J) ay);rcases hE with⟨hlt4,rfl⟩ | ⟨hge4,hf⟩
 ·skip
  obtain⟨m,rfl⟩:∃j,m=j+1:=⟨m-1,by have:=af.out;omega⟩;have HX:Hid (X=(wG el (L.drop i2)).bind fun (d,r)=>if !jq ⟨#[59]⟩ r||(ob&&!ju 1 r.tail) then some (ys.map iO.er++[d],r) else mv el ob m (ys.map iO.er++[d]) r.tail):=HX;have b':∀b,(Value.slice A7 ys c7).ownBlock=some b->b<aA.heap.size:=fun b hb=>(OL.own.lt b hb).2
  have b8:n1<=aA:=a1;go_wp2_with fail;refine td (GI htag hel bg.out) HX aU aH ?_;clear HX;intro ah aW bo I aO bf HX aG aw ax bc;obtain⟨⟨dn,dt,⟨dA,dc,dl⟩⟩,b0,rfl,D9⟩:=aO;have a1:n1<=ah:=by have h1:=lZ ax;omega
  have aS:Value.agg (CJ ⟨dn,dt,⟨dA,dc,dl⟩⟩).toArray=.agg #[dn,dt,(dA,dl,dc)]:=rfl;rw[aS];clear aS;replace OL:=iy (OL.out.iv qe J (lp J) ax);have bs:ys.length<=100000:=by have:=af.out;omega
  obtain⟨bm,au,be,bb,aB⟩:∃z,ah.alloc (.cells #[dn,dt,(dA,dl,dc)] 77)=z/\Rd B q A c L en eA ec el z I/\ik (iz q w0) (iz q z)/\ik ah z:=⟨_,rfl,bf.out.after iR,ij bc (im iR),iR⟩;have ag:=OL.out.after qe aB;have bj:=qe.below _ _ _ (jK aB).below D9;have aL:=iy au;clear au;have br:n1<=ah:=a1;go_wp2_with (at_builtin;obtain⟨i0_,hi0_,hz0_,hz1_,hz2_⟩:=info_parts NU;refine ka (ah.alloc (.cells #[dn,dt,(dA,dl,dc)] 77)) rfl (.tmp 15) (.tmp 18) 60 rfl n1 77 i0_ _ 3 _ underlying60 hi0_ hz0_ hz1_ hz2_ rfl iI (.slice A7 ys c7) ys.length (ys.flatMap CJ) rfl (by rw[aL.out];exact ag.own) _ _ 1 1 [dn,dt,(dA,dl,dc)] rfl (ki (w:=ah) rfl #[dn,dt,(dA,dl,dc)] 77 _ rfl 1 3 rfl) (by intro u hu;simp only[la]at hu;rcases hu with rfl | rfl | rfl<;>rfl) (by unfold maxLen;omega) iu (by rw[iH];omega) ?_;rw[aL.out];intro v5 w25 own5 hg5 hb5;clear hi0_ hz0_ hz1_ hz2_;have own5:=iy own5;have hg5:=iy hg5;have hb5:=iy hb5)
  have bh:=iy (ag.add qe bj (fun b hb=>by (have hb:=vO hb;have h2:=b8;omega)) b' own5.out hg5.out hb5.out);have a':=iy (be.grown ag.own hg5 J iu);have an:=kF bb ag.own hg5 J iu;have ai:=jW (jW a1 aB.below.size) hg5.size;have ad:=aG;obtain⟨A5,c5,b7,_,_⟩:=ji own5;have OL:=bh;have a1:=ai;subst b7;have aK:Hid ((ys++[(iO.mk dn dt ⟨dA,dc,dl⟩)]).map iO.er=ys.map iO.er++[aW]):=by (show _=_;rw[s_,<- b0];rfl)
  have HX:Hid (X=if !jq ⟨#[59]⟩ (L.drop I)||(ob&&!ju 1 (L.drop I).tail) then some ((ys++[(iO.mk dn dt ⟨dA,dc,dl⟩)]).map iO.er,L.drop I) else mv el ob m ((ys++[(iO.mk dn dt ⟨dA,dc,dl⟩)]).map iO.er) (L.drop I).tail):=by (show _=_;rw[aK.out];exact HX)
  have a7:Hid ((ys++[(iO.mk dn dt ⟨dA,dc,dl⟩)]).length+m=M):=by (show _=_;rw[mo];have:=af.out;simp;omega)
  have HY:Hid (∀U,ik w25 U->Calls prog 30 #[.pointer (some q),.string ⟨#[59]⟩] U fun e w'=>e=.returned (.bool (jq ⟨#[59]⟩ (L.drop I)))/\ik U w'):=fun U hU=>nK (a'.after hU) _
  rw[tail_drop]at HX;have av:jq ⟨#[59]⟩ (L.drop I)=true->I<L:=pI;generalize jq ⟨#[59]⟩ (L.drop I)=z1 at HY HX av;obtain⟨c0,c1,aT,c3,f2,l0⟩:=a'.fields;obtain⟨b1,b2,b3,b4⟩:=a'.bounds;cases z1
  ·skip
   have aa:=iy (HX.trans (iG (by rfl)));go_wp2_with fail;refine iE kp kp ?_;repeat (go_big_quiet_step ((go_at_call 30;exact mR ((HY _ iR).mono fun e w' h=>⟨h.1,jP _ _ (h:=h.2)⟩))))
   refine wpQuiet_nil ?_;rintro _ ⟨y_,rfl⟩;obtain⟨ab,a6,aM⟩:∃z,World.more w25 y_=z/\ik w25 z:=⟨_,rfl,iR⟩;try rw[a6]
   have a8:=iy (a'.after aM);have R:=im (q:=q) aM;have a_:=ij an R;replace OL:=iy (OL.out.iv qe J (lp J) R);obtain⟨AF,cF,ae,DF⟩:=OL.row (P:=jG) qe (fun b hb=>lp hb) (fun y=>rfl) (by have:=a7.out;omega) (fun W b o y hy hj=>Cq hy hj);have b5:Value.slice A5 (ys+1) c5=.slice AF (ys+1) cF:=by (rw[ae,mo];rfl)
   have aq:=aa;go_wp2;exact jR (v:=.slice A5 (ys+1) c5) (by simp[results,results69,go_sem]) rfl (lN (x:=(ys++[(iO.mk dn dt ⟨dA,dc,dl⟩)]).map iO.er) aq (ij (im aw0) a_) ⟨AF,cF,(ys++[(iO.mk dn dt ⟨dA,dc,dl⟩)]),ae,rfl,by rw[aj];exact DF⟩ a8 rfl ad)
  have aQ:=av rfl;cases ob
  ·skip
   have aa:=iy (HX.trans (iV (by simp)));go_wp2_with fail;refine iE kp kp ?_;repeat (go_big_quiet_step ((go_at_call 30;exact mR ((HY _ iR).mono fun e w' h=>⟨h.1,jP _ _ (h:=h.2)⟩))))
   refine wpQuiet_nil ?_;rintro _ ⟨y_,rfl⟩;obtain⟨ab,a6,aM⟩:∃z,World.more w25 y_=z/\ik w25 z:=⟨_,rfl,iR⟩;try rw[a6]
   have a8:=iy (a'.after aM);have R:=im (q:=q) aM;have a_:=ij an R;obtain⟨c0,c1,aT,c3,f2,l0⟩:=a8.fields;replace OL:=iy (OL.out.iv qe J (lp J) R);obtain⟨aX,ak,ao,aC,al,ai⟩:∃z,ab.setCell (q,2) (.int .i64 ((I:Int)+1))=z/\Hid (Rd B q _ c L en eA ec el z (I+1))/\ik (iz q w0) (iz q z)/\ik (iz q ab) (iz q z)/\n1<=z:=⟨_,rfl,a8.move (j:=I+1) aQ,by rw[jJ];exact a_,by rw[jJ];exact iq _,by rw[jc];exact jW a1 aM.below.size⟩;replace OL:=iy (OL.out.iv qe J (lp J) al);go_wp2_with fail;try rw[ak]
   go_roundw
   case rel=>exact⟨I+1,m,(ys++[(iO.mk dn dt ⟨dA,dc,dl⟩)]),iy (wc ad),a7,aa,ao,aC,ai,OL⟩
   case measure=>(rw[je ao.out.fields.2.2.1,d1.out];have h1:=aw;omega)
  by_cases hj:I+1<L
  ·skip
   have b9:(I:Int)+1<(L:Int):=iu;have aR:¬((L:Int)<=(I:Int)+1):=iu;have bu:=decide_eq_false aR;obtain⟨b,pp,kd,tt,nn,hA,hl,hy,ht,hn,t0,t1,t2⟩:=a'.at_ (j:=I+1) hj;obtain⟨zk,ar⟩:=jt (ju 1 (L.drop (I+1)));have bt:(kd==1)=zk:=by rw[<- ar,oU hy.out];rfl
   rw[ar]at HX;subst hA;cases zk
   ·skip
    have aa:=iy (HX.trans (iG (by rfl)));go_wp2_with fail;refine iE kp kp ?_;repeat (go_big_quiet_step ((go_at_call 30;exact mR ((HY _ iR).mono fun e w' h=>⟨h.1,jP _ _ (h:=h.2)⟩))))
    refine wpQuiet_nil ?_;rintro _ ⟨y_,rfl⟩;obtain⟨ab,a6,aM⟩:∃z,World.more w25 y_=z/\ik w25 z:=⟨_,rfl,iR⟩;try rw[a6]
    have a8:=iy (a'.after aM);have R:=im (q:=q) aM;have a_:=ij an R;replace OL:=iy (OL.out.iv qe J (lp J) R);obtain⟨AF,cF,ae,DF⟩:=OL.row (P:=jG) qe (fun b hb=>lp hb) (fun y=>rfl) (by have:=a7.out;omega) (fun W b o y hy hj=>Cq hy hj);have b5:Value.slice A5 (ys+1) c5=.slice AF (ys+1) cF:=by (rw[ae,mo];rfl)
    have aq:=aa;go_wp2;exact jR (v:=.slice A5 (ys+1) c5) (by simp[results,results69,go_sem]) rfl (lN (x:=(ys++[(iO.mk dn dt ⟨dA,dc,dl⟩)]).map iO.er) aq (ij (im aw0) a_) ⟨AF,cF,(ys++[(iO.mk dn dt ⟨dA,dc,dl⟩)]),ae,rfl,by rw[aj];exact DF⟩ a8 rfl ad)
   have aa:=iy (HX.trans (iV (by simp)));go_wp2_with fail;refine iE kp kp ?_;repeat (go_big_quiet_step ((go_at_call 30;exact mR ((HY _ iR).mono fun e w' h=>⟨h.1,jP _ _ (h:=h.2)⟩))))
   refine wpQuiet_nil ?_;rintro _ ⟨y_,rfl⟩;obtain⟨ab,a6,aM⟩:∃z,World.more w25 y_=z/\ik w25 z:=⟨_,rfl,iR⟩;try rw[a6]
   have a8:=iy (a'.after aM);have R:=im (q:=q) aM;have a_:=ij an R;obtain⟨c0,c1,aT,c3,f2,l0⟩:=a8.fields;replace OL:=iy (OL.out.iv qe J (lp J) R);obtain⟨aX,ak,ao,aC,al,ai⟩:∃z,ab.setCell (q,2) (.int .i64 ((I:Int)+1))=z/\Hid (Rd B q _ c L en eA ec el z (I+1))/\ik (iz q w0) (iz q z)/\ik (iz q ab) (iz q z)/\n1<=z:=⟨_,rfl,a8.move (j:=I+1) aQ,by rw[jJ];exact a_,by rw[jJ];exact iq _,by rw[jc];exact jW a1 aM.below.size⟩;replace OL:=iy (OL.out.iv qe J (lp J) al);go_wp2_with fail;try rw[ak]
   go_roundw
   case rel=>exact⟨I+1,m,(ys++[(iO.mk dn dt ⟨dA,dc,dl⟩)]),iy (wc ad),a7,aa,ao,aC,ai,OL⟩
   case measure=>(rw[je ao.out.fields.2.2.1,d1.out];have h1:=aw;omega)
  have b9:¬((I:Int)+1<(L:Int)):=iu;have aR:(L:Int)<=(I:Int)+1:=iu;have ar:ju 1 (L.drop (I+1))=false:=by rw[Bn iu];rfl
  rw[ar]at HX;have aa:=iy (HX.trans (iG (by rfl)));go_wp2_with fail;refine iE kp kp ?_;repeat (go_big_quiet_step ((go_at_call 30;exact mR ((HY _ iR).mono fun e w' h=>⟨h.1,jP _ _ (h:=h.2)⟩))))
  refine wpQuiet_nil ?_;rintro _ ⟨y_,rfl⟩;obtain⟨ab,a6,aM⟩:∃z,World.more w25 y_=z/\ik w25 z:=⟨_,rfl,iR⟩;try rw[a6]
  have a8:=iy (a'.after aM);have R:=im (q:=q) aM;have a_:=ij an R;replace OL:=iy (OL.out.iv qe J (lp J) R);obtain⟨AF,cF,ae,DF⟩:=OL.row (P:=jG) qe (fun b hb=>lp hb) (fun y=>rfl) (by have:=a7.out;omega) (fun W b o y hy hj=>Cq hy hj);have aq:=aa;go_wp2;exact jR (v:=.slice A5 (ys+1) c5) (by simp[results,results69,go_sem]) rfl (lN (x:=(ys++[(iO.mk dn dt ⟨dA,dc,dl⟩)]).map iO.er) aq (ij (im aw0) a_) ⟨AF,cF,(ys++[(iO.mk dn dt ⟨dA,dc,dl⟩)]),ae,rfl,by rw[aj];exact DF⟩ a8 rfl ad)
 obtain rfl:m=0:=by have:=af.out;omega
 have aF:Hid (X=none):=HX;obtain⟨a,er,rfl,he⟩:=hf;unfold oD;go_wp2;exact⟨rfl,kf aF (ij (im aw0) aU) (jz a er he)⟩
theorem CR (htag:∀u∈el,u.tags.l.length<=16) (hel:el.length<=1000) (h:Rd B q A c L en eA ec el w i):Calls prog 70 #[.pointer q] w (pk B q A c L en eA ec el w i (oG el (L.drop i)) (VL 3 jG iO.er w)):=by
 obtain⟨X,hX⟩:=jt (oG el (L.drop i));rw[hX];obtain⟨R,ab⟩:=jt (i);rw[ab]at hX h⊢;have j:=iy hX.symm;have a8:Hid (R<=R):=js _;have hq:=h.blk.lt;have ad:=h.base;obtain⟨w0,rfl⟩:∃v,v=w:=⟨_,rfl⟩;have aw0:ik w0 w0:=iq _;have R0:=iy h;have a0:ik (iz q w0) (iz q w0):=iq _;have U:q<w0:=by omega
 have af:B.heap.size<=w0:=by omega
 go_in;go_wp2_with fail;have j:Hid (X=if jq ⟨#[118,97,114]⟩ (L.drop R) then (mv el true 256 [] (L.drop R).tail).bind fun (l,r)=>(iF [⟨#[59]⟩] r).bind fun (_,r)=>some (l,r) else some ([],L.drop R)):=j;go_wp2_with fail;refine Dx ⟨#[118,97,114]⟩ R0 j a0 a8 ?_ ?_
 ·clear j;intro w1 R1 j _ a1 o
  go_wp2_with fail;have J:Hid (X=some ([],L.drop R)):=j;exact jR (v:=.slice none 0 0) (by simp[results,results70,go_sem]) rfl (lN (x:=[]) J (ij (im aw0) a1) ⟨none,0,[],rfl,rfl,ir.nil _⟩ R1 rfl o)
 clear j;intro w1 R1 j _ a1 o ag;rw[tail_drop]at j;go_wp2_with fail;refine td (Ac (M:=256) iI true htag hel R1) j a1 o ?_;clear j;intro w2 x2 v2 i2 aa R2 j a7 ai aj a2;obtain⟨A2,c2,l2,rfl,I,D2⟩:=aa;have I:=iy I;have D2:=iy D2;go_wp2_with fail;refine td (jH R2 [⟨#[59]⟩] iI) j a2 a7 ?_;clear j;intro w3 x3 v3 i3 a' R3 j a6 ah ae a3;subst a';go_wp2_with fail;have J:Hid (X=some (x2,L.drop i3)):=j;have a_:w0.heap.size<=w1:=by have h1:=lZ a1;exact h1
 have D3:=(D2.sub ky (iS a_ w2)).below iM (kj (q:=q) U ae).below;exact jR (v:=.slice A2 l2 c2) (by simp[results,results70,go_sem]) rfl (lN (x:=x2) J (ij (im aw0) a3) ⟨A2,c2,l2,rfl,I,D3⟩ R3 rfl a6)
end
end
end Go.Proofs.YtnigblndonocfaaGreatDoor
