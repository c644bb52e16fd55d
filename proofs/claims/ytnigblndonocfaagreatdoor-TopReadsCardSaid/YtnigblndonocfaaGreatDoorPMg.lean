/- A part of the proof. -/
import Derived.Test.YtnigblndonocfaaGreatDoorPMs
set_option linter.unusedVariables false
set_option linter.unusedSimpArgs false
namespace Go.Proofs.YtnigblndonocfaaGreatDoor
set_option maxRecDepth 100000
set_option maxHeartbeats 6400000
open Go.Proofs.Tryz
open Go.RowKit Go.BigFrame
section
section
variable {B:World} {q:Nat} {A:Option Addr} {c:Nat} {L:List Tk} {en:Int} {eA:Option Addr} {ec:Nat} {el:List iW} {w w0 w1:World} {i:Nat}
def Q_ (el:List iW) (k:Nat) (s:ByteArray) (ts:List Tk):Option (Ex×List Tk):=(iF [⟨#[40]⟩] ts).bind fun (_,r)=>if lk el 0 (if jq ⟨#[116,114,117,101]⟩ r then 1 else 0) false r then (l_ el r).bind fun (tv,r)=>(iF [⟨#[45,62]⟩] r).bind fun (_,r)=>(jg el k r).bind fun (x,r)=>(iF [⟨#[41]⟩] r).bind fun (_,r)=>we el k s tv.1 (jV el tv.1) [x] r else none
def Cv (t:Int) (l:List Ex) (ys:List Tx):Prop:=∀j x,l[j]?=some x->∃y:Tx,ys[if t=1 then 1-j else j]?=some y/\y.er=x
theorem Cv.done {t:Int} {l:List Ex} {ys:List Tx} (h:Cv t l ys) (hl:l.length=ys.length) (h2:t=1->ys.length=2):ys.map Tx.er=if t=1 then l.reverse else l:=by
 by_cases o:t=1
 ·rw[iG o]
  have h2:=h2 o
  match ys,l,h2,hl with
  |[y0,y1],[x0,x1],_,_=>
  obtain⟨a,J,rfl⟩:=h 0 x0 rfl;obtain⟨b,I,rfl⟩:=h 1 x1 rfl;rw[iG o]at J I;simp at J I;subst J I;rfl
 rw[iV o];apply List.ext_getElem?;intro j;rw[JL];cases hx:l[j]? with
 |none=>
  rw[List.getElem?_eq_none_iff]at hx;rw[LH iu];rfl
 |some x=>
 obtain⟨y,R,U⟩:=h j x hx;rw[iV o]at R;rw[R,Option.map_some,U]
theorem Cv.add {t:Int} {l:List Ex} {ys:List Tx} {k wn:Nat} {x:Ex} {y:Tx} (h:Cv t l ys) (hk:l.length=k) (hw:wn=if t=1 then 1-k else k) (hlt:wn<ys.length) (h2:t=1->k<=1) (hy:y.er=x):Cv t (l++[x]) (ys.set wn y):=by
 intro j z o;rcases Nat.lt_trichotomy j k with R | R | R
 ·rw[wk iu]at o
  obtain⟨u,U,hr⟩:=h j z o;refine⟨u,?_,hr⟩;have J:wn≠if t=1 then 1-j else j:=by
   by_cases I:t=1
   ·have:=h2 I
    rw[iG I]at hw⊢;omega
   rw[iV I]at hw⊢;omega
  rw[List.getElem?_set_ne J];exact U
 ·subst R
  rw[xK iu,hk,Nat.sub_self]at o;simp at o;refine⟨y,?_,hy.trans o⟩;rw[<- hw,List.getElem?_set_self hlt]
 rw[LH (by rw[mo];simp;omega)]at o;cases o
theorem DJ {s:ByteArray}:∀{l:List iW} {j:Nat} {t v:Int},AB s l j=some (t,v)->∃(i:Nat) (u:iW),l[i]?=some u/\t=3+(((j+i:Nat)):Int)/\0<=v/\v=Lib.idxOfS u.tags.l s
 |[],j,t,v,h=>by cases h
 |u::l,j,t,v,h=>by
  rw[AB]at h;by_cases hc:0<=Lib.idxOfS u.tags.l s
  ·rw[iG hc]at h
   injection h with h
   injection h with h1 h2
   exact⟨0,u,rfl,by rw[<- h1];simp,by rw[<- h2];exact hc,h2.symm⟩
  rw[iV hc]at h;obtain⟨i,u',h1,h2,h3,h4⟩:=DJ h;exact⟨i+1,u',h1,by rw[h2];omega,h3,h4⟩
theorem Eh {s:ByteArray} {el:List iW} {t v:Int} (htag:∀u∈el,u.tags.l.length<=16) (h:qh el s=some (t,v)):3<=t/\t<3+el.length/\1<=jV el t/\jV el t<=16:=by
 obtain⟨i,u,j,h2,U,R⟩:=DJ h;have J:=(rq.1 j).1;have I:=DX u.tags.l s;have o:=htag u (om j);have e:jV el t=u.tags.l.length:=by
  unfold jV;rw[iV (by omega),iV (by omega),iG (by omega),show (t-3).toNat=i by omega,j]
 rw[e];refine⟨by omega,by omega,?_,o⟩;omega
theorem vu {el:List iW} {ts r:List Tk} {t v:Int} (htag:∀u∈el,u.tags.l.length<=16) (h:l_ el ts=some ((t,v),r)):1<=t/\t<3+el.length/\1<=jV el t/\jV el t<=16/\(t=1->jV el t=2)/\(jq ⟨#[116,114,117,101]⟩ ts=true->t=1)/\(jq ⟨#[116,114,117,101]⟩ ts=false->jq ⟨#[102,97,108,115,101]⟩ ts=false->t≠1):=by
 unfold l_ at h;cases h1:jq ⟨#[116,114,117,101]⟩ ts with
 |true=>
  rw[h1,iG rfl]at h;injection h with h
  injection h with h h3
  injection h with h h4
  subst h;exact⟨iI,iu,(by show (1:Nat)<=2;decide),(by show (2:Nat)<=16;decide),fun _=>rfl,fun _=>rfl,fun e=>by cases e⟩
 |false=>
 rw[h1,iV iI]at h;cases h2:jq ⟨#[102,97,108,115,101]⟩ ts with
 |true=>
  rw[h2,iG rfl]at h;injection h with h
  injection h with h h3
  injection h with h h4
  subst h;exact⟨iI,iu,(by show (1:Nat)<=2;decide),(by show (2:Nat)<=16;decide),fun _=>rfl,(fun e=>by cases e),fun _ e=>by cases e⟩
 |false=>
 rw[h2,iV iI]at h;cases hi:pV ts with
 |none=>rw[hi]at h;cases h
 |some p=>
 obtain⟨s,J⟩:=p;rw[hi]at h;simp only[]at h;cases ht:qh el s with
 |none=>rw[ht]at h;cases h
 |some tv=>
 rw[ht]at h;injection h with h
 injection h with h h3
 subst h;obtain⟨R,I,o,j⟩:=Eh htag ht;exact⟨iu,I,o,j,fun e=>by omega,(fun e=>by cases e),fun _ _=>by omega⟩
theorem lT {s:ByteArray} {ts:List Tk} (h:jq s ts=true):ts.length=ts.tail.length+1:=by
 cases ts with
 |nil=>cases h
 |cons t l=>rfl
theorem rW {el:List iW} {ts r:List Tk} {tv:Int×Int} (h:l_ el ts=some (tv,r)):ts.length=r.length+1:=by
 unfold l_ at h;cases h1:jq ⟨#[116,114,117,101]⟩ ts with
 |true=>
  rw[h1,iG rfl]at h;injection h with h
  injection h with h h3
  rw[<- h3];exact lT h1
 |false=>
 rw[h1,iV iI]at h;cases h2:jq ⟨#[102,97,108,115,101]⟩ ts with
 |true=>
  rw[h2,iG rfl]at h;injection h with h
  injection h with h h3
  rw[<- h3];exact lT h2
 |false=>
 rw[h2,iV iI]at h;cases hi:pV ts with
 |none=>rw[hi]at h;cases h
 |some p=>
 obtain⟨s,j⟩:=p;rw[hi]at h;simp only[]at h;cases ht:qh el s with
 |none=>rw[ht]at h;cases h
 |some tv=>
 rw[ht]at h;injection h with h
 injection h with h h3
 subst h3;exact mm hi
theorem Sg {i0 i2 i21 i24 i29 i9 i31 len k:Nat} (h1:i0<i2) (h2:i2<=i21) (h3:i21<i24) (h4:i24<=i29) (h5:i29<=i9) (h6:i9<=i31) (h7:i31<=len) (hk:20*(len-i0)+1<=k+1):i0<i31/\20*(len-i31)+10<=k/\len-i31<len-i2:=iu
theorem RN {i0 i2 i21 i24 i29 i9 i31 len k:Nat} (h1:i0<i2) (h2:i2<=i21) (h3:i21<i24) (h4:i24<=i29) (h5:i29<=i9) (h6:i9<=i31) (h7:i31<=len) (hk:20*(len-i2)+10<=k+1):i0<i31/\20*(len-i31)+10<=k/\len-i31<len-i2:=iu
theorem Sl {t:Int} {n:Nat} (h1:1<=t) (h2:t<3+(n:Int)) (h3:n<=1000):0<=t/\t<=2000:=iu
structure MB (el:List iW) (k:Nat) (X:Option (Ex×List Tk)) (s:ByteArray) (ra n0:Nat) (ts:List Tk) (w:World) (m n g kk:Nat) (t:Int) (l:List Ex) (ys:List Tx):Prop where
 len:l.length=kk
 yn:ys.length=n
 bo:t=1->n=2
 co:Cv t l ys
 x:X=we el m s t n l ts
 rb:iP w ra 73 #[.int .i64 9,.int .i64 0,t,.int .i64 0,s,.slice (some g) n n]
 rg:pR w g ys
 da:∀y∈ys,RX (kK (fun b=>decide (b<n0)||b==ra||b==g) w) y
theorem IT {k:Nat} (htag:∀u∈el,u.tags.l.length<=16) (hel:el.length<=1000) (C:∀j≤k,CX B q A c L en eA ec el j) (h:Rd B q A c L en eA ec el w i) (hk:20*(L.length-i)+1<=k+1):Calls prog 178 #[.pointer (some q)] w (pk B q A c L en eA ec el w i (tI el (k+1) (L.drop i)) (VX w.heap.size)):=by
 obtain⟨X,hX⟩:∃X,tI el (k+1) (L.drop i)=X:=⟨_,rfl⟩;rw[hX];obtain⟨i0,db⟩:∃j,i=j:=⟨_,rfl⟩;rw[db]at hX h hk⊢;clear db;have o:=iB hX.symm;have dt:Hid (i0<=i0):=js _;clear hX;have hq:=h.blk.lt;have dy:=h.base;obtain⟨r,hr⟩:∃r,w.heap.size=r:=⟨_,rfl⟩;have cE:r≠q:=by omega
 have dU:q<r:=by omega
 obtain⟨w0,dv,aw0,B0,R0,s0⟩:=Ls h hr cE #[.int .i64 0,.int .i64 0,.int .i64 0,.int .i64 0,.string ⟨#[]⟩,.slice none 0 0] 73;have HB:=iB B0;have a0:ik (iz q w0) (iz q w0):=iq _;clear h B0;go_in;go_wp2_with fail;try rw[hr]
 try rw[dv]
 have o:Hid (X=(pV (L.drop i0)).bind fun (s,r)=>Q_ el k s r):=o;go_wp2_with fail;refine BC (qb R0) o a0 dt ?_;clear o;intro w1 x1 v1 i1 dA dw R1 o dS dX dZ a1;obtain⟨rfl,dx⟩:=dw;have o:Hid (X=Q_ el k x1 (L.drop i1)):=o;have dC:=iB dx;obtain⟨ra,cY⟩:∃ra,w1.heap.size=ra:=⟨_,rfl⟩;have dY:r<ra:=by have:=lZ a1;omega
 have a_:ra≠q:=by omega
 have ct:w0.heap.size<=ra:=by have:=lZ a1;omega
 have bT:q<w0.heap.size:=by omega
 obtain⟨w2,cT,BA,R2,a2,l2⟩:∃v,w1.alloc (.cells #[.int .i64 9,.int .i64 0,.int .i64 0,.int .i64 0,x1,.slice none 0 0] 73)=v/\Hid (iP v ra 73 #[.int .i64 9,.int .i64 0,.int .i64 0,.int .i64 0,x1,.slice none 0 0])/\Hid (Rd B q A c L en eA ec el v i1)/\ik (iz q w0) (iz q v)/\ra<v.heap.size:=⟨_,rfl,by rw[<- cY];exact jC ..,R1.after inferInstance,ij a1 (im inferInstance),by rw[iH];omega⟩;have d_:i0<i1:=by have h1:=mm dA;rw[nY,nY]at h1;have:=R1.le;omega
 clear R1;have cS:=iB cT;clear cT;go_wp2_with fail;try rw[cY]
 try rw[cS.out]
 go_loopw [4,5] (fun v4 v5 wr=>∃i':Nat,Hid (i0<i')/\Hid (Rd B q A c L en eA ec el wr i')/\ik (iz q w0) (iz q wr)/\((v4=.int .i64 1/\v5=.int .i64 0/\Hid (X=Q_ el k x1 (L.drop i'))/\Hid (iP wr ra 73 #[.int .i64 9,.int .i64 0,.int .i64 0,.int .i64 0,x1,.slice none 0 0]))\/∃(m n g kk:Nat) (t:Int) (l:List Ex) (ys:List Tx),v4=.int .i64 (n:Nat)/\v5=.int .i64 (kk:Nat)/\kk<=n/\n<=16/\1<=kk/\0<=t/\t<=2000/\m<=k/\20*(L.length-i')+10<=m/\ra<g/\g<wr.heap.size/\Hid (MB el k X x1 ra w0.heap.size (L.drop i') wr m n g kk t l ys))) (fun _ _ wr=>L.length-lO wr q 2)
 case atStart=>exact⟨i1,iB d_,R2,a2,.inl ⟨rfl,rfl,o,BA⟩⟩
 case round=>
 clear o BA R2 l2;obtain⟨i2,bg,cy,cx,cF⟩:=hrel;have c4:Hid (i0<=i2):=iB (CQ bg);have d1:Hid (lO wr q 2=i2):=iB (je cy.fields.2.2.1);rcases cF with⟨rfl,rfl,o,BA⟩ | ⟨m,n,g,kk,t,l,ys,rfl,rfl,hkn,hn16,hk1,ht0,ht1,hmk,hfu,bV,hgs,HM⟩
 ·skip
  have o:Hid (X=(iF [⟨#[40]⟩] (L.drop i2)).bind fun (_,r)=>if lk el 0 (if jq ⟨#[116,114,117,101]⟩ r then 1 else 0) false r then (l_ el r).bind fun (tv,r)=>(iF [⟨#[45,62]⟩] r).bind fun (_,r)=>(jg el k r).bind fun (x,r)=>(iF [⟨#[41]⟩] r).bind fun (_,r)=>we el k x1 tv.1 (jV el tv.1) [x] r else none):=o;go_wp2_with fail;refine BC (jH cy [⟨#[40]⟩] (by decide)) o cx c4 ?_;clear o;intro aG dj ds a7 dL cd bj o bR aA b4 cw;subst cd;have o:Hid (X=if lk el 0 (if jq ⟨#[116,114,117,101]⟩ (L.drop a7) then 1 else 0) false (L.drop a7) then (l_ el (L.drop a7)).bind fun (tv,r)=>(iF [⟨#[45,62]⟩] r).bind fun (_,r)=>(jg el k r).bind fun (x,r)=>(iF [⟨#[41]⟩] r).bind fun (_,r)=>we el k x1 tv.1 (jV el tv.1) [x] r else none):=o;have bS:iP aG ra 73 #[.int .i64 9,.int .i64 0,.int .i64 0,.int .i64 0,x1,.slice none 0 0]:=kq BA a_ b4;obtain⟨m0,m1,m2,m3,m4,m5⟩:=oN bS;have ml:=jo bS;obtain⟨an,al,ak,aj,ai,ah⟩:=jU bS;obtain⟨c0,c1,bp,c3,f2,l0⟩:=bj.fields;have HC:=iB (nK bj ⟨#[116,114,117,101]⟩);obtain⟨z,hz⟩:∃z,jq ⟨#[116,114,117,101]⟩ (L.drop a7)=z:=⟨_,rfl⟩;rw[hz]at HC o;have HZ:=iB hz;clear hz;go_wp2_with fail;refine HC.out.mono ?_;clear HC;rintro e aJ ⟨rfl,aN⟩;have br:=iB (bj.after aN);have b3:ik (iz q aG) (iz q aJ):=im aN;have bq:=ij cw b3;have bd:=bR;have bt:iP aJ ra 73 #[.int .i64 9,.int .i64 0,.int .i64 0,.int .i64 0,x1,.slice none 0 0]:=mZ (w:=aG) (k:=aN) bS;clear aN m0 m1 m2 m3 m4 m5 ml an al ak aj ai ah c0 c1 bp c3 f2 l0
  obtain⟨m0,m1,m2,m3,m4,m5⟩:=oN bt;have ml:=jo bt;obtain⟨an,al,ak,aj,ai,ah⟩:=jU bt;cases z
  ·skip
   have o:Hid (X=if lk el 0 0 false (L.drop a7) then (l_ el (L.drop a7)).bind fun (tv,r)=>(iF [⟨#[45,62]⟩] r).bind fun (_,r)=>(jg el k r).bind fun (x,r)=>(iF [⟨#[41]⟩] r).bind fun (_,r)=>we el k x1 tv.1 (jV el tv.1) [x] r else none):=o;have HC:Hid (Calls prog 188 #[.pointer (some q),.int .i64 (0),.int .i64 (0),.bool false] aJ (BZ aJ (lk el 0 0 false (L.drop a7)))):=vt br _ _ _;generalize bo:lk el 0 0 false (L.drop a7)=zw at HC o;go_wp2_with fail;refine HC.out.mono ?_;clear HC;rintro e aF ⟨aW,hW⟩;have b':=iB (br.after aW);have aB:ik (iz q aJ) (iz q aF):=im aW;have b6:=ij bq aB;have aL:=bd;clear aW;cases zw with
   |false=>
    have o:=iB (o.trans (iV yE));obtain⟨a,er,rfl,he⟩:Fl e:=by rcases hW with⟨h1,_⟩ | ⟨_,h2⟩;cases h1;exact h2
    unfold oD;go_wp2;exact⟨rfl,kf o (ij (im aw0) b6) (jz a er he)⟩
   |true=>
   have o:=iB (o.trans (iG rfl));obtain rfl:e=.returned (.tuple #[]):=by rcases hW with⟨_,h2⟩ | ⟨h1,_⟩;exact h2;cases h1
   clear hW;go_wp2_with fail;refine BC (wy b') o b6 aL ?_;clear o;intro R bW cB i24 be aU ay o aK az aq av;subst aU;have af:a7<i24:=by have h1:=rW be;rw[nY,nY]at h1;have:=ay.le;omega
   obtain⟨t,cC⟩:=bW;obtain⟨g1,g2,g3,g4,g5,g6,g7⟩:=vu htag be;have bk:t≠1:=g7 HZ (by have h1:=bo;unfold lk at h1;rw[HZ.out]at h1;cases h2:jq ⟨#[102,97,108,115,101]⟩ (L.drop a7) with | false=>rfl | true=>(rw[h2]at h1;simp at h1));have cr:=iB bk;clear bk;have dd:=iB bo;clear g6 g7 bo;simp only[];have o:Hid (X=(iF [⟨#[45,62]⟩] (L.drop i24)).bind fun (_,r)=>(jg el k r).bind fun (x,r)=>(iF [⟨#[41]⟩] r).bind fun (_,r)=>we el k x1 t (jV el t) [x] r):=o;have cq:iP R ra 73 #[.int .i64 9,.int .i64 0,.int .i64 0,.int .i64 0,x1,.slice none 0 0]:=kq bt a_ (ij aB aq);clear m0 m1 m2 m3 m4 m5 ml an al ak aj ai ah;obtain⟨c0,c1,bp,c3,f2,l0⟩:=ay.fields;have HC:Hid (Calls prog 120 #[.slice eA el.length ec,t] R fun e w'=>e=.returned (.int .i64 (jV el t:Nat))/\ik R w'):=uS (w0:=R) (x:=⟨eA,ec,el⟩) ay.enums R (iq _) t (by omega);generalize jV el t=n at HC o g3 g4 g5;have g5:=iB g5;go_wp2_with fail;refine HC.out.mono ?_;clear HC;rintro e bu ⟨rfl,b5⟩;have aD:iP bu ra 73 #[.int .i64 9,.int .i64 0,.int .i64 0,.int .i64 0,x1,.slice none 0 0]:=mZ (w:=R) (k:=b5) cq;obtain⟨ae,c_,b_,bM,bs⟩:∃v,bu.setCell ⟨ra,2,none⟩ (.int .i64 t)=v/\Hid (Rd B q A c L en eA ec el v i24)/\ik (iz q w0) (iz q v)/\iP v ra 73 #[.int .i64 9,.int .i64 0,t,.int .i64 0,x1,.slice none 0 0]:=by
    have ag:=ay.after b5;have hn:uD (iz q w0) ra:=ko ct;have bh:uD B ra:=⟨by omega⟩;exact⟨_,rfl,⟨ag.blk.qU (p:=⟨ra,2,none⟩) (ls a_) _,iJ (h:=ag.aft) _ _,ag.le,ag.tk,ag.ens,ag.few,ag.num⟩,iJ (h:=tD av b5) _ _,aD.jx 2 (.int .i64 t)⟩
   clear c0 c1 bp c3 f2 l0;obtain⟨m0,m1,m2,m3,m4,m5⟩:=oN aD;have ml:=jo aD;obtain⟨an,al,ak,aj,ai,ah⟩:=jU aD;obtain⟨cD,aY,aR,aQ,aP⟩:=info_parts qs;have aY:=iB aY;have aR:=iB aR;have aQ:=iB aQ;have aP:=iB aP;go_wp2_with fail;try rw[c_]
   obtain⟨w27,bm,aV,aI⟩:=run_make_full (P:=prog) ae ae.heap.size 63 73 cD _ 6 underlying63 aY aR aQ .i64 .i64 n (by rw[aP.out];omega) (by unfold maxLen;omega) (js _);rw[bm];clear bm;simp only[Result.andThen];rw[Oper.upon_value];obtain⟨g,hg⟩:∃g,ae.heap.size=g:=⟨_,rfl⟩;rw[hg]at aV⊢;have cm:=pR.KT rfl aV;have bL:ik ae w27:=⟨aI.os,aI.tape,aI.output,aI.size,fun k hk=>aI.block k hk (by simp)⟩;have bV:ra<g:=by have:=bs.lt;omega
   have aC:=mZ (w:=ae) (k:=bL) bs;obtain⟨dm,cR,cM,cJ,RB,RG,DA⟩:∃v,w27.setCell ⟨ra,5,none⟩ (.slice (some g) n n)=v/\Hid (Rd B q A c L en eA ec el v i24)/\ik (iz q w0) (iz q v)/\Hid (iP v ra 73 #[.int .i64 9,.int .i64 0,t,.int .i64 0,x1,.slice (some g) n n])/\Hid (pR v g (List.replicate n oE))/\Hid (∀y∈List.replicate n oE,RX (kK (fun b=>decide (b<w0.heap.size)||b==ra||b==g) v) y):=by
    have ax:=b_.after bL;have hn:uD (iz q w0) ra:=ko ct;have bh:uD B ra:=⟨by omega⟩;exact⟨_,rfl,⟨ax.blk.qU (p:=⟨ra,5,none⟩) (ls a_) _,iJ (h:=ax.aft) _ _,ax.le,ax.tk,ax.ens,ax.few,ax.num⟩,iJ (h:=tD bM bL) _ _,aC.jx 5 (.slice (some g) n n),tV cm (p:=⟨ra,5,none⟩) (by show g≠ra;omega) _,fun y hy=>by rw[List.eq_of_mem_replicate hy];exact yS 0 0 0 0 ⟨#[]⟩ (by decide)⟩
   have aH:Hid ((List.replicate n oE).length=n):=IV;have bZ:=aK;clear m0 m1 m2 m3 m4 m5 ml an al ak aj ai ah aI aV cm;obtain⟨m0,m1,m2,m3,m4,m5⟩:=oN aC;have ml:=jo aC;obtain⟨an,al,ak,aj,ai,ah⟩:=jU aC;have cn:=RB.out;have dF:=(uJ cn 2).trans rfl;have dE:=jo cn;have ao:0<n:=by omega
   go_wp2_with fail;refine BC (jH cM [⟨#[45,62]⟩] (by decide)) o cJ bZ ?_;clear o;intro ad dh dp aO dJ ca cp o bY bn b1 bK;subst ca;have o:Hid (X=(jg el k (L.drop aO)).bind fun (x,r)=>(iF [⟨#[41]⟩] r).bind fun (_,r)=>we el k x1 (t) n (([]:List Ex)++[x]) r):=o;have au:(fun b=>decide (b<w0.heap.size)||b==ra||b==g) q=true:=by simp[bT]
   have a':iP ad ra 73 #[.int .i64 9,.int .i64 0,.int .i64 (t),.int .i64 0,x1,.slice (some g) n n]:=kq RB a_ b1;have I:g≠q:=by omega
   have aw:pR ad g ((List.replicate n oE)):=kq RG I b1;have bb:Hid (∀y∈(List.replicate n oE),RX (kK (fun b=>decide (b<w0.heap.size)||b==ra||b==g) ad) y):=iB fun y hy=>(DA y hy).below (j_ (q:=q) au b1).below
   have HK:Hid (∀U,ik (iz q ad) (iz q U)->U.cell? ⟨ra,5,none⟩=some (.slice (some g) n n)):=fun U hU=>((kq a' a_ hU).cell 5).trans rfl
   have HC:Hid (∀U,ik ad U->Calls prog 71 #[.pointer (some q)] U (pk B q A c L en eA ec el U aO (jg el k (L.drop aO)) (VX U.heap.size))):=fun U hU=>(C k (js k)).e U aO (cp.after hU) (by have h1:=bg.out;have h2:=aA;have h3:=az;have h4:=bn;have h7:=cp.le;omega)
   generalize cG:jg el k (L.drop aO)=Y at HC o;have bG:g<ad.heap.size:=aw.lt;have c8:((0:Nat):Int)<((n:Nat):Int):=by omega
   have cz:(0:Int)<((n:Nat):Int):=by omega
   go_wp2_with fail;refine jm (fun U:World=>U.cell? ⟨ra,5,none⟩=some (.slice (some g) n n)) [5,6] (by kernel_rfl) ?_;have aa:(fun U:World=>U.cell? ⟨ra,5,none⟩=some (.slice (some g) n n)) ad.drew:=HK _ inferInstance;refine wT 0 [1,5,6] (.pointer (some ⟨ra,5,none⟩)) aa ?_;try simp only[Act.put,oF,oB,oq]
   refine wT 1 [5,6] (.slice (some g) n n) aa ?_;try simp only[Act.put,oF,oB,oq]
   refine wT 2 [5,6] (.int .i64 (0:Nat)) aa ?_;try simp only[Act.put,oF,oB,oq]
   refine wT 3 [4,5,6] (.pointer (some q)) aa ?_;try simp only[Act.put,oF,oB,oq]
   clear aa;refine lH 4 ?_;go_simp;go_at_call 71;refine (HC _ inferInstance).mono ?_;clear HC;rintro e w9 ⟨aZ,hY⟩;have aM:ik (iz q ad) (iz q w9):=ij (im inferInstance) aZ;clear aZ;cases Y with
   |none=>
    obtain⟨a,er,rfl,he⟩:=hY;unfold oD;exact⟨rfl,kf o (ij (im aw0) (ij bK aM)) (jz a er he)⟩
   |some y=>
   obtain⟨x9,r9⟩:=y;obtain⟨v9,i9,rfl,bE,R9,bF,aX⟩:=hY;subst bF;obtain⟨⟨k9,o9,t9,z9,s9,A9,c9,a6⟩,aS,rfl,D9⟩:=bE;rw[JQ k9 o9 t9 z9 s9 A9 c9 a6]
   (first | refine⟨HK _ aM,?_⟩ | refine⟨fun _=>HK _ aM,?_⟩)
   have ab:iP w9 ra 73 #[.int .i64 9,.int .i64 0,.int .i64 (t),.int .i64 0,x1,.slice (some g) n n]:=kq a' a_ aM;have J:pR w9 g ((List.replicate n oE)):=kq aw I aM;have aT:0<((List.replicate n oE)).length:=by rw[aH.out];exact ao
   obtain⟨y0,q0,q1,q2,q3,q4,q5⟩:=J.cells aT;have bC:=nL J (0*6);have bB:=nL J (0*6+1);have bA:=nL J (0*6+2);have bz:=nL J (0*6+3);have bx:=nL J (0*6+4);have bw:=nL J (0*6+5);have ql:=jo J;obtain⟨dk,hW,b8,b9,cL,cI,ba⟩:∃v,(((((w9.setCell ⟨g,0*6,none⟩ (.int .i64 k9)).setCell ⟨g,0*6+1,none⟩ (.int .i64 o9)).setCell ⟨g,0*6+2,none⟩ (.int .i64 t9)).setCell ⟨g,0*6+3,none⟩ (.int .i64 z9)).setCell ⟨g,0*6+4,none⟩ (.string s9)).setCell ⟨g,0*6+5,none⟩ (.slice A9 a6.length c9)=v/\Hid (pR v g (((List.replicate n oE)).set 0 (.mk k9 o9 t9 z9 s9 A9 c9 a6)))/\Hid (iP v ra 73 #[.int .i64 9,.int .i64 0,.int .i64 (t),.int .i64 0,x1,.slice (some g) n n])/\Hid (Rd B q A c L en eA ec el v i9)/\ik (iz q w0) (iz q v)/\Hid (∀y∈((List.replicate n oE)).set 0 (.mk k9 o9 t9 z9 s9 A9 c9 a6),RX (kK (fun b=>decide (b<w0.heap.size)||b==ra||b==g) v) y):=by
    have a8:ra≠g:=by omega
    have ch:g≠q:=I;have hn:uD (iz q w0) g:=ko (by omega);have bh:uD B g:=⟨by omega⟩;have bI:(fun b=>decide (b<w0.heap.size)||b==ra||b==g) g=true:=by simp
    have F:∀{u:World} {b:Nat} {T:TypeId} {cs:Array Value} (hb:b≠g) (j:Nat) (v:Value),iP u b T cs->iP (u.setCell ⟨g,j,none⟩ v) b T cs:=fun hb j v h=>h.qU (p:=⟨g,j,none⟩) hb v
    refine⟨_,rfl,J.store aT (.mk k9 o9 t9 z9 s9 A9 c9 a6),F a8 _ _ (F a8 _ _ (F a8 _ _ (F a8 _ _ (F a8 _ _ (F a8 _ _ ab))))),⟨F (ls I) _ _ (F (ls I) _ _ (F (ls I) _ _ (F (ls I) _ _ (F (ls I) _ _ (F (ls I) _ _ R9.blk))))),?_,R9.le,R9.tk,R9.ens,R9.few,R9.num⟩,?_,fun y hy=>?_⟩
    ·exact iJ (h:=iJ (h:=iJ (h:=iJ (h:=iJ (h:=iJ (h:=R9.aft) _ _) _ _) _ _) _ _) _ _) _ _
    ·exact iJ (h:=iJ (h:=iJ (h:=iJ (h:=iJ (h:=iJ (h:=ij bK aM) _ _) _ _) _ _) _ _) _ _) _ _
    refine RX.below (zn (S:=(fun b=>decide (b<w0.heap.size)||b==ra||b==g)) (r:=g) (i:=0*6) bI w9 _ _ _ _ _ _).below ?_;rcases Lj hy with hy | rfl
    ·exact (bb y hy).below (j_ (q:=q) au aM).below
    exact D9.sub (nO w9 fun b hb=>by (simp only[uG,decide_eq_true_eq,beq_iff_eq]at hb;show b<ad.drew.heap.size;have h1:=bG;have h2:=lZ bK;show b<ad.heap.size;omega))
   have bX:Hid (i0<=i9):=iB (jW bY aX);refine lH 5 ?_;go_simp;try refine kL ?_
   refine lH 6 ?_;go_simp;try refine kL ?_
   try rw[hW]
   refine iT (by kernel_rfl) ?_ _;clear q0 q1 q2 q3 q4 q5 bC bB bA bz bx bw ql hW J ab R9 D9 aw a' bb HK aM;have bD:=iB aS;clear aS;have o:Hid (X=(iF [⟨#[41]⟩] (L.drop i9)).bind fun (_,r)=>we el k x1 (t) n (([]:List Ex)++[x9]) r):=o;go_wp2_with fail;refine BC (jH cL [⟨#[41]⟩] (by decide)) o cI bX ?_;clear o;intro bf df dn c5 dI c' bO o cP cf b0 cH;subst c';have bN:iP bf ra 73 #[.int .i64 9,.int .i64 0,.int .i64 (t),.int .i64 0,x1,.slice (some g) n n]:=kq b9 a_ b0;have b7:pR bf g (((List.replicate n oE)).set 0 (.mk k9 o9 t9 z9 s9 A9 c9 a6)):=kq b8 I b0;have bQ:∀y∈((List.replicate n oE)).set 0 (.mk k9 o9 t9 z9 s9 A9 c9 a6),RX (kK (fun b=>decide (b<w0.heap.size)||b==ra||b==g) bf) y:=fun y hy=>(ba y hy).below (j_ (q:=q) au b0).below
   have o:Hid (X=we el k x1 (t) n (([]:List Ex)++[x9]) (L.drop c5)):=o;have bJ:g<bf.heap.size:=b7.lt;clear b9 b8 ba;have hA:=Sg bg aA af bn aX cf bO.le hk;have hT:=Sl g1 g2 hel;go_wp2;go_roundw
   case rel=>exact⟨c5,iB hA.1,bO,cH,.inr ⟨k,n,g,1,t,[]++[x9],(List.replicate n oE).set 0 (.mk k9 o9 t9 z9 s9 A9 c9 a6),rfl,rfl,g3,g4,js 1,hT.1,hT.2,js k,hA.2.1,bV,bJ,⟨rfl,(Gh ..).trans (IV ..),g5,Cv.add (k:=0) (fun j x hx=>by cases hx) rfl ((iV cr).symm) (by rw[IV];exact ao) (fun _=>wB 1) bD,o,bN,b7,bQ⟩⟩⟩
   case measure=>(rw[je bO.out.fields.2.2.1,d1.out];exact hA.2.2)
  have o:Hid (X=if lk el 0 1 false (L.drop a7) then (l_ el (L.drop a7)).bind fun (tv,r)=>(iF [⟨#[45,62]⟩] r).bind fun (_,r)=>(jg el k r).bind fun (x,r)=>(iF [⟨#[41]⟩] r).bind fun (_,r)=>we el k x1 tv.1 (jV el tv.1) [x] r else none):=o;have HC:Hid (Calls prog 188 #[.pointer (some q),.int .i64 (0),.int .i64 (1),.bool false] aJ (BZ aJ (lk el 0 1 false (L.drop a7)))):=vt br _ _ _;generalize bo:lk el 0 1 false (L.drop a7)=zw at HC o;go_wp2_with fail;refine HC.out.mono ?_;clear HC;rintro e aF ⟨aW,hW⟩;have b':=iB (br.after aW);have aB:ik (iz q aJ) (iz q aF):=im aW;have b6:=ij bq aB;have aL:=bd;clear aW;cases zw with
  |false=>
   have o:=iB (o.trans (iV yE));obtain⟨a,er,rfl,he⟩:Fl e:=by rcases hW with⟨h1,_⟩ | ⟨_,h2⟩;cases h1;exact h2
   unfold oD;go_wp2;exact⟨rfl,kf o (ij (im aw0) b6) (jz a er he)⟩
  |true=>
  have o:=iB (o.trans (iG rfl));obtain rfl:e=.returned (.tuple #[]):=by rcases hW with⟨_,h2⟩ | ⟨h1,_⟩;exact h2;cases h1
  clear hW;go_wp2_with fail;refine BC (wy b') o b6 aL ?_;clear o;intro R bW cB i24 be aU ay o aK az aq av;subst aU;have af:a7<i24:=by have h1:=rW be;rw[nY,nY]at h1;have:=ay.le;omega
  obtain⟨t,cC⟩:=bW;obtain⟨g1,g2,g3,g4,g5,g6,g7⟩:=vu htag be;have bk:t=1:=g6 HZ;have cr:=iB bk;clear bk;have dd:=iB bo;clear g6 g7 bo;simp only[];have o:Hid (X=(iF [⟨#[45,62]⟩] (L.drop i24)).bind fun (_,r)=>(jg el k r).bind fun (x,r)=>(iF [⟨#[41]⟩] r).bind fun (_,r)=>we el k x1 t (jV el t) [x] r):=o;have cq:iP R ra 73 #[.int .i64 9,.int .i64 0,.int .i64 0,.int .i64 0,x1,.slice none 0 0]:=kq bt a_ (ij aB aq);clear m0 m1 m2 m3 m4 m5 ml an al ak aj ai ah;obtain⟨c0,c1,bp,c3,f2,l0⟩:=ay.fields;have HC:Hid (Calls prog 120 #[.slice eA el.length ec,t] R fun e w'=>e=.returned (.int .i64 (jV el t:Nat))/\ik R w'):=uS (w0:=R) (x:=⟨eA,ec,el⟩) ay.enums R (iq _) t (by omega);generalize jV el t=n at HC o g3 g4 g5;have g5:=iB g5;go_wp2_with fail;refine HC.out.mono ?_;clear HC;rintro e bu ⟨rfl,b5⟩;have aD:iP bu ra 73 #[.int .i64 9,.int .i64 0,.int .i64 0,.int .i64 0,x1,.slice none 0 0]:=mZ (w:=R) (k:=b5) cq;obtain⟨ae,c_,b_,bM,bs⟩:∃v,bu.setCell ⟨ra,2,none⟩ (.int .i64 t)=v/\Hid (Rd B q A c L en eA ec el v i24)/\ik (iz q w0) (iz q v)/\iP v ra 73 #[.int .i64 9,.int .i64 0,t,.int .i64 0,x1,.slice none 0 0]:=by
   have ag:=ay.after b5;have hn:uD (iz q w0) ra:=ko ct;have bh:uD B ra:=⟨by omega⟩;exact⟨_,rfl,⟨ag.blk.qU (p:=⟨ra,2,none⟩) (ls a_) _,iJ (h:=ag.aft) _ _,ag.le,ag.tk,ag.ens,ag.few,ag.num⟩,iJ (h:=tD av b5) _ _,aD.jx 2 (.int .i64 t)⟩
  clear c0 c1 bp c3 f2 l0;obtain⟨m0,m1,m2,m3,m4,m5⟩:=oN aD;have ml:=jo aD;obtain⟨an,al,ak,aj,ai,ah⟩:=jU aD;obtain⟨cD,aY,aR,aQ,aP⟩:=info_parts qs;have aY:=iB aY;have aR:=iB aR;have aQ:=iB aQ;have aP:=iB aP;go_wp2_with fail;try rw[c_]
  obtain⟨w27,bm,aV,aI⟩:=run_make_full (P:=prog) ae ae.heap.size 63 73 cD _ 6 underlying63 aY aR aQ .i64 .i64 n (by rw[aP.out];omega) (by unfold maxLen;omega) (js _);rw[bm];clear bm;simp only[Result.andThen];rw[Oper.upon_value];obtain⟨g,hg⟩:∃g,ae.heap.size=g:=⟨_,rfl⟩;rw[hg]at aV⊢;have cm:=pR.KT rfl aV;have bL:ik ae w27:=⟨aI.os,aI.tape,aI.output,aI.size,fun k hk=>aI.block k hk (by simp)⟩;have bV:ra<g:=by have:=bs.lt;omega
  have aC:=mZ (w:=ae) (k:=bL) bs;obtain⟨dm,cR,cM,cJ,RB,RG,DA⟩:∃v,w27.setCell ⟨ra,5,none⟩ (.slice (some g) n n)=v/\Hid (Rd B q A c L en eA ec el v i24)/\ik (iz q w0) (iz q v)/\Hid (iP v ra 73 #[.int .i64 9,.int .i64 0,t,.int .i64 0,x1,.slice (some g) n n])/\Hid (pR v g (List.replicate n oE))/\Hid (∀y∈List.replicate n oE,RX (kK (fun b=>decide (b<w0.heap.size)||b==ra||b==g) v) y):=by
   have ax:=b_.after bL;have hn:uD (iz q w0) ra:=ko ct;have bh:uD B ra:=⟨by omega⟩;exact⟨_,rfl,⟨ax.blk.qU (p:=⟨ra,5,none⟩) (ls a_) _,iJ (h:=ax.aft) _ _,ax.le,ax.tk,ax.ens,ax.few,ax.num⟩,iJ (h:=tD bM bL) _ _,aC.jx 5 (.slice (some g) n n),tV cm (p:=⟨ra,5,none⟩) (by show g≠ra;omega) _,fun y hy=>by rw[List.eq_of_mem_replicate hy];exact yS 0 0 0 0 ⟨#[]⟩ (by decide)⟩
  have aH:Hid ((List.replicate n oE).length=n):=IV;have bZ:=aK;clear m0 m1 m2 m3 m4 m5 ml an al ak aj ai ah aI aV cm;obtain⟨m0,m1,m2,m3,m4,m5⟩:=oN aC;have ml:=jo aC;obtain⟨an,al,ak,aj,ai,ah⟩:=jU aC;have cn:=RB.out;have dF:=(uJ cn 2).trans rfl;have dE:=jo cn;have ao:1<n:=by have h1:=g5 cr;omega
  go_wp2_with fail;refine td (jH cM [⟨#[45,62]⟩] (by decide)) o cJ bZ ?_;clear o;intro ad dh dp aO ca cp o bY bn b1 bK;subst ca;have o:Hid (X=(jg el k (L.drop aO)).bind fun (x,r)=>(iF [⟨#[41]⟩] r).bind fun (_,r)=>we el k x1 (t) n (([]:List Ex)++[x]) r):=o;have au:(fun b=>decide (b<w0.heap.size)||b==ra||b==g) q=true:=by simp[bT]
  have a':iP ad ra 73 #[.int .i64 9,.int .i64 0,.int .i64 (t),.int .i64 0,x1,.slice (some g) n n]:=kq RB a_ b1;have I:g≠q:=by omega
  have aw:pR ad g ((List.replicate n oE)):=kq RG I b1;have bb:Hid (∀y∈(List.replicate n oE),RX (kK (fun b=>decide (b<w0.heap.size)||b==ra||b==g) ad) y):=iB fun y hy=>(DA y hy).below (j_ (q:=q) au b1).below
  have HK:Hid (∀U,ik (iz q ad) (iz q U)->U.cell? ⟨ra,5,none⟩=some (.slice (some g) n n)):=fun U hU=>((kq a' a_ hU).cell 5).trans rfl
  have HC:Hid (∀U,ik ad U->Calls prog 71 #[.pointer (some q)] U (pk B q A c L en eA ec el U aO (jg el k (L.drop aO)) (VX U.heap.size))):=fun U hU=>(C k (js k)).e U aO (cp.after hU) (by have h1:=bg.out;have h2:=aA;have h3:=az;have h4:=bn;have h7:=cp.le;omega)
  generalize cG:jg el k (L.drop aO)=Y at HC o;have bG:g<ad.heap.size:=aw.lt;have c8:((1:Nat):Int)<((n:Nat):Int):=by omega
  have cz:(1:Int)<((n:Nat):Int):=by omega
  go_wp2_with fail;refine jm (fun U:World=>U.cell? ⟨ra,5,none⟩=some (.slice (some g) n n)) [5,6] (by kernel_rfl) ?_;have aa:(fun U:World=>U.cell? ⟨ra,5,none⟩=some (.slice (some g) n n)) ad.drew:=HK _ inferInstance;refine wT 0 [1,5,6] (.pointer (some ⟨ra,5,none⟩)) aa ?_;try simp only[Act.put,oF,oB,oq]
  refine wT 1 [5,6] (.slice (some g) n n) aa ?_;try simp only[Act.put,oF,oB,oq]
  refine wT 2 [5,6] (.int .i64 (1:Nat)) aa ?_;try simp only[Act.put,oF,oB,oq]
  refine wT 3 [4,5,6] (.pointer (some q)) aa ?_;try simp only[Act.put,oF,oB,oq]
  clear aa;refine lH 4 ?_;go_simp;go_at_call 71;refine (HC _ inferInstance).mono ?_;clear HC;rintro e w9 ⟨aZ,hY⟩;have aM:ik (iz q ad) (iz q w9):=ij (im inferInstance) aZ;clear aZ;cases Y with
  |none=>
   obtain⟨a,er,rfl,he⟩:=hY;unfold oD;exact⟨rfl,kf o (ij (im aw0) (ij bK aM)) (jz a er he)⟩
  |some y=>
  obtain⟨x9,r9⟩:=y;obtain⟨v9,i9,rfl,bE,R9,bF,aX⟩:=hY;subst bF;obtain⟨⟨k9,o9,t9,z9,s9,A9,c9,a6⟩,aS,rfl,D9⟩:=bE;rw[JQ k9 o9 t9 z9 s9 A9 c9 a6]
  (first | refine⟨HK _ aM,?_⟩ | refine⟨fun _=>HK _ aM,?_⟩)
  have ab:iP w9 ra 73 #[.int .i64 9,.int .i64 0,.int .i64 (t),.int .i64 0,x1,.slice (some g) n n]:=kq a' a_ aM;have J:pR w9 g ((List.replicate n oE)):=kq aw I aM;have aT:1<((List.replicate n oE)).length:=by rw[aH.out];exact ao
  obtain⟨y0,q0,q1,q2,q3,q4,q5⟩:=J.cells aT;have bC:=nL J (1*6);have bB:=nL J (1*6+1);have bA:=nL J (1*6+2);have bz:=nL J (1*6+3);have bx:=nL J (1*6+4);have bw:=nL J (1*6+5);have ql:=jo J;obtain⟨dk,hW,b8,b9,cL,cI,ba⟩:∃v,(((((w9.setCell ⟨g,1*6,none⟩ (.int .i64 k9)).setCell ⟨g,1*6+1,none⟩ (.int .i64 o9)).setCell ⟨g,1*6+2,none⟩ (.int .i64 t9)).setCell ⟨g,1*6+3,none⟩ (.int .i64 z9)).setCell ⟨g,1*6+4,none⟩ (.string s9)).setCell ⟨g,1*6+5,none⟩ (.slice A9 a6.length c9)=v/\Hid (pR v g (((List.replicate n oE)).set 1 (.mk k9 o9 t9 z9 s9 A9 c9 a6)))/\Hid (iP v ra 73 #[.int .i64 9,.int .i64 0,.int .i64 (t),.int .i64 0,x1,.slice (some g) n n])/\Hid (Rd B q A c L en eA ec el v i9)/\ik (iz q w0) (iz q v)/\Hid (∀y∈((List.replicate n oE)).set 1 (.mk k9 o9 t9 z9 s9 A9 c9 a6),RX (kK (fun b=>decide (b<w0.heap.size)||b==ra||b==g) v) y):=by
   have a8:ra≠g:=by omega
   have ch:g≠q:=I;have hn:uD (iz q w0) g:=ko (by omega);have bh:uD B g:=⟨by omega⟩;have bI:(fun b=>decide (b<w0.heap.size)||b==ra||b==g) g=true:=by simp
   have F:∀{u:World} {b:Nat} {T:TypeId} {cs:Array Value} (hb:b≠g) (j:Nat) (v:Value),iP u b T cs->iP (u.setCell ⟨g,j,none⟩ v) b T cs:=fun hb j v h=>h.qU (p:=⟨g,j,none⟩) hb v
   refine⟨_,rfl,J.store aT (.mk k9 o9 t9 z9 s9 A9 c9 a6),F a8 _ _ (F a8 _ _ (F a8 _ _ (F a8 _ _ (F a8 _ _ (F a8 _ _ ab))))),⟨F (ls I) _ _ (F (ls I) _ _ (F (ls I) _ _ (F (ls I) _ _ (F (ls I) _ _ (F (ls I) _ _ R9.blk))))),?_,R9.le,R9.tk,R9.ens,R9.few,R9.num⟩,?_,fun y hy=>?_⟩
   ·exact iJ (h:=iJ (h:=iJ (h:=iJ (h:=iJ (h:=iJ (h:=R9.aft) _ _) _ _) _ _) _ _) _ _) _ _
   ·exact iJ (h:=iJ (h:=iJ (h:=iJ (h:=iJ (h:=iJ (h:=ij bK aM) _ _) _ _) _ _) _ _) _ _) _ _
   refine RX.below (zn (S:=(fun b=>decide (b<w0.heap.size)||b==ra||b==g)) (r:=g) (i:=1*6) bI w9 _ _ _ _ _ _).below ?_;rcases Lj hy with hy | rfl
   ·exact (bb y hy).below (j_ (q:=q) au aM).below
   exact D9.sub (nO w9 fun b hb=>by (simp only[uG,decide_eq_true_eq,beq_iff_eq]at hb;show b<ad.drew.heap.size;have h1:=bG;have h2:=lZ bK;show b<ad.heap.size;omega))
  have bX:Hid (i0<=i9):=iB (jW bY aX);refine lH 5 ?_;go_simp;try refine kL ?_
  refine lH 6 ?_;go_simp;try refine kL ?_
  try rw[hW]
  refine iT (by kernel_rfl) ?_ _;clear q0 q1 q2 q3 q4 q5 bC bB bA bz bx bw ql hW J ab R9 D9 aw a' bb HK aM;have bD:=iB aS;clear aS;have o:Hid (X=(iF [⟨#[41]⟩] (L.drop i9)).bind fun (_,r)=>we el k x1 (t) n (([]:List Ex)++[x9]) r):=o;go_wp2_with fail;refine td (jH cL [⟨#[41]⟩] (by decide)) o cI bX ?_;clear o;intro bf df dn c5 c' bO o cP cf b0 cH;subst c';have bN:iP bf ra 73 #[.int .i64 9,.int .i64 0,.int .i64 (t),.int .i64 0,x1,.slice (some g) n n]:=kq b9 a_ b0;have b7:pR bf g (((List.replicate n oE)).set 1 (.mk k9 o9 t9 z9 s9 A9 c9 a6)):=kq b8 I b0;have bQ:∀y∈((List.replicate n oE)).set 1 (.mk k9 o9 t9 z9 s9 A9 c9 a6),RX (kK (fun b=>decide (b<w0.heap.size)||b==ra||b==g) bf) y:=fun y hy=>(ba y hy).below (j_ (q:=q) au b0).below
  have o:Hid (X=we el k x1 (t) n (([]:List Ex)++[x9]) (L.drop c5)):=o;have bJ:g<bf.heap.size:=b7.lt;clear b9 b8 ba;have hA:=Sg bg aA af bn aX cf bO.le hk;have hT:=Sl g1 g2 hel;go_wp2;go_roundw
  case rel=>exact⟨c5,iB hA.1,bO,cH,.inr ⟨k,n,g,1,t,[]++[x9],(List.replicate n oE).set 1 (.mk k9 o9 t9 z9 s9 A9 c9 a6),rfl,rfl,g3,g4,js 1,hT.1,hT.2,js k,hA.2.1,bV,bJ,⟨rfl,(Gh ..).trans (IV ..),g5,Cv.add (k:=0) (fun j x hx=>by cases hx) rfl ((iG cr).symm) (by rw[IV];exact ao) (fun _=>wB 1) bD,o,bN,b7,bQ⟩⟩⟩
  case measure=>(rw[je bO.out.fields.2.2.1,d1.out];exact hA.2.2)
 obtain⟨m,rfl⟩:∃j,m=j+1:=⟨m-1,by omega⟩;obtain⟨ar,aH,bU,cj,hX,cX,cW,dc⟩:=HM.out;have ar:=iB ar;have aH:=iB aH;have bU:=iB bU;have cj:=iB cj;have o:=iB hX;have de:=iB cX;have cK:=iB cW;have cO:=iB dc;clear hX cX cW dc HM;have o:Hid (X=if l.length<n then (iF [⟨#[40]⟩] (L.drop i2)).bind fun (_,r)=>if lk el t (if t=1 then 1-(l.length:Int) else l.length) true r then (l_ el r).bind fun (tv,r)=>if tv.1=t then (iF [⟨#[45,62]⟩] r).bind fun (_,r)=>(jg el m r).bind fun (x,r)=>(iF [⟨#[41]⟩] r).bind fun (_,r)=>we el m x1 t n (l++[x]) r else none else none else some (.mk 9 0 t 0 x1 (if t=1 then l.reverse else l),L.drop i2)):=o;by_cases cu:kk<n
 ·skip
  have cZ:(kk:Int)<(n:Int):=by omega
  have o:=iB (o.trans (iG (by rw[ar.out];exact cu)));have o:Hid (X=(iF [⟨#[40]⟩] (L.drop i2)).bind fun (_,r)=>if lk el t (if t=1 then 1-(kk:Int) else kk) true r then (l_ el r).bind fun (tv,r)=>if tv.1=t then (iF [⟨#[45,62]⟩] r).bind fun (_,r)=>(jg el m r).bind fun (x,r)=>(iF [⟨#[41]⟩] r).bind fun (_,r)=>we el m x1 t n (l++[x]) r else none else none):=by (show _=_;rw[o.out,ar.out])
  go_wp2_with fail;refine td (jH cy [⟨#[40]⟩] (by decide)) o cx c4 ?_;clear o;intro aG dj ds a7 cd bj o bR aA b4 cw;subst cd;have I:g≠q:=by omega
  have a':iP aG ra 73 #[.int .i64 9,.int .i64 0,t,.int .i64 0,x1,.slice (some g) n n]:=kq de a_ b4;have dV:(0:Int)<(kk:Int):=by omega
  have dW:decide (0<kk)=true:=lp hk1;obtain⟨c0,c1,bp,c3,f2,l0⟩:=bj.fields;by_cases bl:t=1
  ·skip
   have bh:=bU bl;have dB:=o;have dz:Hid (∀e:(1:Int)=1,(2:Nat)=2):=fun _=>rfl
   obtain rfl:kk=1:=by omega
   subst bl;subst bh;have o:=dB;have bU:=dz;obtain⟨m0,m1,m2,m3,m4,m5⟩:=oN a';have ml:=jo a';obtain⟨an,al,ak,aj,ai,ah⟩:=jU a';have o:Hid (X=if lk el 1 0 true (L.drop a7) then (l_ el (L.drop a7)).bind fun (tv,r)=>if tv.1=1 then (iF [⟨#[45,62]⟩] r).bind fun (_,r)=>(jg el m r).bind fun (x,r)=>(iF [⟨#[41]⟩] r).bind fun (_,r)=>we el m x1 1 2 (l++[x]) r else none else none):=o;have HC:Hid (Calls prog 188 #[.pointer (some q),.int .i64 (1),.int .i64 (0),.bool true] aG (BZ aG (lk el 1 0 true (L.drop a7)))):=vt bj _ _ _;generalize bo:lk el 1 0 true (L.drop a7)=zw at HC o;go_wp2_with fail;refine HC.out.mono ?_;clear HC;rintro e aJ ⟨aW,hW⟩;have br:=iB (bj.after aW);have b3:ik (iz q aG) (iz q aJ):=im aW;have bq:=ij cw b3;have bd:=bR;clear aW;cases zw with
   |false=>
    have o:=iB (o.trans (iV yE));obtain⟨a,er,rfl,he⟩:Fl e:=by rcases hW with⟨h1,_⟩ | ⟨_,h2⟩;cases h1;exact h2
    unfold oD;go_wp2;exact⟨rfl,kf o (ij (im aw0) bq) (jz a er he)⟩
   |true=>
   have o:=iB (o.trans (iG rfl));obtain rfl:e=.returned (.tuple #[]):=by rcases hW with⟨_,h2⟩ | ⟨h1,_⟩;exact h2;cases h1
   clear hW;go_wp2_with fail;refine BC (wy br) o bq bd ?_;clear o;intro aF cA dr i23 ck cc b' o aL da aB b6;subst cc;have af:a7<i23:=by have h1:=rW ck;rw[nY,nY]at h1;have:=b'.le;omega
   obtain⟨t',cC⟩:=cA;simp only[];clear m0 m1 m2 m3 m4 m5 ml an al ak aj ai ah c0 c1 bp c3 f2 l0;have aE:ik (iz q aG) (iz q aF):=ij b3 aB;have RB:Hid (iP aF ra 73 #[.int .i64 9,.int .i64 0,.int .i64 1,.int .i64 0,x1,.slice (some g) 2 2]):=iB (kq a' a_ aE);have RG:Hid (pR aF g ys):=iB (kq cK I (ij b4 aE));have cl:(fun b=>decide (b<w0.heap.size)||b==ra||b==g) q=true:=by simp[bT]
   have DA:Hid (∀y∈ys,RX (kK (fun b=>decide (b<w0.heap.size)||b==ra||b==g) aF) y):=iB fun y hy=>(cO y hy).below (j_ (q:=q) cl (ij b4 aE)).below
   have o:Hid (X=if t'=1 then (iF [⟨#[45,62]⟩] (L.drop i23)).bind fun (_,r)=>(jg el m r).bind fun (x,r)=>(iF [⟨#[41]⟩] r).bind fun (_,r)=>we el m x1 1 2 (l++[x]) r else none):=o;have ab:=RB.out;clear a';obtain⟨m0,m1,m2,m3,m4,m5⟩:=oN ab;have ml:=jo ab;obtain⟨an,al,ak,aj,ai,ah⟩:=jU ab;by_cases bc:t'=1
   ·skip
    have cN:=iB (o.trans (iG bc));subst bc;have o:=cN;have ao:0<2:=by decide
    go_wp2_with fail;refine BC (jH b' [⟨#[45,62]⟩] (by decide)) o b6 aL ?_;clear o;intro R bW cB i24 be aU ay o aK az aq av;subst aU;have o:Hid (X=(jg el m (L.drop i24)).bind fun (x,r)=>(iF [⟨#[41]⟩] r).bind fun (_,r)=>we el m x1 (1) 2 (l++[x]) r):=o;have au:(fun b=>decide (b<w0.heap.size)||b==ra||b==g) q=true:=by simp[bT]
    have a':iP R ra 73 #[.int .i64 9,.int .i64 0,.int .i64 (1),.int .i64 0,x1,.slice (some g) 2 2]:=kq RB a_ aq;have I:g≠q:=by omega
    have aw:pR R g (ys):=kq RG I aq;have bb:Hid (∀y∈ys,RX (kK (fun b=>decide (b<w0.heap.size)||b==ra||b==g) R) y):=iB fun y hy=>(DA y hy).below (j_ (q:=q) au aq).below
    have HK:Hid (∀U,ik (iz q R) (iz q U)->U.cell? ⟨ra,5,none⟩=some (.slice (some g) 2 2)):=fun U hU=>((kq a' a_ hU).cell 5).trans rfl
    have HC:Hid (∀U,ik R U->Calls prog 71 #[.pointer (some q)] U (pk B q A c L en eA ec el U i24 (jg el m (L.drop i24)) (VX U.heap.size))):=fun U hU=>(C m (by omega)).e U i24 (ay.after hU) (by have h1:=bg.out;have h2:=aA;have h3:=af;have h4:=az;have h7:=ay.le;omega)
    generalize cG:jg el m (L.drop i24)=Y at HC o;have bH:g<R.heap.size:=aw.lt;have c8:((0:Nat):Int)<((2:Nat):Int):=by omega
    have cz:(0:Int)<((2:Nat):Int):=by omega
    go_wp2_with fail;refine jm (fun U:World=>U.cell? ⟨ra,5,none⟩=some (.slice (some g) 2 2)) [5,6] (by kernel_rfl) ?_;have aa:(fun U:World=>U.cell? ⟨ra,5,none⟩=some (.slice (some g) 2 2)) R.drew:=HK _ inferInstance;refine wT 0 [1,5,6] (.pointer (some ⟨ra,5,none⟩)) aa ?_;try simp only[Act.put,oF,oB,oq]
    refine wT 1 [5,6] (.slice (some g) 2 2) aa ?_;try simp only[Act.put,oF,oB,oq]
    refine wT 2 [5,6] (.int .i64 (0:Nat)) aa ?_;try simp only[Act.put,oF,oB,oq]
    refine wT 3 [4,5,6] (.pointer (some q)) aa ?_;try simp only[Act.put,oF,oB,oq]
    clear aa;refine lH 4 ?_;go_simp;go_at_call 71;refine (HC _ inferInstance).mono ?_;clear HC;rintro e w9 ⟨aZ,hY⟩;have aM:ik (iz q R) (iz q w9):=ij (im inferInstance) aZ;clear aZ;cases Y with
    |none=>
     obtain⟨a,er,rfl,he⟩:=hY;unfold oD;exact⟨rfl,kf o (ij (im aw0) (ij av aM)) (jz a er he)⟩
    |some y=>
    obtain⟨x9,r9⟩:=y;obtain⟨v9,i9,rfl,bE,R9,bF,aX⟩:=hY;subst bF;obtain⟨⟨k9,o9,t9,z9,s9,A9,c9,a6⟩,aS,rfl,D9⟩:=bE;rw[JQ k9 o9 t9 z9 s9 A9 c9 a6]
    (first | refine⟨HK _ aM,?_⟩ | refine⟨fun _=>HK _ aM,?_⟩)
    have ab:iP w9 ra 73 #[.int .i64 9,.int .i64 0,.int .i64 (1),.int .i64 0,x1,.slice (some g) 2 2]:=kq a' a_ aM;have J:pR w9 g (ys):=kq aw I aM;have aT:0<(ys).length:=by rw[aH.out];exact ao
    obtain⟨y0,q0,q1,q2,q3,q4,q5⟩:=J.cells aT;have bC:=nL J (0*6);have bB:=nL J (0*6+1);have bA:=nL J (0*6+2);have bz:=nL J (0*6+3);have bx:=nL J (0*6+4);have bw:=nL J (0*6+5);have ql:=jo J;obtain⟨bu,hW,b8,b9,ag,b5,ba⟩:∃v,(((((w9.setCell ⟨g,0*6,none⟩ (.int .i64 k9)).setCell ⟨g,0*6+1,none⟩ (.int .i64 o9)).setCell ⟨g,0*6+2,none⟩ (.int .i64 t9)).setCell ⟨g,0*6+3,none⟩ (.int .i64 z9)).setCell ⟨g,0*6+4,none⟩ (.string s9)).setCell ⟨g,0*6+5,none⟩ (.slice A9 a6.length c9)=v/\Hid (pR v g ((ys).set 0 (.mk k9 o9 t9 z9 s9 A9 c9 a6)))/\Hid (iP v ra 73 #[.int .i64 9,.int .i64 0,.int .i64 (1),.int .i64 0,x1,.slice (some g) 2 2])/\Hid (Rd B q A c L en eA ec el v i9)/\ik (iz q w0) (iz q v)/\Hid (∀y∈(ys).set 0 (.mk k9 o9 t9 z9 s9 A9 c9 a6),RX (kK (fun b=>decide (b<w0.heap.size)||b==ra||b==g) v) y):=by
     have a8:ra≠g:=iu;have ch:g≠q:=I;have hn:uD (iz q w0) g:=ko iu;have bh:uD B g:=⟨iu⟩;have bI:(fun b=>decide (b<w0.heap.size)||b==ra||b==g) g=true:=by simp
     have F:∀{u:World} {b:Nat} {T:TypeId} {cs:Array Value} (hb:b≠g) (j:Nat) (v:Value),iP u b T cs->iP (u.setCell ⟨g,j,none⟩ v) b T cs:=fun hb j v h=>h.qU (p:=⟨g,j,none⟩) hb v
     refine⟨_,rfl,J.store aT (.mk k9 o9 t9 z9 s9 A9 c9 a6),F a8 _ _ (F a8 _ _ (F a8 _ _ (F a8 _ _ (F a8 _ _ (F a8 _ _ ab))))),⟨F (ls I) _ _ (F (ls I) _ _ (F (ls I) _ _ (F (ls I) _ _ (F (ls I) _ _ (F (ls I) _ _ R9.blk))))),?_,R9.le,R9.tk,R9.ens,R9.few,R9.num⟩,?_,fun y hy=>?_⟩
     ·exact iJ (h:=iJ (h:=iJ (h:=iJ (h:=iJ (h:=iJ (h:=R9.aft) _ _) _ _) _ _) _ _) _ _) _ _
     ·exact iJ (h:=iJ (h:=iJ (h:=iJ (h:=iJ (h:=iJ (h:=ij av aM) _ _) _ _) _ _) _ _) _ _) _ _
     refine RX.below (zn (S:=(fun b=>decide (b<w0.heap.size)||b==ra||b==g)) (r:=g) (i:=0*6) bI w9 _ _ _ _ _ _).below ?_;rcases Lj hy with hy | rfl
     ·exact (bb y hy).below (j_ (q:=q) au aM).below
     exact D9.sub (nO w9 fun b hb=>by (simp only[uG,decide_eq_true_eq,beq_iff_eq]at hb;show b<R.drew.heap.size;have h1:=bH;have h2:=lZ av;show b<R.heap.size;omega))
    have c2:Hid (i0<=i9):=iy (jW aK aX);refine lH 5 ?_;go_simp;try refine kL ?_
    refine lH 6 ?_;go_simp;try refine kL ?_
    try rw[hW]
    refine iT kp ?_ _;clear q0 q1 q2 q3 q4 q5 bC bB bA bz bx bw ql hW J ab R9 D9 aw a' bb HK aM;have bD:=iy aS;clear aS;have o:Hid (X=(iF [⟨#[41]⟩] (L.drop i9)).bind fun (_,r)=>we el m x1 (1) 2 (l++[x9]) r):=o;go_wp2_with fail;refine BC (jH ag [⟨#[41]⟩] iI) o b5 c2 ?_;clear o;intro ae di dq c7 dK cb b_ o cQ cg b2 bM;subst cb;have bN:iP ae ra 73 #[.int .i64 9,.int .i64 0,.int .i64 (1),.int .i64 0,x1,.slice (some g) 2 2]:=kq b9 a_ b2;have b7:pR ae g ((ys).set 0 (.mk k9 o9 t9 z9 s9 A9 c9 a6)):=kq b8 I b2;have bQ:∀y∈(ys).set 0 (.mk k9 o9 t9 z9 s9 A9 c9 a6),RX (kK (fun b=>decide (b<w0.heap.size)||b==ra||b==g) ae) y:=fun y hy=>(ba y hy).below (j_ (q:=q) au b2).below
    have o:Hid (X=we el m x1 (1) 2 (l++[x9]) (L.drop c7)):=o;have bJ:g<ae.heap.size:=b7.lt;clear b9 b8 ba;have hA:=RN bg aA af az aX cg b_.le hfu;go_wp2;go_roundw
    case rel=>exact⟨c7,iy hA.1,b_,bM,.inr ⟨m,2,g,1+1,1,l++[x9],ys.set 0 (.mk k9 o9 t9 z9 s9 A9 c9 a6),rfl,rfl,cu,hn16,Nat.succ_le_succ (wB _),ht0,ht1,Nat.le_of_succ_le hmk,hA.2.1,bV,bJ,⟨by rw[mo,ar.out];rfl,(Gh ..).trans aH,(fun _=>rfl),Cv.add (k:=1) cj ar (rfl) (by rw[aH.out];exact ao) (fun e=>js 1) bD,o,bN,b7,bQ⟩⟩⟩
    case measure=>(rw[je b_.out.fields.2.2.1,d1.out];exact hA.2.2)
   have bP:=o.trans (iV bc);have cU:(t' != 1)=true:=by rw[bne_iff_ne];exact bc
   have bP:=iy bP;have HF:=iy (nj b' a7 iu 5);go_wp2_with fail;refine HF.mono ?_;rintro e R ⟨⟨a,rfl⟩,av⟩;unfold oD;go_wp2;exact⟨rfl,kf bP (ij (im aw0) (ij b6 (im av))) (jz a 5 iI)⟩
  have dT:(t==1)=false:=by rw[beq_eq_false_iff_ne];exact bl
  replace bl:=iy bl;obtain⟨m0,m1,m2,m3,m4,m5⟩:=oN a';have ml:=jo a';obtain⟨an,al,ak,aj,ai,ah⟩:=jU a';have o:Hid (X=if lk el t kk true (L.drop a7) then (l_ el (L.drop a7)).bind fun (tv,r)=>if tv.1=t then (iF [⟨#[45,62]⟩] r).bind fun (_,r)=>(jg el m r).bind fun (x,r)=>(iF [⟨#[41]⟩] r).bind fun (_,r)=>we el m x1 t n (l++[x]) r else none else none):=by (have h9:X=if lk el t (if t=1 then 1-(kk:Int) else kk) true (L.drop a7) then _ else none:=o;rw[iV bl.out]at h9;exact h9)
  have HC:Hid (Calls prog 188 #[.pointer (some q),.int .i64 (t),.int .i64 ((kk:Nat)),.bool true] aG (BZ aG (lk el t kk true (L.drop a7)))):=vt bj _ _ _;generalize bo:lk el t kk true (L.drop a7)=zw at HC o;go_wp2_with fail;refine HC.out.mono ?_;clear HC;rintro e aJ ⟨aW,hW⟩;have br:=iy (bj.after aW);have b3:ik (iz q aG) (iz q aJ):=im aW;have bq:=ij cw b3;have bd:=bR;clear aW;cases zw with
  |false=>
   have o:=iy (o.trans (iV yE));obtain⟨a,er,rfl,he⟩:Fl e:=by rcases hW with⟨h1,_⟩ | ⟨_,h2⟩;cases h1;exact h2
   unfold oD;go_wp2;exact⟨rfl,kf o (ij (im aw0) bq) (jz a er he)⟩
  |true=>
  have o:=iy (o.trans (iG rfl));obtain rfl:e=.returned (.tuple #[]):=by rcases hW with⟨_,h2⟩ | ⟨h1,_⟩;exact h2;cases h1
  clear hW;go_wp2_with fail;refine BC (wy br) o bq bd ?_;clear o;intro aF cA dr i23 ck cc b' o aL da aB b6;subst cc;have af:a7<i23:=by have h1:=rW ck;rw[nY,nY]at h1;have:=b'.le;omega
  obtain⟨t',cC⟩:=cA;simp only[];clear m0 m1 m2 m3 m4 m5 ml an al ak aj ai ah c0 c1 bp c3 f2 l0;have aE:ik (iz q aG) (iz q aF):=ij b3 aB;have RB:Hid (iP aF ra 73 #[.int .i64 9,.int .i64 0,t,.int .i64 0,x1,.slice (some g) n n]):=iy (kq a' a_ aE);have RG:Hid (pR aF g ys):=iy (kq cK I (ij b4 aE));have cl:(fun b=>decide (b<w0.heap.size)||b==ra||b==g) q=true:=by simp[bT]
  have DA:Hid (∀y∈ys,RX (kK (fun b=>decide (b<w0.heap.size)||b==ra||b==g) aF) y):=iy fun y hy=>(cO y hy).below (j_ (q:=q) cl (ij b4 aE)).below
  have o:Hid (X=if t'=t then (iF [⟨#[45,62]⟩] (L.drop i23)).bind fun (_,r)=>(jg el m r).bind fun (x,r)=>(iF [⟨#[41]⟩] r).bind fun (_,r)=>we el m x1 t n (l++[x]) r else none):=o;have ab:=RB.out;clear a';obtain⟨m0,m1,m2,m3,m4,m5⟩:=oN ab;have ml:=jo ab;obtain⟨an,al,ak,aj,ai,ah⟩:=jU ab;by_cases bc:t'=t
  ·skip
   have cN:=iy (o.trans (iG bc));have cV:=bc.symm;clear bc;subst cV;have o:=cN;have ao:kk<n:=iu;go_wp2_with fail;refine td (jH b' [⟨#[45,62]⟩] iI) o b6 aL ?_;clear o;intro R bW cB i24 aU ay o aK az aq av;subst aU;have o:Hid (X=(jg el m (L.drop i24)).bind fun (x,r)=>(iF [⟨#[41]⟩] r).bind fun (_,r)=>we el m x1 (t) n (l++[x]) r):=o;have au:(fun b=>decide (b<w0.heap.size)||b==ra||b==g) q=true:=by simp[bT]
   have a':iP R ra 73 #[.int .i64 9,.int .i64 0,.int .i64 (t),.int .i64 0,x1,.slice (some g) n n]:=kq RB a_ aq;have I:g≠q:=iu;have aw:pR R g (ys):=kq RG I aq;have bb:Hid (∀y∈ys,RX (kK (fun b=>decide (b<w0.heap.size)||b==ra||b==g) R) y):=iy fun y hy=>(DA y hy).below (j_ (q:=q) au aq).below
   have HK:Hid (∀U,ik (iz q R) (iz q U)->U.cell? ⟨ra,5,none⟩=some (.slice (some g) n n)):=fun U hU=>((kq a' a_ hU).cell 5).trans rfl
   have HC:Hid (∀U,ik R U->Calls prog 71 #[.pointer (some q)] U (pk B q A c L en eA ec el U i24 (jg el m (L.drop i24)) (VX U.heap.size))):=fun U hU=>(C m iu).e U i24 (ay.after hU) (by have h1:=bg.out;have h2:=aA;have h3:=af;have h4:=az;have h7:=ay.le;omega)
   generalize cG:jg el m (L.drop i24)=Y at HC o;have bH:g<R.heap.size:=aw.lt;have c8:((kk:Nat):Int)<((n:Nat):Int):=iu;go_wp2_with fail;refine jm (fun U:World=>U.cell? ⟨ra,5,none⟩=some (.slice (some g) n n)) [5,6] kp ?_;have aa:(fun U:World=>U.cell? ⟨ra,5,none⟩=some (.slice (some g) n n)) R.drew:=HK _ iR;refine wT 0 [1,5,6] (.pointer (some ⟨ra,5,none⟩)) aa ?_;try simp only[Act.put,sC]
   refine wT 1 [5,6] (.slice (some g) n n) aa ?_;try simp only[Act.put,sC]
   refine wT 2 [5,6] (.int .i64 (kk:Nat)) aa ?_;try simp only[Act.put,sC]
   refine wT 3 [4,5,6] (.pointer (some q)) aa ?_;try simp only[Act.put,sC]
   clear aa;refine lH 4 ?_;go_simp;go_at_call 71;refine (HC _ iR).mono ?_;clear HC;rintro e w9 ⟨aZ,hY⟩;have aM:ik (iz q R) (iz q w9):=ij (im iR) aZ;clear aZ;cases Y with
   |none=>
    obtain⟨a,er,rfl,he⟩:=hY;unfold oD;exact⟨rfl,kf o (ij (im aw0) (ij av aM)) (jz a er he)⟩
   |some y=>
   obtain⟨x9,r9⟩:=y;obtain⟨v9,i9,rfl,bE,R9,bF,aX⟩:=hY;subst bF;obtain⟨⟨k9,o9,t9,z9,s9,A9,c9,a6⟩,aS,rfl,D9⟩:=bE;rw[JQ k9 o9 t9 z9 s9 A9 c9 a6]
   (first | refine⟨HK _ aM,?_⟩ | refine⟨fun _=>HK _ aM,?_⟩)
   have ab:iP w9 ra 73 #[.int .i64 9,.int .i64 0,.int .i64 (t),.int .i64 0,x1,.slice (some g) n n]:=kq a' a_ aM;have J:pR w9 g (ys):=kq aw I aM;have aT:kk<(ys).length:=by rw[aH.out];exact ao
   obtain⟨y0,q0,q1,q2,q3,q4,q5⟩:=J.cells aT;have bC:=nL J (kk*6);have bB:=nL J (kk*6+1);have bA:=nL J (kk*6+2);have bz:=nL J (kk*6+3);have bx:=nL J (kk*6+4);have bw:=nL J (kk*6+5);have ql:=jo J;obtain⟨bu,hW,b8,b9,ag,b5,ba⟩:∃v,(((((w9.setCell ⟨g,kk*6,none⟩ (.int .i64 k9)).setCell ⟨g,kk*6+1,none⟩ (.int .i64 o9)).setCell ⟨g,kk*6+2,none⟩ (.int .i64 t9)).setCell ⟨g,kk*6+3,none⟩ (.int .i64 z9)).setCell ⟨g,kk*6+4,none⟩ (.string s9)).setCell ⟨g,kk*6+5,none⟩ (.slice A9 a6.length c9)=v/\Hid (pR v g ((ys).set kk (.mk k9 o9 t9 z9 s9 A9 c9 a6)))/\Hid (iP v ra 73 #[.int .i64 9,.int .i64 0,.int .i64 (t),.int .i64 0,x1,.slice (some g) n n])/\Hid (Rd B q A c L en eA ec el v i9)/\ik (iz q w0) (iz q v)/\Hid (∀y∈(ys).set kk (.mk k9 o9 t9 z9 s9 A9 c9 a6),RX (kK (fun b=>decide (b<w0.heap.size)||b==ra||b==g) v) y):=by
    have a8:ra≠g:=iu;have ch:g≠q:=I;have hn:uD (iz q w0) g:=ko iu;have bh:uD B g:=⟨iu⟩;have bI:(fun b=>decide (b<w0.heap.size)||b==ra||b==g) g=true:=by simp
    have F:∀{u:World} {b:Nat} {T:TypeId} {cs:Array Value} (hb:b≠g) (j:Nat) (v:Value),iP u b T cs->iP (u.setCell ⟨g,j,none⟩ v) b T cs:=fun hb j v h=>h.qU (p:=⟨g,j,none⟩) hb v
    refine⟨_,rfl,J.store aT (.mk k9 o9 t9 z9 s9 A9 c9 a6),F a8 _ _ (F a8 _ _ (F a8 _ _ (F a8 _ _ (F a8 _ _ (F a8 _ _ ab))))),⟨F (ls I) _ _ (F (ls I) _ _ (F (ls I) _ _ (F (ls I) _ _ (F (ls I) _ _ (F (ls I) _ _ R9.blk))))),?_,R9.le,R9.tk,R9.ens,R9.few,R9.num⟩,?_,fun y hy=>?_⟩
    ·exact iJ (h:=iJ (h:=iJ (h:=iJ (h:=iJ (h:=iJ (h:=R9.aft) _ _) _ _) _ _) _ _) _ _) _ _
    ·exact iJ (h:=iJ (h:=iJ (h:=iJ (h:=iJ (h:=iJ (h:=ij av aM) _ _) _ _) _ _) _ _) _ _) _ _
    refine RX.below (zn (S:=(fun b=>decide (b<w0.heap.size)||b==ra||b==g)) (r:=g) (i:=kk*6) bI w9 _ _ _ _ _ _).below ?_;rcases Lj hy with hy | rfl
    ·exact (bb y hy).below (j_ (q:=q) au aM).below
    exact D9.sub (nO w9 fun b hb=>by (simp only[uG,decide_eq_true_eq,beq_iff_eq]at hb;show b<R.drew.heap.size;have h1:=bH;have h2:=lZ av;show b<R.heap.size;omega))
   have c2:Hid (i0<=i9):=iy (jW aK aX);refine lH 5 ?_;go_simp;try refine kL ?_
   refine lH 6 ?_;go_simp;try refine kL ?_
   try rw[hW]
   refine iT kp ?_ _;clear q0 q1 q2 q3 q4 q5 bC bB bA bz bx bw ql hW J ab R9 D9 aw a' bb HK aM;have bD:=iy aS;clear aS;have o:Hid (X=(iF [⟨#[41]⟩] (L.drop i9)).bind fun (_,r)=>we el m x1 (t) n (l++[x9]) r):=o;go_wp2_with fail;refine td (jH ag [⟨#[41]⟩] iI) o b5 c2 ?_;clear o;intro ae di dq c7 cb b_ o cQ cg b2 bM;subst cb;have bN:iP ae ra 73 #[.int .i64 9,.int .i64 0,.int .i64 (t),.int .i64 0,x1,.slice (some g) n n]:=kq b9 a_ b2;have b7:pR ae g ((ys).set kk (.mk k9 o9 t9 z9 s9 A9 c9 a6)):=kq b8 I b2;have bQ:∀y∈(ys).set kk (.mk k9 o9 t9 z9 s9 A9 c9 a6),RX (kK (fun b=>decide (b<w0.heap.size)||b==ra||b==g) ae) y:=fun y hy=>(ba y hy).below (j_ (q:=q) au b2).below
   have o:Hid (X=we el m x1 (t) n (l++[x9]) (L.drop c7)):=o;have bJ:g<ae.heap.size:=b7.lt;clear b9 b8 ba;have hA:=RN bg aA af az aX cg b_.le hfu;go_wp2;go_roundw
   case rel=>exact⟨c7,iy hA.1,b_,bM,.inr ⟨m,n,g,kk+1,t,l++[x9],ys.set kk (.mk k9 o9 t9 z9 s9 A9 c9 a6),rfl,rfl,cu,hn16,Nat.succ_le_succ (wB _),ht0,ht1,Nat.le_of_succ_le hmk,hA.2.1,bV,bJ,⟨by rw[mo,ar.out];rfl,(Gh ..).trans aH,bU,Cv.add (k:=kk) cj ar ((iV bl).symm) (by rw[aH.out];exact ao) (fun e=>absurd e bl) bD,o,bN,b7,bQ⟩⟩⟩
   case measure=>(rw[je b_.out.fields.2.2.1,d1.out];exact hA.2.2)
  have bP:=o.trans (iV bc);have cU:(t' != t)=true:=by rw[bne_iff_ne];exact bc
  have bP:=iy bP;have HF:=iy (nj b' a7 iu 5);go_wp2_with fail;refine HF.mono ?_;rintro e R ⟨⟨a,rfl⟩,av⟩;unfold oD;go_wp2;exact⟨rfl,kf bP (ij (im aw0) (ij b6 (im av))) (jz a 5 iI)⟩
 have cZ:¬((kk:Int)<(n:Int)):=by omega
 have d':kk=n:=by omega
 have o:=iB (o.trans (iV (by rw[ar.out];exact cu)));have o:Hid (X=some (.mk 9 0 t 0 x1 (if t=1 then l.reverse else l),L.drop i2)):=o;have ab:=de.out;obtain⟨m0,m1,m2,m3,m4,m5⟩:=oN ab;have ml:=jo ab;obtain⟨an,al,ak,aj,ai,ah⟩:=jU ab;have cv:qP wr r oE:=lM (HB.after (k:=cx)) cE;obtain⟨n0,n1,n2,n3,n4,n5⟩:=cv.cells;have nl:=jo cv;obtain⟨dR,dQ,dP,dO,dN,dM⟩:=jU cv;have dH:=o;have du:=aH.out;subst du;have E0:RX (old w0.heap.size wr) (.mk 9 0 t 0 x1 (some ⟨g,0,none⟩) ys.length ys):=pR.rx (yV cK (by omega)) (fun y hy=>(cO y hy).sub (sZ wr fun b hb=>by simp[hb])) (by omega) 9 0 t 0 x1 dC;have dD:(Tx.mk 9 0 t 0 x1 (some ⟨g,0,none⟩) ys.length ys).er=.mk 9 0 t 0 x1 (if t=1 then l.reverse else l):=by rw[qp,Cv.done cj.out (by rw[ar.out];exact d') bU.out]
 obtain⟨W,hW,EW,dG,aW,oW,sW⟩:=jY cv cy cE (ij (im aw0) cx) (lI hr) iu (.mk 9 0 t 0 x1 (some ⟨g,0,none⟩) ys.length ys);simp only[txs]at hW;go_wp2_with fail;try rw[hW]
 clear hW;obtain⟨u0,u1,u2,u3,u4,u5⟩:=EW.cells;simp only[txs]at u0 u1 u2 u3 u4 u5;exact jR (v:=.agg #[.int .i64 9,.int .i64 0,t,.int .i64 0,x1,.slice (some g) ys.length ys.length]) (by simp[results,results178,go_sem,u0,u1,u2,u3,u4,u5]) rfl (lN (x:=.mk 9 0 t 0 x1 (if t=1 then l.reverse else l)) (show X=some (.mk 9 0 t 0 x1 (if t=1 then l.reverse else l),L.drop i2) from dH) aW ⟨.mk 9 0 t 0 x1 (some ⟨g,0,none⟩) ys.length ys,dD,rfl,((E0).below (oW w0.heap.size iu).below).sub (iS iu W)⟩ dG rfl (c4))
end
end
end Go.Proofs.YtnigblndonocfaaGreatDoor
