/- A part of the proof. -/
import Derived.Test.YtnigblndonocfaaGreatDoorSAl
import Derived.BigQuiet
set_option linter.unusedVariables false
set_option linter.unusedSimpArgs false
namespace Go.Proofs.YtnigblndonocfaaGreatDoor
set_option maxRecDepth 100000
set_option maxHeartbeats 3200000
open Go.Proofs.Tryz
open Go.RowKit Go.BigFrame
theorem Cz {w0:World} {g nd q} {en:nB iW} (h:pK w0 g en.A en.l.length en.c nd q) (hen:ir 2 sM w0 en) (x:nB iO) (hx:ir 3 jG w0 x) (port:Bool) (w:World) (hw:ik w0 w) :
  Calls prog 75 #[.pointer (some ⟨g,0,none⟩),.slice x.A x.l.length x.c,.bool port] w fun e w'=>PE w nd q (nN en.l port x.l) e w':=by
 have HI:Hid (∀s:ByteArray,s.size<=140737488355328->∀U,ik w0 U->Calls prog 74 #[.pointer (some ⟨g,0,none⟩),.string s] U fun e w'=>PE U nd q (jA s) e w'):=fun s hs U hU=>tT h s hs U hU
 have HM:Hid (∀b e,e≠0->∀U,ik w0 U->Calls prog 39 #[.pointer (some ⟨g,0,none⟩),.bool b,.int .i64 e] U fun e' w'=>PE U nd q (iX b e) e' w'):=fun b e he U hU=>rC (h.here U (k:=hU)) b e he
 obtain⟨eA,ec,J⟩:=en;simp only[]at h⊢;have HZ:Hid (∀t:Int,t<=9223372036854775807->∀U,ik w0 U->Calls prog 120 #[.slice eA J.length ec,.int .i64 t] U fun e w'=>e=.returned (.int .i64 (jV J t:Nat))/\∃z,w'=U.more z):=fun t ht U hU=>(uS hen U hU t ht).mono fun e w_ h_=>⟨h_.1,have:=h_.2;jP _ _⟩
 have HH:Hid (∀t v:Int,t<=9223372036854775807->∀U,ik w0 U->Calls prog 121 #[.slice eA J.length ec,.int .i64 t,.int .i64 v] U fun e w'=>e=.returned (.bool (nq J t v))/\∃z,w'=U.more z):=fun t v ht U hU=>(Ch hen U hU t v ht).mono fun e w_ h_=>⟨h_.1,have:=h_.2;jP _ _⟩
 obtain⟨R,hR⟩:=jt (nN J port x.l);have ai:Hid (R=jD (iw (jN J port) x.l) 0):=by
  show _=_
  rw[<- hR,kE];rfl
 rw[hR];have HL:Hid (∀U,ik w0 U->U.cell? ⟨g,0,none⟩=some (.slice eA J.length ec)/\Le (g+1) U):=fun U hU=>⟨(h.here U (k:=hU)).fields.1,(h.here U (k:=hU)).fields.2.2.2⟩
 obtain⟨A1,c1,l⟩:=x;simp only[]at ai⊢;have XX:=iy hx;have bC:=hx.len;simp only[]at bC;have bp:=iq w;have HK:Hid (∀U:World,ik w U->U.cell? ⟨g,0,none⟩=some (.slice eA J.length ec)/\Le (g+1) U):=fun U hU=>HL U (ij hw hU)
 obtain⟨l0,ll⟩:=HK w (iq _);cases port with
 |false=>
  go_in;go_wp2_with fail;go_loopw [12] (fun i wr=>∃j:Nat,j<=l.length/\i=.int .i64 (j:Nat)/\Hid (iw (jN J false) (l.take j)=0)/\ik w wr) (fun i _=>l.length-(intOf i).toNat)
  case atStart=>exact⟨0,iu,rfl,iy (by simp[iw]),iq w⟩
  case round=>
  obtain⟨j,hj,rfl,az,ag⟩:=hrel;have af:=ij bp ag;obtain⟨rj,b1⟩:=jt (wr);rw[b1]at ag af⊢;obtain⟨l0,ll⟩:=HK rj (ag);by_cases ao:j<l.length
  ·have b':(j:Int)<(l.length:Int):=iu
   obtain⟨bj,pj,yj,rfl,bn,aP,a_⟩:=(XX.decls rj (k:=ij hw af)).part (i:=j) ao;obtain⟨nm,ty,cA,cc,cl⟩:=yj;have y0:=a_.c0;have y1:=a_.c1;have y2:=a_.c2;have hn:=a_.nm;have aD:=a_.tb;have bf:=iy (a_.cl.below qF (Below.refl _ _));have bc:=a_.cl.len;simp only[]at y0 y1 y2 hn aD bc;have aN:=iy (HZ ty aD);obtain⟨sz,aE⟩:=jt (jV J ty);rw[aE]at aN;have aa:Hid ((jN J false ⟨nm,ty,⟨cA,cc,cl⟩⟩)≠0->R=(jN J false ⟨nm,ty,⟨cA,cc,cl⟩⟩)):=iy fun h=>by
    have h1:=kN (jN J false) aP az h;have h2:=ai.trans ((lR (by rw[h1];exact h)).trans h1);exact h2
   have I:Hid ((jN J false ⟨nm,ty,⟨cA,cc,cl⟩⟩)=jD (jA nm) (jD (iX (decide ((0:Int)<(sz:Int))) 10) (jD (iX (!false||(cl.length:Int)==0) 11) (jD (iX (decide ((cl.length:Int)<=4)) 3) (jD (iw (vR J) cl) 0))))):=by show _=_;rw[kE,<- aE];rfl
   have aR:Hid ((jN J false ⟨nm,ty,⟨cA,cc,cl⟩⟩)=0->iw (jN J false) (l.take (j+1))=0):=iy fun h=>(kt (jN J false) aP az).trans h
   obtain⟨X1,ad⟩:∃X,X=(jN J false ⟨nm,ty,⟨cA,cc,cl⟩⟩):=⟨_,rfl⟩;replace I:=iy (ad.trans I.out);rw[<- ad]at aa aR;obtain⟨g2,bb⟩:=jt (rj.heap.size);obtain⟨W2,bE,a8,ax⟩:∃W,rj.alloc (.cells #[.string nm,.int .i64 ty,.slice cA cl.length cc] 77)=W/\Hid (∀U:World,ik W U->U.cell? ⟨g2,0,none⟩=some (.string nm)/\U.cell? ⟨g2,1,none⟩=some (.int .i64 ty)/\U.cell? ⟨g2,2,none⟩=some (.slice cA cl.length cc)/\Le (g2+1) U/\U.cell? ⟨g,0,none⟩=some (.slice eA J.length ec)/\Le (g+1) U)/\ik rj W:=by
    refine⟨_,rfl,fun U hU=>?_,iR⟩;have y0:=(jC rj 77 #[.string nm,.int .i64 ty,.slice cA cl.length cc]).after (w':=U);rw[bb]at y0;have q0:=ij hw (ij af (ij iR hU));have q1:=ij (ag) (ij iR hU);exact⟨by rw[y0.cell];rfl,by rw[y0.cell];rfl,by rw[y0.cell];rfl,y0.is_le,(HL.out U q0).1,(HL.out U q0).2⟩
   have d2:=ij af ax;obtain⟨k0,k1,k2,a7,aU,aT⟩:=a8 W2 (iq _);go_wp2_with fail;obtain⟨_,_,_,_,l0,ll⟩:=a8.out W2 (iq _);have aG:=d2;refine mP (HI nm hn W2 (ij hw d2)) rfl I aa d2 ?_;clear I;intro w3 I aK;have d3:=ij d2 aK;have b3:=ij (iq W2) aK;obtain⟨k0,k1,k2,a7,l0,ll⟩:=a8.out w3 (b3);go_wp2_with fail;have aA:=ij hw d3;refine jf 9 kp kp ?_;simp only[sD,rP,uB,sS];repeat (go_big_quiet_step ((go_at_call 120;exact mR (aN _ iR))))
   refine wpQuiet_nil ?_;rintro _ ⟨y_,rfl⟩;obtain⟨w4,ab,aJ⟩:∃v,w3.more y_=v/\ik w3 v:=⟨_,rfl,iR⟩;rw[ab];have d4:=ij d3 aJ;have b4:=ij (b3) aJ;obtain⟨k0,k1,k2,a7,l0,ll⟩:=a8.out w4 (b4);go_wp2_with fail;refine mP (E:=iX (decide ((0:Int)<(sz:Int))) 10) (HM _ 10 iI w4 (ij hw d4)) (nQ (fun b=>iX b 10) (decide_eq_decide.2 iu)) I aa d4 ?_;clear I;intro w5 I aI;have d5:=ij d4 aI;have b5:=ij (b4) aI;obtain⟨k0,k1,k2,a7,l0,ll⟩:=a8.out w5 (b5);go_wp2_with fail;refine mP (E:=iX true 11) (HM.out true 11 iI w5 (ij hw d5)) rfl I aa d5 ?_;clear I;intro w6 I bs;have d6:=ij d5 bs;have b6:=ij (b5) bs;obtain⟨k0,k1,k2,a7,l0,ll⟩:=a8.out w6 (b6);go_wp2_with fail;refine mP (E:=iX (decide ((cl.length:Int)<=4)) 3) (HM.out _ 3 iI w6 (ij hw d6)) (nQ (fun b=>iX b 3) (decide_eq_decide.2 iu)) I aa d6 ?_;clear I;intro w7 I aH;have d7:=ij d6 aH;have b7:=ij (b6) aH;obtain⟨k0,k1,k2,a7,l0,ll⟩:=a8.out w7 (b7);go_wp2_with fail;go_loopw [49] (fun i wr=>∃m:Nat,m<=cl.length/\i=.int .i64 (m:Nat)/\Hid (iw (vR J) (cl.take m)=0)/\ik W2 wr) (fun i _=>cl.length-(intOf i).toNat)
   case atStart=>exact⟨0,iu,rfl,iy (by simp[iw]),b7⟩
   case round=>
   obtain⟨m,hm,rfl,ay,a'⟩:=hrel;have av:=ij aG a';obtain⟨rm,aY⟩:=jt (wr);rw[aY]at a' av⊢;obtain⟨k0,k1,k2,a7,l0,ll⟩:=a8 rm (a');by_cases an:m<cl.length
   ·have b_:(m:Int)<(cl.length:Int):=iu
    obtain⟨bm,pm,ym,rfl,bl,aO,ae⟩:=(bf.Sq rm (k:=ij ax a')).part (i:=m) an;obtain⟨a6,t2,o⟩:=ym;have y0:=ae.c0;have y1:=ae.c1;have y2:=ae.c2;have aF:=ae.nm;have al:=ae.tb;simp only[]at y0 y1 y2 aF al;have aj:Hid ((vR J ⟨a6,t2,o⟩)≠0->R=(vR J ⟨a6,t2,o⟩)):=iy fun h=>by
     have h1:=kN (vR J) aO ay h;have h2:=I.trans ((lR (by rw[h1];exact h)).trans h1);exact (aa (by rw[h2];exact h)).trans h2
    have a1:Hid ((vR J ⟨a6,t2,o⟩)=jD (jA a6) (jD (iX (!(t2==2)&&nq J t2 o) 5) 0)):=by show _=_;rw[kE];rfl
    have aQ:Hid ((vR J ⟨a6,t2,o⟩)=0->iw (vR J) (cl.take (m+1))=0):=iy fun h=>(kt (vR J) aO.out ay.out).trans h
    obtain⟨X2,ad⟩:∃X,X=(vR J ⟨a6,t2,o⟩):=⟨_,rfl⟩;replace a1:=iy (ad.trans a1.out);rw[<- ad]at aj aQ;obtain⟨g8,bB⟩:=jt (rm.heap.size);obtain⟨W8,bI,aC,bz⟩:∃W,rm.alloc (.cells #[.string a6,.int .i64 t2,.int .i64 o] 178)=W/\Hid (∀U:World,ik W U->U.cell? ⟨g8,0,none⟩=some (.string a6)/\U.cell? ⟨g8,1,none⟩=some (.int .i64 t2)/\U.cell? ⟨g8,2,none⟩=some (.int .i64 o)/\Le (g8+1) U/\U.cell? ⟨g,0,none⟩=some (.slice eA J.length ec)/\Le (g+1) U)/\ik rm W:=by
     refine⟨_,rfl,fun U hU=>?_,iR⟩;have y0:=(jC rm 178 #[.string a6,.int .i64 t2,.int .i64 o]).after (w':=U);rw[bB]at y0;have q0:=ij hw (ij av (ij iR hU));have q1:=ij (a') (ij iR hU);exact⟨by rw[y0.cell];rfl,by rw[y0.cell];rfl,by rw[y0.cell];rfl,y0.is_le,(HL.out U q0).1,(HL.out U q0).2⟩
    have d8:=ij av bz;obtain⟨n0,n1,n2,aW,aU,aT⟩:=aC.out W8 (iq _);go_wp2_with fail;obtain⟨_,_,_,_,l0,ll⟩:=aC.out W8 (iq _);refine mP (HI a6 aF W8 (ij hw d8)) rfl a1 aj d8 ?_;clear a1;intro w9 a1 br;have d9:=ij d8 br;have b9:=ij (iq W8) br;obtain⟨n0,n1,n2,aW,l0,ll⟩:=aC w9 (b9);by_cases au:t2=2
    ·replace a1:Hid (X2=jD (iX false 5) 0):=by show _=_;rw[a1.out,au];rfl
     have ah:(t2==2)=true:=by rw[beq_iff_eq];exact au
     have b2:(t2 != 2)=false:=by rw[bne,ah];rfl
     go_wp2_with fail;have aA:=ij hw d9;refine jf 15 kp kp ?_;simp only[sD,rP,uB,sS];repeat (go_big_quiet_step (fail))
     refine wpQuiet_nil ?_;rintro _ ⟨y_,rfl⟩;obtain⟨ak,ab,ar⟩:∃v,w9.more y_=v/\ik w9 v:=⟨_,rfl,iR⟩;rw[ab];have aw:=ij d9 ar;have aM:=ij (b9) ar;obtain⟨n0,n1,n2,aW,l0,ll⟩:=aC ak (aM);go_wp2_with fail;exact Nz (E:=iX false 5) (HM.out _ 5 iI ak (ij hw aw)) rfl a1 aj aw
    have ah:(t2==2)=false:=by rw[beq_eq_false_iff_ne];exact au
    have b2:(t2 != 2)=true:=by rw[bne,ah];rfl
    replace a1:Hid (X2=jD (iX (nq J t2 o) 5) 0):=by show _=_;rw[a1.out,ah];rfl
    have HC:Hid (∀U,ik w0 U->Calls prog 121 #[.slice eA J.length ec,.int .i64 t2,.int .i64 o] U fun e w'=>e=.returned (.bool (nq J t2 o))/\∃z,w'=U.more z):=fun U hU=>HH t2 o al U hU
    obtain⟨hb,ba⟩:=jt (nq J t2 o);rw[ba]at HC a1;go_wp2_with fail;have aA:=ij hw d9;refine jf 15 kp kp ?_;simp only[sD,rP,uB,sS];repeat (go_big_quiet_step ((go_at_call 121;exact mR (HC _ iR))))
    refine wpQuiet_nil ?_;rintro _ ⟨y_,rfl⟩;obtain⟨bg,ab,aZ⟩:∃v,w9.more y_=v/\ik w9 v:=⟨_,rfl,iR⟩;rw[ab];have be:=ij d9 aZ;have bw:=ij (b9) aZ;obtain⟨n0,n1,n2,aW,l0,ll⟩:=aC bg (bw);go_wp2_with fail;refine mP (E:=iX hb 5) (HM hb 5 iI bg (ij hw be)) rfl a1 aj be ?_;clear a1;intro aS a1 aq;have bd:=ij be aq;have aL:=ij (bw) aq;obtain⟨n0,n1,n2,aW,l0,ll⟩:=aC aS (aL);go_wp2_with fail;go_roundw
    case rel=>exact⟨m+1,iu,by go_num,iy (aQ a1),ij (a') (ij bz (aL))⟩
    case measure=>simp only[intOf];omega
   replace I:=iy (I.trans (kC (lh (vR J) an ay)));go_wp2_with fail;go_roundw
   case rel=>exact⟨j+1,iu,by go_num,iy (aR I),ij (ag) (ij ax (a'))⟩
   case measure=>simp only[intOf];omega
  replace ai:=iy (ai.trans (kC (lh (jN J false) ao az)));go_wp2_with fail;go_end0;exact by have hz:=ai.out;rw[hz];exact zF af
 |true=>
 go_in;go_wp2_with fail;go_loopw [12] (fun i wr=>∃j:Nat,j<=l.length/\i=.int .i64 (j:Nat)/\Hid (iw (jN J true) (l.take j)=0)/\ik w wr) (fun i _=>l.length-(intOf i).toNat)
 case atStart=>exact⟨0,iu,rfl,iy (by simp[iw]),iq w⟩
 case round=>
 obtain⟨j,hj,rfl,az,ag⟩:=hrel;have af:=ij bp ag;obtain⟨rj,b1⟩:=jt (wr);rw[b1]at ag af⊢;obtain⟨l0,ll⟩:=HK rj (ag);by_cases ao:j<l.length
 ·have b':(j:Int)<(l.length:Int):=iu
  obtain⟨bj,pj,yj,rfl,bn,aP,a_⟩:=(XX.decls rj (k:=ij hw af)).part (i:=j) ao;obtain⟨nm,ty,cA,cc,cl⟩:=yj;have y0:=a_.c0;have y1:=a_.c1;have y2:=a_.c2;have hn:=a_.nm;have aD:=a_.tb;have bf:=iy (a_.cl.below qF (Below.refl _ _));have bc:=a_.cl.len;simp only[]at y0 y1 y2 hn aD bc;have aN:=iy (HZ ty aD);obtain⟨sz,aE⟩:=jt (jV J ty);rw[aE]at aN;have aa:Hid ((jN J true ⟨nm,ty,⟨cA,cc,cl⟩⟩)≠0->R=(jN J true ⟨nm,ty,⟨cA,cc,cl⟩⟩)):=iy fun h=>by
   have h1:=kN (jN J true) aP az h;have h2:=ai.trans ((lR (by rw[h1];exact h)).trans h1);exact h2
  have I:Hid ((jN J true ⟨nm,ty,⟨cA,cc,cl⟩⟩)=jD (jA nm) (jD (iX (decide ((0:Int)<(sz:Int))) 10) (jD (iX (!true||(cl.length:Int)==0) 11) (jD (iX (decide ((cl.length:Int)<=4)) 3) (jD (iw (vR J) cl) 0))))):=by show _=_;rw[kE,<- aE];rfl
  have aR:Hid ((jN J true ⟨nm,ty,⟨cA,cc,cl⟩⟩)=0->iw (jN J true) (l.take (j+1))=0):=iy fun h=>(kt (jN J true) aP az).trans h
  obtain⟨X1,ad⟩:∃X,X=(jN J true ⟨nm,ty,⟨cA,cc,cl⟩⟩):=⟨_,rfl⟩;replace I:=iy (ad.trans I.out);rw[<- ad]at aa aR;obtain⟨g2,bb⟩:=jt (rj.heap.size);obtain⟨W2,bE,a8,ax⟩:∃W,rj.alloc (.cells #[.string nm,.int .i64 ty,.slice cA cl.length cc] 77)=W/\Hid (∀U:World,ik W U->U.cell? ⟨g2,0,none⟩=some (.string nm)/\U.cell? ⟨g2,1,none⟩=some (.int .i64 ty)/\U.cell? ⟨g2,2,none⟩=some (.slice cA cl.length cc)/\Le (g2+1) U/\U.cell? ⟨g,0,none⟩=some (.slice eA J.length ec)/\Le (g+1) U)/\ik rj W:=by
   refine⟨_,rfl,fun U hU=>?_,iR⟩;have y0:=(jC rj 77 #[.string nm,.int .i64 ty,.slice cA cl.length cc]).after (w':=U);rw[bb]at y0;have q0:=ij hw (ij af (ij iR hU));have q1:=ij (ag) (ij iR hU);exact⟨by rw[y0.cell];rfl,by rw[y0.cell];rfl,by rw[y0.cell];rfl,y0.is_le,(HL.out U q0).1,(HL.out U q0).2⟩
  have d2:=ij af ax;obtain⟨k0,k1,k2,a7,aU,aT⟩:=a8 W2 (iq _);go_wp2_with fail;obtain⟨_,_,_,_,l0,ll⟩:=a8.out W2 (iq _);clear aU aT;have aG:=d2;refine mP (HI nm hn W2 (ij hw d2)) rfl I aa d2 ?_;clear I;intro w3 I aK;have d3:=ij d2 aK;have b3:=ij (iq W2) aK;clear k0 k1 k2 a7 l0 ll;obtain⟨k0,k1,k2,a7,l0,ll⟩:=a8.out w3 (b3);go_wp2_with fail;have aA:=ij hw d3;refine jf 9 kp kp ?_;simp only[sD,rP,uB,sS];repeat (go_big_quiet_step ((go_at_call 120;exact mR (aN _ iR))))
  refine wpQuiet_nil ?_;rintro _ ⟨y_,rfl⟩;obtain⟨w4,ab,aJ⟩:∃v,w3.more y_=v/\ik w3 v:=⟨_,rfl,iR⟩;rw[ab];clear ab aA;have d4:=ij d3 aJ;have b4:=ij (b3) aJ;clear k0 k1 k2 a7 l0 ll;obtain⟨k0,k1,k2,a7,l0,ll⟩:=a8.out w4 (b4);go_wp2_with fail;refine mP (E:=iX (decide ((0:Int)<(sz:Int))) 10) (HM _ 10 iI w4 (ij hw d4)) (nQ (fun b=>iX b 10) (decide_eq_decide.2 iu)) I aa d4 ?_;clear I;intro w5 I aI;have d5:=ij d4 aI;have b5:=ij (b4) aI;clear k0 k1 k2 a7 l0 ll;obtain⟨k0,k1,k2,a7,l0,ll⟩:=a8.out w5 (b5);by_cases bk:cl.length=0;rotate_left
  ·have aX:((cl.length:Int)==0)=false:=by rw[beq_eq_false_iff_ne];omega
   have bH:(cl.length==0)=false:=by rw[beq_eq_false_iff_ne];omega
   replace I:Hid (X1=jD (iX false 11) (jD (iX (decide ((cl.length:Int)<=4)) 3) (jD (iw (vR J) cl) 0))):=by show _=_;rw[I.out,aX];rfl
   clear bk;go_wp2_with fail;exact Nz (E:=iX false 11) (HM.out _ 11 iI w5 (ij hw d5)) rfl I aa d5
  have aX:((cl.length:Int)==0)=true:=by rw[beq_iff_eq];omega
  replace I:Hid (X1=jD (iX true 11) (jD (iX (decide ((cl.length:Int)<=4)) 3) (jD (iw (vR J) cl) 0))):=by show _=_;rw[I.out,aX];rfl
  clear bk;go_wp2_with fail;refine mP (E:=iX true 11) (HM.out true 11 iI w5 (ij hw d5)) rfl I aa d5 ?_;clear I;intro w7 I aH;have d7:=ij d5 aH;have b7:=ij (b5) aH;clear k0 k1 k2 a7 l0 ll;obtain⟨k0,k1,k2,a7,l0,ll⟩:=a8.out w7 (b7);clear aX;go_wp2_with fail;refine mP (E:=iX (decide ((cl.length:Int)<=4)) 3) (HM.out _ 3 iI w7 (ij hw d7)) (nQ (fun b=>iX b 3) (decide_eq_decide.2 iu)) I aa d7 ?_;clear I;intro w8 I bF;have b8:=ij (b7) bF;clear k0 k1 k2 a7 l0 ll;obtain⟨k0,k1,k2,a7,l0,ll⟩:=a8.out w8 (b8);go_wp2_with fail;go_loopw [49] (fun i wr=>∃m:Nat,m<=cl.length/\i=.int .i64 (m:Nat)/\Hid (iw (vR J) (cl.take m)=0)/\ik W2 wr) (fun i _=>cl.length-(intOf i).toNat)
  case atStart=>exact⟨0,iu,rfl,iy (by simp[iw]),b8⟩
  case round=>
  obtain⟨m,hm,rfl,ay,a'⟩:=hrel;have av:=ij aG a';obtain⟨rm,aY⟩:=jt (wr);rw[aY]at a' av⊢;clear aY wr k0 k1 k2 a7 l0 ll;obtain⟨k0,k1,k2,a7,l0,ll⟩:=a8 rm (a');by_cases an:m<cl.length
  ·have b_:(m:Int)<(cl.length:Int):=iu
   obtain⟨bm,pm,ym,rfl,bl,aO,ae⟩:=(bf.Sq rm (k:=ij ax a')).part (i:=m) an;obtain⟨a6,t2,o⟩:=ym;have y0:=ae.c0;have y1:=ae.c1;have y2:=ae.c2;have aF:=ae.nm;have al:=ae.tb;simp only[]at y0 y1 y2 aF al;clear ae;have aj:Hid ((vR J ⟨a6,t2,o⟩)≠0->R=(vR J ⟨a6,t2,o⟩)):=iy fun h=>by
    have h1:=kN (vR J) aO ay h;have h2:=I.trans ((lR (by rw[h1];exact h)).trans h1);exact (aa (by rw[h2];exact h)).trans h2
   have a1:Hid ((vR J ⟨a6,t2,o⟩)=jD (jA a6) (jD (iX (!(t2==2)&&nq J t2 o) 5) 0)):=by show _=_;rw[kE];rfl
   have aQ:Hid ((vR J ⟨a6,t2,o⟩)=0->iw (vR J) (cl.take (m+1))=0):=iy fun h=>(kt (vR J) aO.out ay.out).trans h
   obtain⟨X2,ad⟩:∃X,X=(vR J ⟨a6,t2,o⟩):=⟨_,rfl⟩;replace a1:=iy (ad.trans a1.out);rw[<- ad]at aj aQ;clear ad;obtain⟨g9,bo⟩:=jt (rm.heap.size);obtain⟨W9,bD,aB,bx⟩:∃W,rm.alloc (.cells #[.string a6,.int .i64 t2,.int .i64 o] 178)=W/\Hid (∀U:World,ik W U->U.cell? ⟨g9,0,none⟩=some (.string a6)/\U.cell? ⟨g9,1,none⟩=some (.int .i64 t2)/\U.cell? ⟨g9,2,none⟩=some (.int .i64 o)/\Le (g9+1) U/\U.cell? ⟨g,0,none⟩=some (.slice eA J.length ec)/\Le (g+1) U)/\ik rm W:=by
    refine⟨_,rfl,fun U hU=>?_,iR⟩;have y0:=(jC rm 178 #[.string a6,.int .i64 t2,.int .i64 o]).after (w':=U);rw[bo]at y0;have q0:=ij hw (ij av (ij iR hU));exact⟨by rw[y0.cell];rfl,by rw[y0.cell];rfl,by rw[y0.cell];rfl,y0.is_le,(HL.out U q0).1,(HL.out U q0).2⟩
   have d9:=ij av bx;obtain⟨n0,n1,n2,aV,aU,aT⟩:=aB.out W9 (iq _);go_wp2_with fail;clear bD bo k0 k1 k2 a7 l0 ll;obtain⟨_,_,_,_,l0,ll⟩:=aB.out W9 (iq _);refine mP (HI a6 aF W9 (ij hw d9)) rfl a1 aj d9 ?_;clear a1;intro ak a1 ar;have aw:=ij d9 ar;have aM:=ij (iq W9) ar;obtain⟨n0,n1,n2,aV,l0,ll⟩:=aB ak (aM);by_cases au:t2=2
   ·replace a1:Hid (X2=jD (iX false 5) 0):=by show _=_;rw[a1.out,au];rfl
    have ah:(t2==2)=true:=by rw[beq_iff_eq];exact au
    have b2:(t2 != 2)=false:=by rw[bne,ah];rfl
    go_wp2_with fail;have aA:=ij hw aw;refine jf 15 (by kernel_rfl) (by kernel_rfl) ?_;simp only[sD,rP,uB,sS];repeat (go_big_quiet_step (fail))
    refine wpQuiet_nil ?_;rintro _ ⟨y_,rfl⟩;obtain⟨bh,ab,b0⟩:∃v,ak.more y_=v/\ik ak v:=⟨_,rfl,iR⟩;rw[ab];have bq:=ij aw b0;have bG:=ij (aM) b0;obtain⟨n0,n1,n2,aV,l0,ll⟩:=aB bh (bG);go_wp2_with fail;exact Nz (E:=iX false 5) (HM _ 5 (by decide) bh (ij hw bq)) rfl a1 aj bq
   have ah:(t2==2)=false:=by rw[beq_eq_false_iff_ne];exact au
   have b2:(t2 != 2)=true:=by rw[bne,ah];rfl
   replace a1:Hid (X2=jD (iX (nq J t2 o) 5) 0):=by show _=_;rw[a1.out,ah];rfl
   have HC:Hid (∀U,ik w0 U->Calls prog 121 #[.slice eA J.length ec,.int .i64 t2,.int .i64 o] U fun e w'=>e=.returned (.bool (nq J t2 o))/\∃z,w'=U.more z):=fun U hU=>HH t2 o al U hU
   obtain⟨hb,ba⟩:∃b,nq J t2 o=b:=⟨_,rfl⟩;rw[ba]at HC a1;go_wp2_with fail;have aA:=ij hw aw;refine jf 15 (by kernel_rfl) (by kernel_rfl) ?_;simp only[sD,rP,uB,sS];repeat (go_big_quiet_step ((go_at_call 121;exact mR (HC _ inferInstance))))
   refine wpQuiet_nil ?_;rintro _ ⟨y_,rfl⟩;obtain⟨aS,ab,aq⟩:∃v,ak.more y_=v/\ik ak v:=⟨_,rfl,iR⟩;rw[ab];have bd:=ij aw aq;have aL:=ij (aM) aq;obtain⟨n0,n1,n2,aV,l0,ll⟩:=aB aS (aL);go_wp2_with fail;refine mP (E:=iX hb 5) (HM hb 5 iI aS (ij hw bd)) rfl a1 aj bd ?_;clear a1;intro bA a1 bt;have bu:=ij (aL) bt;obtain⟨n0,n1,n2,aV,l0,ll⟩:=aB bA (bu);go_wp2_with fail;go_roundw
   case rel=>exact⟨m+1,iu,by go_num,iy (aQ a1),ij (a') (ij bx (bu))⟩
   case measure=>simp only[intOf];omega
  replace I:=iy (I.trans (kC (lh (vR J) an ay)));go_wp2_with fail;go_roundw
  case rel=>exact⟨j+1,iu,by go_num,iy (aR I),ij (ag) (ij ax (a'))⟩
  case measure=>simp only[intOf];omega
 replace ai:=iy (ai.trans (kC (lh (jN J true) ao az)));go_wp2_with fail;go_end0;exact by have hz:=ai.out;rw[hz];exact zF af
end Go.Proofs.YtnigblndonocfaaGreatDoor
