/- A part of the proof. -/
import Derived.Test.YtnigblndonocfaaGreatDoorSLd
import Derived.Test.YtnigblndonocfaaGreatDoorSLe
set_option linter.unusedVariables false
set_option linter.unusedSimpArgs false
namespace Go.Proofs.YtnigblndonocfaaGreatDoor
set_option maxRecDepth 100000
set_option maxHeartbeats 6400000
open Go.Proofs.Tryz
open Go.RowKit Go.BigFrame
theorem Ct {w0:World} {g:Nat} {nd q:Int} {eA:Option Addr} {ec:Nat} {el:List iW} (h:pK w0 g eA el.length ec nd q) (d:Nat) (hd:¬d<3) (A1:Option Addr) (c1:Nat) (l:List StT) (w:World) (hw:ik w0 w) :
  Calls prog 77 #[.pointer (some ⟨g,0,none⟩),.agg #[.slice A1 l.length c1],.int .i64 (d:Nat)] w fun e w'=>PE w nd q (rK el d (.mk A1 c1 l)) e w':=by
 have HM:Hid (∀b e,e≠0->∀U,ik w0 U->Calls prog 39 #[.pointer (some ⟨g,0,none⟩),.bool b,.int .i64 e] U fun e' w'=>PE U nd q (iX b e) e' w'):=fun b e he U hU=>rC (h.here U (k:=hU)) b e he
 have h3:decide ((d:Int)<3)=false:=decide_eq_false (by omega);have a7:¬(d:Int)<3:=by omega
 have a6:¬d<3:=by omega
 obtain⟨R,I⟩:∃R,rK el d (.mk A1 c1 l)=R:=⟨_,rfl⟩;have o:Hid (R=jD (iX false 3) 0):=by
  show _=_
  rw[<- I,yt,h3];rfl
 rw[I];have a8:=iq w;go_in;go_wp2_with fail;obtain⟨W1,j,J⟩:∃W,w.alloc (.cells #[.slice A1 l.length c1] 131)=W/\ik w W:=⟨_,rfl,inferInstance⟩;try rw[j]
 exact Nz (E:=iX false 3) (HM _ 3 (by decide) W1 (ij hw J)) rfl o (fun _=>rfl) J
theorem Py {w0:World} {g:Nat} {nd q:Int} {eA:Option Addr} {ec:Nat} {el:List iW} (h:pK w0 g eA el.length ec nd q) (hen:ir 2 sM w0 ⟨eA,ec,el⟩) (m:Nat):∀(d:Nat),3-d<=m->∀(A1:Option Addr) (c1:Nat) (l:List StT),zS True w0 (.mk A1 c1 l)->∀w:World,ik w0 w ->
  Calls prog 77 #[.pointer (some ⟨g,0,none⟩),.agg #[.slice A1 l.length c1],.int .i64 (d:Nat)] w fun e w'=>PE w nd q (rK el d (.mk A1 c1 l)) e w':=by
 induction m with
 |zero=>
  intro d hd A1 c1 l hx w hw;exact Ct h d iu A1 c1 l w hw
 |succ m ih=>
 intro d hd A1 c1 l hx w hw;by_cases cc:d<3;rotate_left
 ·exact Ct h d cc A1 c1 l w hw
 have HI:Hid (∀s:ByteArray,s.size<=140737488355328->∀U,ik w0 U->Calls prog 74 #[.pointer (some ⟨g,0,none⟩),.string s] U fun e w'=>PE U nd q (jA s) e w'):=fun s hs U hU=>tT h s hs U hU
 have HM:Hid (∀b e,e≠0->∀U,ik w0 U->Calls prog 39 #[.pointer (some ⟨g,0,none⟩),.bool b,.int .i64 e] U fun e' w'=>PE U nd q (iX b e) e' w'):=fun b e he U hU=>rC (h.here U (k:=hU)) b e he
 have HD:Hid (∀(A:Option Addr) (c:Nat) (l:List iO),ir 3 jG w0 ⟨A,c,l⟩->∀b U,ik w0 U->Calls prog 75 #[.pointer (some ⟨g,0,none⟩),.slice A l.length c,.bool b] U fun e w'=>PE U nd q (iw (jN el b) l) e w'):=fun A c l hh b U hU=>Cz (en:=⟨eA,ec,el⟩) h hen ⟨A,c,l⟩ hh b U hU
 have HQ:Hid (∀(lA:Option Addr) (lc:Nat) (l:List ByteArray) (k o t v:Int) (s:ByteArray) (A:Option Addr) (c:Nat) (xs:List Tx) (b p:Nat),xv True w0 b p ⟨⟨lA,lc,l⟩,.mk k o t v s A c xs⟩->∀U,ik w0 U->Calls prog 76 #[.pointer (some ⟨g,0,none⟩),.agg #[.slice lA l.length lc,.int .i64 k,.int .i64 o,.int .i64 t,.int .i64 v,.string s,.slice A xs.length c]] U fun e w'=>PE U nd q (rN el ⟨⟨lA,lc,l⟩,.mk k o t v s A c xs⟩) e w'):=fun lA lc l k o t v s A c xs b p hh U hU=>J0 (en:=⟨eA,ec,el⟩) h hen ⟨lA,lc,l⟩ hh.lf hh.ri hh.tb (hh.sz trivial) U hU
 have HT:Hid (∀(A:Option Addr) (c:Nat) (l:List ma),ir 8 (Eo True) w0 ⟨A,c,l⟩->∀(n:Nat) b U,ik w0 U->Calls prog 122 #[.pointer (some ⟨g,0,none⟩),.slice A l.length c,.int .i64 (n:Nat),.bool b] U fun e w'=>PE U nd q (iw (tx el n b) l) e w'):=fun A c l hh n b U hU=>PL (en:=⟨eA,ec,el⟩) h hen ⟨A,c,l⟩ hh n b U hU
 have HA:Hid (∀(A1:Option Addr) (c1:Nat) (l:List StT),zS True w0 (.mk A1 c1 l)->∀U,ik w0 U->Calls prog 77 #[.pointer (some ⟨g,0,none⟩),.agg #[.slice A1 l.length c1],.int .i64 ((d:Int)+1)] U fun e w'=>PE U nd q (rK el (d+1) (.mk A1 c1 l)) e w'):=fun A1 c1 l h U hU=>by
  have hi:=ih (d+1) iu A1 c1 l h U hU;rwa [show ((d+1:Nat):Int)=(d:Int)+1 by omega]at hi
 obtain⟨R,hR⟩:=jt (rK el d (.mk A1 c1 l));have a6:Hid (R=jD (iX true 3) (jD (iX (decide ((0:Int)<(l.length:Int))) 8) (jD (iX (decide ((l.length:Int)<=8)) 3) (jD (iw (AM el l.length d) l) 0)))):=by
  show _=_
  rw[<- hR,yt,kE,show decide ((d:Int)<3)=true from lp iu]
 rw[hR];have HL:Hid (∀U,ik w0 U->U.cell? ⟨g,0,none⟩=some (.slice eA el.length ec)/\Le (g+1) U):=fun U hU=>⟨(h.here U (k:=hU)).fields.1,(h.here U (k:=hU)).fields.2.2.2⟩
 have XX:=iy hx.rows;have cd:=hx.rows.len;simp only[]at cd;have br:=iq w;go_in;obtain⟨g2,cb⟩:=jt (w.heap.size);obtain⟨W2,cg,aq,cl⟩:∃W,w.alloc (.cells #[.slice A1 l.length c1] 131)=W/\Hid (∀U:World,ik W U->U.cell? ⟨g2,0,none⟩=some (.slice A1 l.length c1)/\Le (g2+1) U/\U.cell? ⟨g,0,none⟩=some (.slice eA el.length ec)/\Le (g+1) U)/\ik w W:=by
  refine⟨_,rfl,fun U hU=>?_,iR⟩;have J:=(jC w 131 #[.slice A1 l.length c1]).after (w':=U);rw[cb]at J;have q0:=ij hw (ij br (ij iR hU));have q1:=ij (iq w) (ij iR hU);exact⟨by rw[J.cell];rfl,J.is_le,(HL U q0).1,(HL U q0).2⟩
 have d2:=ij br cl;obtain⟨u0,aN,b1,b0⟩:=aq W2 (iq _);go_wp2_with fail;try rw[cg]
 obtain⟨_,_,l0,ll⟩:=aq W2 (iq _);have bs:=d2;refine mP (E:=iX true 3) (HM _ 3 iI W2 (ij hw d2)) (nQ (fun b=>iX b 3) (lp iu)) a6 (fun _=>rfl) d2 ?_;clear a6;intro w3 a6 bB;have d3:=ij d2 bB;have b3:=ij (iq W2) bB;obtain⟨u0,aN,l0,ll⟩:=aq w3 (b3);go_wp2_with fail;refine mP (E:=iX (decide ((0:Int)<(l.length:Int))) 8) (HM _ 8 iI w3 (ij hw d3)) (nQ (fun b=>iX b 8) (decide_eq_decide.2 iu)) a6 (fun _=>rfl) d3 ?_;clear a6;intro w4 a6 bA;have d4:=ij d3 bA;have b4:=ij (b3) bA;obtain⟨u0,aN,l0,ll⟩:=aq w4 (b4);go_wp2_with fail;refine mP (E:=iX (decide ((l.length:Int)<=8)) 3) (HM _ 3 iI w4 (ij hw d4)) (nQ (fun b=>iX b 3) (decide_eq_decide.2 iu)) a6 (fun _=>rfl) d4 ?_;clear a6;intro w5 a6 cj;have b5:=ij (b4) cj;obtain⟨u0,aN,l0,ll⟩:=aq w5 (b5);go_wp2_with fail;go_loopw [31] (fun i wr=>∃j:Nat,j<=l.length/\i=.int .i64 (j:Nat)/\Hid (iw (AM el l.length d) (l.take j)=0)/\ik W2 wr) (fun i _=>l.length-(intOf i).toNat)
 case atStart=>exact⟨0,iu,rfl,iy (by simp[iw]),b5⟩
 case round=>
 obtain⟨j,hj,rfl,b',aD⟩:=hrel;have aC:=ij bs aD;obtain⟨rj,c2⟩:=jt (wr);rw[c2]at aD aC⊢;obtain⟨u0,aN,l0,ll⟩:=aq rj (aD);by_cases aR:j<l.length
 ·have c9:(j:Int)<(l.length:Int):=iu
  obtain⟨bj,pj,yj,rfl,cp,b6,ch⟩:=(XX.sts rj (k:=ij hw aC)).part (i:=j) aR;obtain⟨nm,⟨ag,af,lo⟩,⟨an,al,eq⟩,aA,ac,au,⟨ae,ab,ul⟩,⟨aa,a',ut⟩⟩:=yj;obtain⟨_,_,bP⟩:=XX.elem (i:=j) b6;obtain⟨c3,b_,aL,b9,b8,aM⟩:=tY.parts bP.2;replace b_:=iy b_;replace aL:=iy aL;replace b9:=iy b9;replace b8:=iy b8;replace aM:=iy aM;have bh:=aL.len;have bg:=aM.len;obtain⟨J,y1,y2,y3,y4,y5⟩:=ch.1;simp only[StT.name,StT.locals,StT.eqs,StT.ad,StT.cap,StT.autos,StT.unl,StT.unt]at J y1 y2 y3 y4 y5;simp only[]at bh bg;have a7:Hid ((AM el l.length d (.mk nm ⟨ag,af,lo⟩ ⟨an,al,eq⟩ aA ac au ⟨ae,ab,ul⟩ ⟨aa,a',ut⟩))≠0->R=(AM el l.length d (.mk nm ⟨ag,af,lo⟩ ⟨an,al,eq⟩ aA ac au ⟨ae,ab,ul⟩ ⟨aa,a',ut⟩))):=iy fun h=>by
   have h1:=kN (AM el l.length d) b6 b' h;have h2:=a6.trans ((lR (by rw[h1];exact h)).trans h1);exact h2
  have I:Hid ((AM el l.length d (.mk nm ⟨ag,af,lo⟩ ⟨an,al,eq⟩ aA ac au ⟨ae,ab,ul⟩ ⟨aa,a',ut⟩))=jD (jA nm) (jD (iX (decide ((lo.length:Int)<=256)&&(decide ((eq.length:Int)<=256)&&(decide ((au.length:Int)<=8)&&(decide ((ul.length:Int)<=4)&&decide ((ut.length:Int)<=4))))) 3) (jD (iw (jN el false) lo) (jD (iw (rN el) eq) (jD (iw (rK el (d+1)) au) (jD (iw (tx el l.length true) ul) (jD (iw (tx el l.length false) ut) 0))))))):=by show _=_;rw[IY]
  have bQ:Hid ((AM el l.length d (.mk nm ⟨ag,af,lo⟩ ⟨an,al,eq⟩ aA ac au ⟨ae,ab,ul⟩ ⟨aa,a',ut⟩))=0->iw (AM el l.length d) (l.take (j+1))=0):=iy fun h=>(kt (AM el l.length d) b6 b').trans h
  obtain⟨X1,aj⟩:∃X,X=(AM el l.length d (.mk nm ⟨ag,af,lo⟩ ⟨an,al,eq⟩ aA ac au ⟨ae,ab,ul⟩ ⟨aa,a',ut⟩)):=⟨_,rfl⟩;replace I:=iy (aj.trans I);rw[<- aj]at a7 bQ;obtain⟨g6,ca⟩:=jt (rj.heap.size);obtain⟨W6,cf,ah,bM⟩:∃W,rj.alloc (.cells #[.string nm,.slice ag lo.length af,.slice an eq.length al,.slice aA au.length ac,.slice ae ul.length ab,.slice aa ut.length a'] 184)=W/\Hid (∀U:World,ik W U->U.cell? ⟨g6,0,none⟩=some (.string nm)/\U.cell? ⟨g6,1,none⟩=some (.slice ag lo.length af)/\U.cell? ⟨g6,2,none⟩=some (.slice an eq.length al)/\U.cell? ⟨g6,3,none⟩=some (.slice aA au.length ac)/\U.cell? ⟨g6,4,none⟩=some (.slice ae ul.length ab)/\U.cell? ⟨g6,5,none⟩=some (.slice aa ut.length a')/\Le (g6+1) U/\U.cell? ⟨g,0,none⟩=some (.slice eA el.length ec)/\Le (g+1) U/\U.cell? ⟨g2,0,none⟩=some (.slice (some ⟨bj,pj,none⟩) l.length c1)/\Le (g2+1) U)/\ik rj W:=by
   refine⟨_,rfl,fun U hU=>?_,iR⟩;have J:=(jC rj 184 #[.string nm,.slice ag lo.length af,.slice an eq.length al,.slice aA au.length ac,.slice ae ul.length ab,.slice aa ut.length a']).after (w':=U);rw[ca]at J;have q0:=ij hw (ij aC (ij iR hU));have q1:=ij (aD) (ij iR hU);exact⟨by rw[J.cell];rfl,by rw[J.cell];rfl,by rw[J.cell];rfl,by rw[J.cell];rfl,by rw[J.cell];rfl,by rw[J.cell];rfl,J.is_le,(HL U q0).1,(HL U q0).2,(aq U q1).1,(aq U q1).2.1⟩
  have d6:=ij aC bM;obtain⟨k0,k1,k2,k3,k4,k5,ar,b1,b0,ct,cr⟩:=ah W6 (iq _);go_wp2_with fail;try rw[cf]
  obtain⟨_,_,_,_,_,_,_,l0,ll,ua,ub⟩:=ah W6 (iq _);have aT:=d6;refine mP (HI nm c3 W6 (ij hw d6)) rfl I a7 d6 ?_;clear I;intro w7 I bz;have d7:=ij d6 bz;have b7:=ij (iq W6) bz;obtain⟨k0,k1,k2,k3,k4,k5,ar,l0,ll,ua,ub⟩:=ah w7 (b7);by_cases ax:(lo.length:Int)<=256;rotate_left
  ·replace I:Hid (X1=jD (iX false 3) (jD (iw (jN el false) lo) (jD (iw (rN el) eq) (jD (iw (rK el (d+1)) au) (jD (iw (tx el l.length true) ul) (jD (iw (tx el l.length false) ut) 0)))))):=by show _=_;rw[I.out,decide_eq_false ax];simp only[qu,qT]
   have c8:¬lo.length<=256:=iu;go_wp2_with fail;exact Nz (E:=iX false 3) (HM _ 3 iI w7 (ij hw d7)) rfl I a7 d7
  have c8:lo.length<=256:=iu;by_cases aB:(eq.length:Int)<=256;rotate_left
  ·replace I:Hid (X1=jD (iX false 3) (jD (iw (jN el false) lo) (jD (iw (rN el) eq) (jD (iw (rK el (d+1)) au) (jD (iw (tx el l.length true) ul) (jD (iw (tx el l.length false) ut) 0)))))):=by show _=_;rw[I.out,lp ax,decide_eq_false aB];simp only[qu,qT]
   have c7:¬eq.length<=256:=iu;go_wp2_with fail;exact Nz (E:=iX false 3) (HM _ 3 iI w7 (ij hw d7)) rfl I a7 d7
  have c7:eq.length<=256:=iu;by_cases aO:(au.length:Int)<=8;rotate_left
  ·replace I:Hid (X1=jD (iX false 3) (jD (iw (jN el false) lo) (jD (iw (rN el) eq) (jD (iw (rK el (d+1)) au) (jD (iw (tx el l.length true) ul) (jD (iw (tx el l.length false) ut) 0)))))):=by show _=_;rw[I.out,lp ax,lp aB,decide_eq_false aO];simp only[qu,qT]
   have c6:¬au.length<=8:=iu;go_wp2_with fail;exact Nz (E:=iX false 3) (HM _ 3 iI w7 (ij hw d7)) rfl I a7 d7
  have c6:au.length<=8:=iu;by_cases b2:(ul.length:Int)<=4;rotate_left
  ·replace I:Hid (X1=jD (iX false 3) (jD (iw (jN el false) lo) (jD (iw (rN el) eq) (jD (iw (rK el (d+1)) au) (jD (iw (tx el l.length true) ul) (jD (iw (tx el l.length false) ut) 0)))))):=by show _=_;rw[I.out,lp ax,lp aB,lp aO,decide_eq_false b2];simp only[qu,qT]
   have c5:¬ul.length<=4:=iu;go_wp2_with fail;exact Nz (E:=iX false 3) (HM _ 3 iI w7 (ij hw d7)) (nQ (fun b=>iX b 3) (decide_eq_false iu)) I a7 d7
  have c5:ul.length<=4:=iu;by_cases bm:(ut.length:Int)<=4;rotate_left
  ·replace I:Hid (X1=jD (iX false 3) (jD (iw (jN el false) lo) (jD (iw (rN el) eq) (jD (iw (rK el (d+1)) au) (jD (iw (tx el l.length true) ul) (jD (iw (tx el l.length false) ut) 0)))))):=by show _=_;rw[I.out,lp ax,lp aB,lp aO,lp b2,decide_eq_false bm];simp only[qu,qT]
   have c4:¬ut.length<=4:=iu;go_wp2_with fail;exact Nz (E:=iX false 3) (HM _ 3 iI w7 (ij hw d7)) (nQ (fun b=>iX b 3) (decide_eq_false iu)) I a7 d7
  have c4:ut.length<=4:=iu;replace I:Hid (X1=jD (iX true 3) (jD (iw (jN el false) lo) (jD (iw (rN el) eq) (jD (iw (rK el (d+1)) au) (jD (iw (tx el l.length true) ul) (jD (iw (tx el l.length false) ut) 0)))))):=by show _=_;rw[I.out,lp ax,lp aB,lp aO,lp b2,lp bm];rfl
  go_wp2_with fail;refine mP (E:=iX true 3) (HM _ 3 iI w7 (ij hw d7)) (nQ (fun b=>iX b 3) (lp iu)) I a7 d7 ?_;clear I;intro bb I aV;have bx:=ij d7 aV;have bL:=ij (b7) aV;obtain⟨k0,k1,k2,k3,k4,k5,ar,l0,ll,ua,ub⟩:=ah bb (bL);go_wp2_with fail;refine mP (HD ag af lo b_ false bb (ij hw bx)) rfl I a7 bx ?_;clear I;intro bY I bF;have bK:=ij (bL) bF;obtain⟨k0,k1,k2,k3,k4,k5,ar,l0,ll,ua,ub⟩:=ah bY (bK);go_wp2_with fail;go_loopw [74] (fun i wr=>∃m_:Nat,m_<=eq.length/\i=.int .i64 (m_:Nat)/\Hid (iw (rN el) (eq.take m_)=0)/\ik W6 wr) (fun i _=>eq.length-(intOf i).toNat)
  case atStart=>exact⟨0,iu,rfl,iy (by simp[iw]),bK⟩
  case round=>
  obtain⟨m_,cu,rfl,aJ,a_⟩:=hrel;have av:=ij aT a_;obtain⟨aw,be⟩:=jt (wr);rw[be]at a_ av⊢;obtain⟨k0,k1,k2,k3,k4,k5,ar,l0,ll,ua,ub⟩:=ah aw (a_);by_cases ay:m_<eq.length
  ·have bR:(m_:Int)<(eq.length:Int):=iu
   obtain⟨cw,cq,bT,rfl,c_,aE,aS⟩:=(aL.eqs aw (k:=ij hw av)).part (i:=m_) ay;obtain⟨⟨qA,qc,ql⟩,⟨k,o,t,v,s,A,c,xs⟩⟩:=bT;obtain⟨_,_,bN⟩:=aL.elem (i:=m_) aE;have cm:=iy bN;obtain⟨z0,z1,z2,z3,z4,z5⟩:=aS.six;have z6:=aS.c0;simp only[txs]at z0 z1 z2 z3 z4 z5 z6;have aG:Hid ((rN el ⟨⟨qA,qc,ql⟩,.mk k o t v s A c xs⟩)≠0->R=(rN el ⟨⟨qA,qc,ql⟩,.mk k o t v s A c xs⟩)):=iy fun h=>by
    have h1:=kN (rN el) aE aJ h;have h2:=I.trans ((lR (by rw[h1];exact h)).trans h1);exact (a7 (by rw[h2];exact h)).trans h2
   have a1:Hid ((rN el ⟨⟨qA,qc,ql⟩,.mk k o t v s A c xs⟩)=jD (rN el ⟨⟨qA,qc,ql⟩,.mk k o t v s A c xs⟩) 0):=iB (kE _).symm;have aY:Hid ((rN el ⟨⟨qA,qc,ql⟩,.mk k o t v s A c xs⟩)=0->iw (rN el) (eq.take (m_+1))=0):=iy fun h=>(kt (rN el) aE aJ).trans h
   obtain⟨X2,aj⟩:∃X,X=(rN el ⟨⟨qA,qc,ql⟩,.mk k o t v s A c xs⟩):=⟨_,rfl⟩;replace a1:=iy (aj.trans a1);rw[<- aj]at aG aY;obtain⟨ak,bl⟩:=jt (aw.heap.size);obtain⟨aQ,bo,aI,aX⟩:∃W,aw.alloc (.cells #[.slice qA ql.length qc,.int .i64 k,.int .i64 o,.int .i64 t,.int .i64 v,.string s,.slice A xs.length c] 79)=W/\Hid (∀U:World,ik W U->U.cell? ⟨ak,0,none⟩=some (.slice qA ql.length qc)/\U.cell? ⟨ak,1,none⟩=some (.int .i64 k)/\U.cell? ⟨ak,2,none⟩=some (.int .i64 o)/\U.cell? ⟨ak,3,none⟩=some (.int .i64 t)/\U.cell? ⟨ak,4,none⟩=some (.int .i64 v)/\U.cell? ⟨ak,5,none⟩=some (.string s)/\U.cell? ⟨ak,6,none⟩=some (.slice A xs.length c)/\Le (ak+1) U/\U.cell? ⟨g,0,none⟩=some (.slice eA el.length ec)/\Le (g+1) U)/\ik aw W:=by
    refine⟨_,rfl,fun U hU=>?_,iR⟩;have J:=(jC aw 79 #[.slice qA ql.length qc,.int .i64 k,.int .i64 o,.int .i64 t,.int .i64 v,.string s,.slice A xs.length c]).after (w':=U);rw[bl]at J;have q0:=ij hw (ij av (ij iR hU));have q1:=ij (a_) (ij iR hU);exact⟨by rw[J.cell];rfl,by rw[J.cell];rfl,by rw[J.cell];rfl,by rw[J.cell];rfl,by rw[J.cell];rfl,by rw[J.cell];rfl,by rw[J.cell];rfl,J.is_le,(HL U q0).1,(HL U q0).2⟩
   have bw:=ij av aX;obtain⟨f0,f1,f2,f3,f4,f5,f6,bd,b1,b0⟩:=aI aQ (iq _);go_wp2_with fail;try rw[bo]
   obtain⟨_,_,_,_,_,_,_,_,l0,ll⟩:=aI aQ (iq _);refine mP (HQ qA qc ql k o t v s A c xs _ _ cm aQ (ij hw bw)) rfl a1 aG bw ?_;clear a1;intro bX a1 bE;have bJ:=ij (iq aQ) bE;obtain⟨f0,f1,f2,f3,f4,f5,f6,bd,l0,ll⟩:=aI bX (bJ);go_wp2_with fail;go_roundw
   case rel=>exact⟨m_+1,iu,by go_num,iy (aY a1),ij (a_) (ij aX (bJ))⟩
   case measure=>simp only[intOf];omega
  replace I:=iy (I.trans (kC (lh (rN el) ay aJ)));go_wp2_with fail;go_loopw [85] (fun i wr=>∃i_:Nat,i_<=au.length/\i=.int .i64 (i_:Nat)/\Hid (iw (rK el (d+1)) (au.take i_)=0)/\ik W6 wr) (fun i _=>au.length-(intOf i).toNat)
  case atStart=>exact⟨0,iu,rfl,iy (by simp[iw]),a_⟩
  case round=>
  obtain⟨i_,cv,rfl,aK,ao⟩:=hrel;have a8:ik w wr:=ij aT ao;obtain⟨ai,bf⟩:∃r,wr=r:=⟨_,rfl⟩;rw[bf]at ao a8⊢;obtain⟨k0,k1,k2,k3,k4,k5,ar,l0,ll,ua,ub⟩:=ah ai (ao);by_cases az:i_<au.length
  ·have bS:(i_:Int)<(au.length:Int):=by omega
   obtain⟨ck,bZ,bU,rfl,c',aF,bp⟩:=(aM.Ru ai (k:=ij hw a8)).part (i:=i_) az;obtain⟨xA,xc,xl⟩:=bU;obtain⟨_,_,bO⟩:=aM.elem (i:=i_) aF;have cn:=iB bO;have J:ai.cell? ⟨ck,bZ+i_,none⟩=some (.slice xA xl.length xc):=by have:=bp.1;rwa [yr]at this
   have aG:Hid ((rK el (d+1) (.mk xA xc xl))≠0->R=(rK el (d+1) (.mk xA xc xl))):=iB fun h=>by
    have h1:=kN (rK el (d+1)) aF aK h;have h2:X1=(rK el (d+1) (.mk xA xc xl)):=I.trans ((lR (by rw[h1];exact h)).trans h1);exact (a7 (by rw[h2];exact h)).trans h2
   have a1:Hid ((rK el (d+1) (.mk xA xc xl))=jD (rK el (d+1) (.mk xA xc xl)) 0):=iB (kE _).symm;have aZ:Hid ((rK el (d+1) (.mk xA xc xl))=0->iw (rK el (d+1)) (au.take (i_+1))=0):=iy fun h=>(kt (rK el (d+1)) aF aK).trans h
   obtain⟨X2,aj⟩:∃X,X=(rK el (d+1) (.mk xA xc xl)):=⟨_,rfl⟩;replace a1:=iy (aj.trans a1);rw[<- aj]at aG aZ;obtain⟨bq,bk⟩:=jt (ai.heap.size);obtain⟨aP,bn,aH,aW⟩:∃W,ai.alloc (.cells #[.slice xA xl.length xc] 131)=W/\Hid (∀U:World,ik W U->U.cell? ⟨bq,0,none⟩=some (.slice xA xl.length xc)/\Le (bq+1) U/\U.cell? ⟨g,0,none⟩=some (.slice eA el.length ec)/\Le (g+1) U)/\ik ai W:=by
    refine⟨_,rfl,fun U hU=>?_,iR⟩;have J:=(jC ai 131 #[.slice xA xl.length xc]).after (w':=U);rw[bk]at J;have q0:=ij hw (ij a8 (ij iR hU));exact⟨by rw[J.cell];rfl,J.is_le,(HL U q0).1,(HL U q0).2⟩
   have bu:=ij a8 aW;obtain⟨f0,bc,b1,b0⟩:=aH aP (iq _);go_wp2_with fail;try rw[bn]
   obtain⟨_,_,l0,ll⟩:=aH aP (iq _);refine mP (HA xA xc xl cn.2 aP (ij hw bu)) rfl a1 aG bu ?_;clear a1;intro bW a1 bD;have bI:=ij (iq aP) bD;obtain⟨f0,bc,l0,ll⟩:=aH bW (bI);go_wp2_with fail;go_roundw
   case rel=>exact⟨i_+1,iu,by go_num,iy (aZ a1),ij (ao) (ij aW (bI))⟩
   case measure=>simp only[intOf];omega
  replace I:=iy (I.trans (kC (lh (rK el (d+1)) az aK)));go_wp2_with fail;refine mP (HT ae ab ul b9 l.length true ai (ij hw a8)) rfl I a7 a8 ?_;clear I;intro ba I aU;have bt:=ij a8 aU;have bH:=ij (ao) aU;obtain⟨k0,k1,k2,k3,k4,k5,ar,l0,ll,ua,ub⟩:=ah ba (bH);go_wp2_with fail;refine mP (HT aa a' ut b8 l.length false ba (ij hw bt)) rfl I a7 bt ?_;clear I;intro bV I bC;have bG:=ij (bH) bC;obtain⟨k0,k1,k2,k3,k4,k5,ar,l0,ll,ua,ub⟩:=ah bV (bG);go_wp2_with fail;go_roundw
  case rel=>exact⟨j+1,iu,by go_num,iy (bQ I),ij (aD) (ij bM (bG))⟩
  case measure=>simp only[intOf];omega
 replace a6:=iy (a6.trans (kC (lh (AM el l.length d) aR b')));go_wp2_with fail;go_end0;exact by have hz:=a6.out;rw[hz];exact zF aC
structure xx (g:Nat) (w w':World):Prop where
 os:w'.os=w.os
 tape:w'.tape=w.tape
 output:w'.output=w.output
 size:w.heap.size<=w'.heap.size
 block:∀k,k<w.heap.size->k≠g->w'.heap[k]?=w.heap[k]?
theorem xx.trans {g:Nat} {a b c:World} (h:xx g a b) (k:xx g b c):xx g a c:=
 ⟨k.os.trans h.os,k.tape.trans h.tape,k.output.trans h.output,jW h.size k.size,fun i hi hg=>(k.block i (rO hi h.size) hg).trans (h.block i hi hg)⟩
theorem xx.of {g:Nat} {w w':World} (h:ik w w'):xx g w w':=⟨h.below.os,h.below.tape,h.below.output,h.below.size,fun k hk _=>h.below.block k hk⟩
theorem xx.set {g:Nat} (w:World) (i:Nat) (v:Value):xx g w (w.setCell ⟨g,i,none⟩ v):=by
 have j:=(Below.refl 0 w).setCell (p:=⟨g,i,none⟩) (wB _) v;exact⟨j.os,j.tape,j.output,j.size,fun k _ o=>Below.heap_setCell w _ v k o⟩
theorem xx.after {g:Nat} {w0 w w':World} (h:xx g w w') (a:ik w0 w) (hg:w0.heap.size<=g):ik w0 w':=
 ⟨⟨h.os.trans a.below.os,h.tape.trans a.below.tape,h.output.trans a.below.output,jW a.below.size h.size,fun k hk=>(h.block k (rO hk a.below.size) iu).trans (a.below.block k hk)⟩⟩
theorem xx.blk {g:Nat} {w w':World} (h:xx g w w') {b:Nat} {t:TypeId} {cs:Array Value} (hb:iP w b t cs) (hg:b≠g):iP w' b t cs:=(h.block b hb.lt hg).trans hb
def ND (w:World) (g:Nat) (A:Option Addr) (n c:Nat) (i:Int) (E q:Int) (e:Ending) (w':World):Prop:=
 xx g w w'/\((E=0/\e=.returned (.tuple #[])/\∃q',pK w' g A n c i q')\/(E≠0/\e=uw i q E))
theorem ND.RD {w:World} {g A n c i E q w'} (hE:E≠0) (h:xx g w w'):ND w g A n c i E q (uw i q E) w':=⟨h,.inr ⟨hE,rfl⟩⟩
theorem ND.Ss {w:World} {g A n c i q w' q'} (h:xx g w w') (l:pK w' g A n c i q'):ND w g A n c i 0 q (.returned (.tuple #[])) w':=⟨h,.inl ⟨rfl,rfl,_,l⟩⟩
def wu {α:Type} (f:α->Int):List α->Nat->Int
 |[],_=>-1
 |x::l,k=>if f x=0 then wu f l (k+1) else k
theorem Ez {α:Type} (f:α->Int):∀{l:List α} {j:Nat} {x:α} (k:Nat),l[j]?=some x->iw f (l.take j)=0->f x≠0->wu f l k=((k+j:Nat):Int)
 |[],j,x,k,h,_,_=>by simp at h
 |a::l,0,x,k,h,_,hx=>by
  simp at h;subst h;rw[wu,iV hx];rfl
 |a::l,j+1,x,k,h,h0,hx=>by
  rw[sD,iw]at h0;have ha:f a=0:=by
   by_cases h:f a=0
   ·exact h
   rw[lR h]at h0;exact absurd h0 h
  rw[kC ha]at h0;rw[wu,iG ha,Ez f (k+1) (by simpa using h) h0 hx];congr 1;omega
theorem AS {α:Type} (f:α->Int):∀(l:List α) (k:Nat),iw f l=0->wu f l k=-1
 |[],_,_=>rfl
 |a::l,k,h0=>by
  rw[iw]at h0;have ha:f a=0:=by
   by_cases h:f a=0
   ·exact h
   rw[lR h]at h0;exact absurd h0 h
  rw[kC ha]at h0;rw[wu,iG ha,AS f l (k+1) h0]
noncomputable def mY (en:List iW) (n:nh):Int:=jD (Ek en n) (jD (iw (rN en) n.eqs.l) (KN en n))
noncomputable def GJ (en:List iW) (n:nh):Int:=if Ek en n=0 then wu (rN en) n.eqs.l 0 else -1
theorem LZ {w0:World} {g:Nat} {nd q:Int} {eA:Option Addr} {ec:Nat} {el:List iW} (h:pK w0 g eA el.length ec nd q) (hen:ir 2 sM w0 ⟨eA,ec,el⟩) (A1:Option Addr) (c1:Nat) (l:List StT) (hx:zS True w0 (.mk A1 c1 l)) (w:World) (hw:ik w0 w) :
  Calls prog 77 #[.pointer (some g),.agg #[.slice A1 l.length c1],.int .i64 0] w fun e w'=>PE w nd q (rK el 0 (.mk A1 c1 l)) e w':=
 Py h hen 3 0 iu A1 c1 l hx w hw
section
def kI (el:List iW) (kw:List UInt8) (x:Tx):List Pc:=rL 1 (mB kw::.sp 32::(kX el x.er++[mf [59]]))
def ya (el:List iW) (n:nh):List Pc:=rL 0 (mB [110,111,100,101]::.sp 32::rM n.name::mf [40]::(kO el n.ins.l++mf [41]::.sp 32::mB [114,101,116,117,114,110,115]::.sp 32::mf [40]::(kO el n.outs.l++[mf [41]])))
def qo (el:List iW) (n:nh):List Pc:=ya el n++(nr el 1 n.locals.l++(n.assume.l.flatMap (kI el [97,115,115,117,109,101])++(n.ensure.l.flatMap (kI el [101,110,115,117,114,101])++(rL 0 [mB [108,101,116]]++(qJ el 1 n.eqs.l n.autos.l++rL 0 [mB [116,101,108]])))))
structure Tm (el:List iW) (n:nh):Prop where
 nm:kT n.name=true
 i:nN el true n.ins.l=0
 o:nN el true n.outs.l=0
 l:nN el false n.locals.l=0
 il:n.ins.l.length<=64
 ol:n.outs.l.length<=64
 ll:n.locals.l.length<=256
 o0:0<n.outs.l.length
 q:iw (rN el) n.eqs.l=0
 ql:n.eqs.l.length<=256
 a:iw (rK el 0) n.autos.l=0
 al:n.autos.l.length<=8
 s:iw (qk el) n.assume.l=0
 sl:n.assume.l.length<=8
 e:iw (qk el) n.ensure.l=0
 el:n.ensure.l.length<=8
theorem yW {el:List iW} {n:nh} (h:mY el n=0):Tm el n:=by
 unfold mY Ek KN at h;obtain⟨j,h⟩:=jI h;obtain⟨R,h⟩:=jI h;obtain⟨ha,h⟩:=jI h;obtain⟨J,he⟩:=jI h;obtain⟨U,j⟩:=jI j;obtain⟨o,j⟩:=jI j;obtain⟨I,j⟩:=jI j;obtain⟨h2,j⟩:=jI j;obtain⟨h3,h4⟩:=jI j;have o:=nJ iI o;have I:=nJ iI I;simp only[mT,decide_eq_true_eq]at o I;exact⟨nS U,h2,h3,h4,iu,iu,iu,iu,R,iu,ha,iu,J,iu,he,iu⟩
section
variable {B:World} {g:Nat} {eA:Option Addr} {ec mb:Nat} {el:List iW}
theorem Np (hB:WB B eA ec el mb) {n:nh} {bn on:Nat} (hP:Gy True B bn on n) (hE:mY el n=0) :
  tG B g eA el.length ec mb 19 [.agg #[.string n.name,.slice n.ins.A n.ins.l.length n.ins.c,.slice n.outs.A n.outs.l.length n.outs.c,.slice n.locals.A n.locals.l.length n.locals.c,.slice n.eqs.A n.eqs.l.length n.eqs.c,.slice n.autos.A n.autos.l.length n.autos.c,.slice n.assume.A n.assume.l.length n.assume.c,.slice n.ensure.A n.ensure.l.length n.ensure.c]] (qo el n):=by
 intro w l h hl;obtain⟨nn,⟨iA,ic,il⟩,⟨oA,oc,ol⟩,⟨lA,lc,ll⟩,⟨qA,qc,ql⟩,⟨aA,ac,al⟩,⟨sA,sc,o⟩,⟨R,J,I⟩⟩:=n;have ok:=yW hE;obtain⟨k1,k2,k3,k4,k5,k6,k7,k8,k9,aJ,aj,aI,aH,aG,aF,aE⟩:=ok;obtain⟨-,-,-,-,-,-,-,-,-,r1,r2,r3,r4,r5,r6,r7⟩:=hP;simp only[]at k1 k2 k3 k4 k5 k6 k7 k8 k9 aJ aj aI aH aG aF aE r1 r2 r3 r4 r5 r6 r7;show Calls prog _ #[.pointer (some g),.agg #[nn,.slice iA il.length ic,.slice oA ol.length oc,.slice lA ll.length lc,.slice qA ql.length qc,.slice aA al.length ac,.slice sA o.length sc,.slice R I.length J]] w _
 clear hE;have b0:=jM k1;have aV:nn.data.toList.length=nn.size:=jr nn;have b1:=qC hB.tg hB.nm k2 (by omega);have aY:=qC hB.tg hB.nm k3 (by omega);obtain⟨TP,au⟩:∃TP,qo el ⟨nn,⟨iA,ic,il⟩,⟨oA,oc,ol⟩,⟨lA,lc,ll⟩,⟨qA,qc,ql⟩,⟨aA,ac,al⟩,⟨sA,sc,o⟩,⟨R,J,I⟩⟩=TP:=⟨_,rfl⟩;rw[au]at hl⊢;have hF:iY TP=iY (ya el ⟨nn,⟨iA,ic,il⟩,⟨oA,oc,ol⟩,⟨lA,lc,ll⟩,⟨qA,qc,ql⟩,⟨aA,ac,al⟩,⟨sA,sc,o⟩,⟨R,J,I⟩⟩)++(iY (nr el 1 ll)++(iY (o.flatMap (kI el [97,115,115,117,109,101]))++(iY (I.flatMap (kI el [101,110,115,117,114,101]))++(iY (rL 0 [mB [108,101,116]])++(iY (qJ el 1 ql al)++iY (rL 0 [mB [116,101,108]])))))):=by
  rw[<- au];unfold qo;rw[iC,iC,iC,iC,iC,iC]
 have aS:=iB (fun U (hU:ik w U)=>Al (mb:=mb) hB.sh hB.tg hB.nm r1 k2 (by omega) U (ij h.aft hU));have aR:=iB (fun U (hU:ik w U)=>Al (mb:=mb) hB.sh hB.tg hB.nm r2 k3 (by omega) U (ij h.aft hU));obtain⟨S1,e1,g1⟩:=jh (A:=⟨#[110,111,100,101,32]⟩) (a:=[110,111,100,101,32]) (B:=nn) rfl (qd nn).symm (by simp;omega);obtain⟨S2,e2,g2⟩:=jh (B:=⟨#[40]⟩) (b:=[40]) e1 rfl (by simp;omega);obtain⟨S3,e3,g3⟩:=jh (B:=lG (iY (kO el il))) e2 rfl (by simp;omega);obtain⟨S4,e4,g4⟩:=jh (B:=⟨#[41,32,114,101,116,117,114,110,115,32,40]⟩) (b:=[41,32,114,101,116,117,114,110,115,32,40]) e3 rfl (by simp;omega);obtain⟨S5,e5,g5⟩:=jh (B:=lG (iY (kO el ol))) e4 rfl (by simp;omega);obtain⟨S6,e6,g6⟩:=jh (B:=⟨#[41]⟩) (b:=[41]) e5 rfl (by simp;omega);rw[hF]at hl;simp only[mo]at hl;have HA:Hid (∀U,ik w U->Calls prog 17 #[.pointer (some g),.int .i64 0,S6] U fun e w'=>e=.returned (.tuple #[])/\Ln B g eA el.length ec mb w' (l++iY (rL 0 (mB [110,111,100,101]::.sp 32::rM nn::mf [40]::(kO el il++mf [41]::.sp 32::mB [114,101,116,117,114,110,115]::.sp 32::mf [40]::(kO el ol++[mf [41]])))))/\vP g U w'):=iB fun U hU=>by
  have:=rE U l 0 (mB [110,111,100,101]::.sp 32::rM nn::mf [40]::(kO el il++mf [41]::.sp 32::mB [114,101,116,117,114,110,115]::.sp 32::mf [40]::(kO el ol++[mf [41]]))) (h.after hU) (by decide) (by unfold ya at hl;simp only[]at hl;omega);rwa [show lG (iY (mB [110,111,100,101]::.sp 32::rM nn::mf [40]::(kO el il++mf [41]::.sp 32::mB [114,101,116,117,114,110,115]::.sp 32::mf [40]::(kO el ol++[mf [41]]))))=S6 from by rw[e6,kH,jn,lQ,jl,iC,jl,jn,kH,jn,jl,iC,jl,ja];simp]at this
 rw[show rL 0 (mB [110,111,100,101]::.sp 32::rM nn::mf [40]::(kO el il++mf [41]::.sp 32::mB [114,101,116,117,114,110,115]::.sp 32::mf [40]::(kO el ol++[mf [41]])))=ya el ⟨nn,⟨iA,ic,il⟩,⟨oA,oc,ol⟩,⟨lA,lc,ll⟩,⟨qA,qc,ql⟩,⟨aA,ac,al⟩,⟨sA,sc,o⟩,⟨R,J,I⟩⟩ from rfl]at HA;have WL:=iB (BP (g:=g) hB r3 k4 (by omega) 1 (by decide));have WT:Hid (∀(w:World) (l:List UInt8),Ln B g eA el.length ec mb w l->l.length+(iY (rL 0 [mB [108,101,116]])).length<=140737488355328->Calls prog 17 #[.pointer (some g),.int .i64 0,.string ⟨#[108,101,116]⟩] w fun e w'=>e=.returned (.tuple #[])/\Ln B g eA el.length ec mb w' (l++iY (rL 0 [mB [108,101,116]]))/\vP g w w'):=iB fun w l h hl=>rE w l 0 [mB [108,101,116]] h (by decide) hl
 have WE:Hid (∀(w:World) (l:List UInt8),Ln B g eA el.length ec mb w l->l.length+(iY (rL 0 [mB [116,101,108]])).length<=140737488355328->Calls prog 17 #[.pointer (some g),.int .i64 0,.string ⟨#[116,101,108]⟩] w fun e w'=>e=.returned (.tuple #[])/\Ln B g eA el.length ec mb w' (l++iY (rL 0 [mB [116,101,108]]))/\vP g w w'):=iB fun w l h hl=>rE w l 0 [mB [116,101,108]] h (by decide) hl
 have av:=iB (LC (g:=g) hB r4 k9 r5 aj 1 (by decide));unfold tG at WL av;generalize ya el ⟨nn,⟨iA,ic,il⟩,⟨oA,oc,ol⟩,⟨lA,lc,ll⟩,⟨qA,qc,ql⟩,⟨aA,ac,al⟩,⟨sA,sc,o⟩,⟨R,J,I⟩⟩=HP at HA hF hl;generalize iY HP=R1 at HA hF hl;generalize iY (nr el 1 ll)=R2 at WL hF hl;generalize iY (rL 0 [mB [108,101,116]])=R5 at WT hF hl;generalize iY (qJ el 1 ql al)=R6 at av hF hl;generalize iY (rL 0 [mB [116,101,108]])=R7 at WE hF hl;have HF:=iB hF;have HL:=iB hl;generalize lG (iY (kO el il))=J1 at aS g3;generalize lG (iY (kO el ol))=J2 at aR g5;have HH:=iB h;have lg:Le (g+1) w:=⟨h.lt⟩;obtain⟨c0,c1⟩:=h.cells;have aU:=r6.len;have aZ:=r7.len;simp only[]at aU aZ;clear h hF hl au r1 r2 r3 r4 r5 k1 k2 k3 k4 k5 k6 k7 k8 k9 aJ aj aI aG aE b0 aV b1 aY e1 e2 e3 e4 e5 e6;go_in;go_wp2_with fail;refine jf 23 (by kernel_rfl) (by kernel_rfl) ?_;simp only[sD,rP,uB,sS];repeat (go_big_quiet_step (first | (go_at_call 45;with_reducible exact mR (aS.out _ inferInstance)) | (go_at_call 45;with_reducible exact mR (aR.out _ inferInstance))))
 refine wpQuiet_nil ?_;rintro _ ⟨y_,rfl⟩;go_wp2_with fail;refine (HA _ inferInstance).mono ?_;rintro e w1 ⟨rfl,aL,ag⟩;have ax:ik w ((w.alloc (.cells #[nn,.slice iA il.length ic,.slice oA ol.length oc,.slice lA ll.length lc,.slice qA ql.length qc,.slice aA al.length ac,.slice sA o.length sc,.slice R I.length J] 65)).more y_):=inferInstance;have ar:iP ((w.alloc (.cells #[nn,.slice iA il.length ic,.slice oA ol.length oc,.slice lA ll.length lc,.slice qA ql.length qc,.slice aA al.length ac,.slice sA o.length sc,.slice R I.length J] 65)).more y_) w.heap.size 65 #[nn,.slice iA il.length ic,.slice oA ol.length oc,.slice lA ll.length lc,.slice qA ql.length qc,.slice aA al.length ac,.slice sA o.length sc,.slice R I.length J]:=(jC w 65 #[nn,.slice iA il.length ic,.slice oA ol.length oc,.slice lA ll.length lc,.slice qA ql.length qc,.slice aA al.length ac,.slice sA o.length sc,.slice R I.length J]).more y_;have ao:=HH.loc ax (js _) ar.lt;have az:=iB (ao.Dh ag);have ai:=iB (ao.blk ag ar);have aN:=iB ((D_ ax HH.lt).trans ag);have aQ:=iB aL;have lb:Le (w.heap.size+1) w1:=⟨ai.lt⟩;have x3:w1.cell? ⟨w.heap.size,3,none⟩=some (.slice lA ll.length lc):=ai.cell 3;clear aL ag ao ar ax c0 c1 lg;go_wp2_with fail;refine (WL w1 _ aQ (by have:=HL.out;simp only[mo];omega)).mono ?_;rintro e w2 ⟨rfl,aa,a6⟩;have ay:=iB (az.Dh a6);have ah:=iB (az.blk a6 ai);have aM:=iB (aN.trans a6);have ba:=iB aa;clear lb x3 az ai aN aQ aa a6;have lb:Le (w.heap.size+1) w2:=⟨ah.lt⟩;have x6:w2.cell? ⟨w.heap.size,6,none⟩=some (.slice sA o.length sc):=ah.cell 6
 go_wp2_with fail;clear lb x6;go_loopw [39] (fun i wr=>∃j:Nat,j<=o.length/\i=.int .i64 j/\Hid (Ln B g eA el.length ec mb wr (((l++R1)++R2)++iY ((o.take j).flatMap (kI el [97,115,115,117,109,101]))))/\Hid (vP g w2 wr)) (fun i _=>o.length-(intOf i).toNat)
 case atStart=>exact⟨0,by omega,rfl,by show Ln _ _ _ _ _ _ _ _;rw[rP];show Ln _ _ _ _ _ _ _ (_++[]);rw[oV];exact ba,Iq _ _⟩
 case round=>
 obtain⟨j,hj,rfl,HN,HS⟩:=hrel;have lg:Le (g+1) wr:=⟨HN.lt⟩;obtain⟨c0,c1⟩:=HN.cells;by_cases an:j<o.length
 ·obtain⟨b,p,t,af,aK,HY,hP⟩:=(r6.txs wr (k:=HN.aft)).part (i:=j) an
  simp only[]at af;subst af;have aq:(j:Int)<(o.length:Int):=by omega
  obtain⟨b9,o9,ae⟩:=r6.elem HY.out;obtain⟨ad,ab⟩:=vh (mb:=mb) hB.sh hB.sy hB.tg ae.rx (jd aH t (om HY.out));have a_:=ui (l:=o) (kI el [97,115,115,117,109,101]) HY.out;have a7:=AK (kI el [97,115,115,117,109,101]) o (j+1);obtain⟨kk,oo,tt,vv,ss,AA,cc,xs⟩:=t;obtain⟨f0,f1,f2,f3,f4,f5⟩:=hP.six;simp only[txs]at f0 f1 f2 f3 f4 f5;obtain⟨x,a1⟩:∃x,iY (kX el (Tx.mk kk oo tt vv ss AA cc xs).er)=x:=⟨_,rfl⟩;have HE:Hid (∀U,ik wr U->Calls prog 47 #[.agg #[.slice eA el.length ec,.map (some mb)],.agg #[kk,oo,tt,vv,ss,.slice AA xs.length cc]] U fun e w'=>e=.returned (.string (lG x))/\∃z,w'=U.more z):=iB fun U hU=>by
   have:=ad U (ij HN.out.aft hU);rwa [a1]at this
  rw[a1]at ab;have a8:(((l++R1)++R2)++iY ((o.take j).flatMap (kI el [97,115,115,117,109,101]))).length+(iY (kI el [97,115,115,117,109,101] (Tx.mk kk oo tt vv ss AA cc xs))).length<=140737488355328:=by
   have h1:=HL.out;rw[a_,mo]at a7;simp only[mo];omega
  have aw:Hid (((l++R1)++R2)++iY ((o.take (j+1)).flatMap (kI el [97,115,115,117,109,101]))=(((l++R1)++R2)++iY ((o.take j).flatMap (kI el [97,115,115,117,109,101])))++iY (kI el [97,115,115,117,109,101] (Tx.mk kk oo tt vv ss AA cc xs))):=by
   show _=_
   rw[a_];simp only[kD]
  obtain⟨S1,e1,g1⟩:=jh (A:=⟨#[97,115,115,117,109,101,32]⟩) (a:=[97,115,115,117,109,101,32]) (B:=lG x) rfl rfl (by simp;omega);obtain⟨S2,e2,g2⟩:=jh (B:=⟨#[59]⟩) (b:=[59]) e1 rfl (by simp;omega);have HA:=ur HN.out 1 (by decide) (mB [97,115,115,117,109,101]::.sp 32::(kX el (Tx.mk kk oo tt vv ss AA cc xs).er++[mf [59]])) (S:=S2)
   (by rw[e2,kH,jn,iC,a1,jl,ja];simp) a8
  clear a_ a7 a8 HY hP ae ad ab a1 e1 e2 r6;go_wp2_with fail;refine jf 9 (by kernel_rfl) (by kernel_rfl) ?_;simp only[sD,rP,uB,sS];repeat (go_big_quiet_step ((go_at_call 47;with_reducible exact mR (HE.out _ inferInstance))))
  refine wpQuiet_nil ?_;rintro _ ⟨y_,rfl⟩;go_wp2_with fail;refine (HA _ inferInstance).mono ?_;rintro e w2 ⟨rfl,aa,a6⟩;go_wp2_with fail;go_roundw
  case rel=>exact⟨j+1,by omega,by go_num,by show Ln _ _ _ _ _ _ _ _;rw[aw.out];exact aa,HS.trans a6⟩
  case measure=>simp[intOf];omega
 obtain rfl:j=o.length:=by omega
 have aq:¬((o.length:Int)<(o.length:Int)):=by omega
 have a':=HN.out;rw[pf]at a';have aB:=iB a';clear a' HN c0 c1 lg;have aP:=iB (ay.Dh HS);have aD:=iB (ay.blk HS ah);have b8:=iB (aM.trans HS);have lb:Le (w.heap.size+1) wr:=⟨aD.lt⟩;have x7:wr.cell? ⟨w.heap.size,7,none⟩=some (.slice R I.length J):=aD.cell 7;clear HS ay ah aM;generalize o.length=n9 at *
 obtain⟨w3,aT⟩:∃w3,w3=wr:=⟨_,rfl⟩;subst aT;go_wp2_with fail;clear lb x7;go_loopw [57] (fun i wr=>∃j:Nat,j<=I.length/\i=.int .i64 j/\Hid (Ln B g eA el.length ec mb wr ((((l++R1)++R2)++iY (o.flatMap (kI el [97,115,115,117,109,101])))++iY ((I.take j).flatMap (kI el [101,110,115,117,114,101]))))/\Hid (vP g w3 wr)) (fun i _=>I.length-(intOf i).toNat)
 case atStart=>exact⟨0,by omega,rfl,by show Ln _ _ _ _ _ _ _ _;rw[rP];show Ln _ _ _ _ _ _ _ (_++[]);rw[oV];exact aB,Iq _ _⟩
 case round=>
 obtain⟨j,hj,rfl,HN,HS⟩:=hrel;have lg:Le (g+1) wr:=⟨HN.lt⟩;obtain⟨c0,c1⟩:=HN.cells;by_cases an:j<I.length
 ·obtain⟨b,p,t,af,aK,HY,hP⟩:=(r7.txs wr (k:=HN.aft)).part (i:=j) an
  simp only[]at af;subst af;have aq:(j:Int)<(I.length:Int):=by omega
  obtain⟨b9,o9,ae⟩:=r7.elem HY.out;obtain⟨ad,ab⟩:=vh (mb:=mb) hB.sh hB.sy hB.tg ae.rx (jd aF t (om HY.out));have a_:=ui (l:=I) (kI el [101,110,115,117,114,101]) HY.out;have a7:=AK (kI el [101,110,115,117,114,101]) I (j+1);obtain⟨kk,oo,tt,vv,ss,AA,cc,xs⟩:=t;obtain⟨f0,f1,f2,f3,f4,f5⟩:=hP.six;simp only[txs]at f0 f1 f2 f3 f4 f5;obtain⟨x,a1⟩:∃x,iY (kX el (Tx.mk kk oo tt vv ss AA cc xs).er)=x:=⟨_,rfl⟩;have HE:Hid (∀U,ik wr U->Calls prog 47 #[.agg #[.slice eA el.length ec,.map (some mb)],.agg #[kk,oo,tt,vv,ss,.slice AA xs.length cc]] U fun e w'=>e=.returned (.string (lG x))/\∃z,w'=U.more z):=iB fun U hU=>by
   have:=ad U (ij HN.out.aft hU);rwa [a1]at this
  rw[a1]at ab;have a8:((((l++R1)++R2)++iY (o.flatMap (kI el [97,115,115,117,109,101])))++iY ((I.take j).flatMap (kI el [101,110,115,117,114,101]))).length+(iY (kI el [101,110,115,117,114,101] (Tx.mk kk oo tt vv ss AA cc xs))).length<=140737488355328:=by
   have h1:=HL.out;rw[a_,mo]at a7;simp only[mo];omega
  have aw:Hid ((((l++R1)++R2)++iY (o.flatMap (kI el [97,115,115,117,109,101])))++iY ((I.take (j+1)).flatMap (kI el [101,110,115,117,114,101]))=((((l++R1)++R2)++iY (o.flatMap (kI el [97,115,115,117,109,101])))++iY ((I.take j).flatMap (kI el [101,110,115,117,114,101])))++iY (kI el [101,110,115,117,114,101] (Tx.mk kk oo tt vv ss AA cc xs))):=by
   show _=_
   rw[a_];simp only[kD]
  obtain⟨S1,e1,g1⟩:=jh (A:=⟨#[101,110,115,117,114,101,32]⟩) (a:=[101,110,115,117,114,101,32]) (B:=lG x) rfl rfl (by simp;omega);obtain⟨S2,e2,g2⟩:=jh (B:=⟨#[59]⟩) (b:=[59]) e1 rfl (by simp;omega);have HA:=ur HN.out 1 (by decide) (mB [101,110,115,117,114,101]::.sp 32::(kX el (Tx.mk kk oo tt vv ss AA cc xs).er++[mf [59]])) (S:=S2)
   (by rw[e2,kH,jn,iC,a1,jl,ja];simp) a8
  clear a_ a7 a8 HY hP ae ad ab a1 e1 e2 r7;go_wp2_with fail;refine jf 9 (by kernel_rfl) (by kernel_rfl) ?_;simp only[sD,rP,uB,sS];repeat (go_big_quiet_step ((go_at_call 47;with_reducible exact mR (HE.out _ inferInstance))))
  refine wpQuiet_nil ?_;rintro _ ⟨y_,rfl⟩;go_wp2_with fail;refine (HA _ inferInstance).mono ?_;rintro e w2 ⟨rfl,aa,a6⟩;go_wp2_with fail;go_roundw
  case rel=>exact⟨j+1,by omega,by go_num,by show Ln _ _ _ _ _ _ _ _;rw[aw.out];exact aa,HS.trans a6⟩
  case measure=>simp[intOf];omega
 obtain rfl:j=I.length:=by omega
 have aq:¬((I.length:Int)<(I.length:Int)):=by omega
 have a':=HN.out;rw[pf]at a';have aB:=iB a';have aO:=iB (aP.Dh HS);have bb:=iB (aP.blk HS aD);have b7:=iB (b8.trans HS);go_wp2_with fail;refine (WT _ _ aB (by have:=HL.out;simp only[mo];omega)).mono ?_;rintro e w5 ⟨rfl,b4,ak⟩;have bc:=iy (aO.Dh ak);have aC:=iB (aO.blk ak bb);have b6:=iB (b7.trans ak);have b':=iB b4;have lb:Le (w.heap.size+1) w5:=⟨aC.lt⟩;have x4:=aC.cell 4;have x5:=aC.cell 5;go_wp2_with fail;refine (av _ _ b' (by have:=HL.out;simp only[mo];omega)).mono ?_;rintro e w6 ⟨rfl,b3,aX⟩;have b_:=iy b3;have b5:=iy (b6.trans aX);go_wp2_with fail;refine (WE _ _ b_ (by have:=HL.out;simp only[mo];omega)).mono ?_;rintro e w7 ⟨rfl,b2,aW⟩;go_wp2_with fail;go_end0;refine⟨rfl,?_,b5.trans aW⟩;rw[HF.out];simpa only[kD] using b2
end
end
abbrev ni:=@xx.of
end Go.Proofs.YtnigblndonocfaaGreatDoor
