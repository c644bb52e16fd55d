/- A part of the proof. -/
import Derived.Test.YtnigblndonocfaaGreatDoorP8
import Derived.Defers
import Derived.Recover
set_option linter.unusedVariables false
set_option linter.unusedSimpArgs false
namespace Go.Proofs.YtnigblndonocfaaGreatDoor
set_option maxRecDepth 100000
set_option maxHeartbeats 6400000
open Go.RowKit Go.BigFrame Go.Proofs.Tryz
theorem J0 {w0:yM} {g nd q} {en:nB iW} (h:pK w0 g en.A en.l en.c nd q) (hen:ir 2 sM w0 en) (x:nB yB) (hx:ir 1 sR w0 x) {k o t v:Int} {s:yB} {A:zA} {c:Nat} {xs:List Tx} (hX:RX w0 (.mk k o t v s A c xs)) (hB:FY (.mk k o t v s A c xs)) (hs:(Tx.mk k o t v s A c xs).size<=2000000) (w:yM) (hw:ik w0 w) :
  Calls prog 76 #[.pointer g,.agg #[(x.A,x.l,x.c),k,o,t,v,s,(A,xs,c)]] w fun e w'=>PE w nd q (rN en.l ⟨x,.mk k o t v s A c xs⟩) e w':=by
 have HI:Hid (∀s:yB,s.size<=140737488355328->∀U,ik w0 U->Calls prog 74 #[.pointer (some g),s] U fun e w'=>PE U nd q (jA s) e w'):=fun s hs U hU=>tT h s hs U hU
 have HM:Hid (∀b e,e≠0->∀U,ik w0 U->Calls prog 39 #[.pointer (some g),.bool b,.int .i64 e] U fun e' w'=>PE U nd q (iX b e) e' w'):=fun b e he U hU=>rC (h.here U (k:=hU)) b e he
 have HG:Hid (∀e,∀U,ik w0 U->Calls prog 78 #[.pointer (some g),.int .i64 e] U fun e' w'=>PE U nd q e e' w'):=fun e U hU=>Au (h.here U (k:=hU)) e
 obtain⟨eA,ec,el⟩:=en;simp only[]at h⊢;have HX:Hid (∀U,ik w0 U->Calls prog 79 #[(eA,el,ec),.agg #[k,o,t,v,s,(A,xs,c)]] U fun e w'=>e=.returned (.int .i64 (qk el (.mk k o t v s A c xs)))/\∃z,w'=U.more z):=fun U hU=>(zX hen hs hX hB U hU).mono fun e w_ h_=>⟨h_.1,have:=h_.2;jP _ _⟩
 obtain⟨R,hR⟩:=jt (rN el ⟨x,.mk k o t v s A c xs⟩);have I:Hid (R=jD (iX (decide ((0:Int)<(x.l:Int))) 8) (jD (iX (decide ((x.l:Int)<=64)) 3) (jD (iw jA x.l) (jD (qk el (.mk k o t v s A c xs)) (jD (iX ((x.l:Int)==1||k==10) 5) 0))))):=by
  show _=_
  rw[<- hR,kE];rfl
 rw[hR];obtain⟨ee,ax⟩:=jt (qk el (.mk k o t v s A c xs));rw[ax]at HX I;have HL:Hid (∀U,ik w0 U->U.cell? g=(eA,el,ec)/\Le (g+1) U):=fun U hU=>⟨(h.here U (k:=hU)).fields.1,(h.here U (k:=hU)).fields.2.2.2⟩
 obtain⟨A1,c1,l⟩:=x;simp only[]at I⊢;have XX:=iy hx;have ay:=hx.len;simp only[]at ay;have ae:=iq w;go_in;obtain⟨g2,aw⟩:=jt (w.heap.size);obtain⟨W2,aI,J,aC⟩:∃W,w.alloc (.cells #[(A1,l,c1),k,o,t,v,s,(A,xs,c)] 79)=W/\Hid (∀U:yM,ik W U->U.cell? g2=(A1,l,c1)/\U.cell? (g2,1)=k/\U.cell? (g2,2)=o/\U.cell? (g2,3)=t/\U.cell? (g2,4)=v/\U.cell? (g2,5)=s/\U.cell? (g2,6)=(A,xs,c)/\Le (g2+1) U/\U.cell? g=(eA,el,ec)/\Le (g+1) U)/\ik w W:=by
  refine⟨_,rfl,fun U hU=>?_,iR⟩;have y0:=(jC w 79 #[(A1,l,c1),k,o,t,v,s,(A,xs,c)]).after (w':=U);rw[aw]at y0;have q0:=ij hw (ij ae (ij iR hU));exact⟨by rw[y0.cell];rfl,by rw[y0.cell];rfl,by rw[y0.cell];rfl,by rw[y0.cell];rfl,by rw[y0.cell];rfl,by rw[y0.cell];rfl,by rw[y0.cell];rfl,y0.is_le,(HL U q0).1,(HL U q0).2⟩
 have d2:=ij ae aC;obtain⟨k0,k1,k2,k3,k4,k5,k6,a1,aF,aE⟩:=J W2 (iq _);go_wp2_with fail;obtain⟨_,_,_,_,_,_,_,_,l0,ll⟩:=J W2 (iq _);have af:=d2;refine mP (E:=iX (decide ((0:Int)<(l:Int))) 8) (HM _ 8 iI W2 (ij hw d2)) (nQ (fun b=>iX b 8) (decide_eq_decide.2 iu)) I (fun _=>rfl) d2 ?_;clear I;intro w3 I ak;have d3:ik w w3:=ij d2 ak;have b3:ik W2 w3:=ij (iq W2) ak;obtain⟨k0,k1,k2,k3,k4,k5,k6,a1,l0,ll⟩:=J w3 (b3);go_wp2_with fail;refine mP (E:=iX (decide ((l:Int)<=64)) 3) (HM _ 3 (by decide) w3 (ij hw d3)) (nQ (fun b=>iX b 3) (decide_eq_decide.2 iu)) I (fun _=>rfl) d3 ?_;clear I;intro w4 I aB;have b4:=ij (b3) aB;obtain⟨k0,k1,k2,k3,k4,k5,k6,a1,l0,ll⟩:=J w4 (b4);go_wp2_with fail;go_loopw [21] (fun i wr=>∃j:Nat,j<=l.length/\i=.int .i64 (j:Nat)/\Hid (iw jA (l.take j)=0)/\ik W2 wr) (fun i _=>l.length-(intOf i).toNat)
 ·exact⟨0,iu,rfl,iy (by simp[iw]),b4⟩
 case round=>
 obtain⟨j,hj,rfl,aa,a8⟩:=hrel;have a6:ik w wr:=ij af a8;obtain⟨rj,au⟩:=jt wr;rw[au]at a8 a6⊢;obtain⟨k0,k1,k2,k3,k4,k5,k6,a1,l0,ll⟩:=J rj (a8);by_cases a_:j<l
 ·have av:(j:Int)<(l:Int):=by omega
  obtain⟨bj,pj,yj,rfl,aD,al,ad⟩:=(XX.strs rj (k:=ij hw a6)).part (i:=j) a_;have y0:rj.cell? (bj,pj+j)=yj:=by have:=ad.1;rwa [yr]at this
  have aq:=ad.2;have an:Hid ((jA yj)≠0->R=(jA yj)):=iB fun h=>by
   have h1:=kN jA al aa h;have h2:R=(jA yj):=I.trans ((lR (by rw[h1];exact h)).trans h1);exact h2
  have a7:Hid ((jA yj)=jD (jA yj) 0):=iB (kE _).symm;have ao:Hid ((jA yj)=0->iw jA (l.take (j+1))=0):=iB fun h=>(kt jA al aa).trans h
  obtain⟨X1,ab⟩:∃X,X=(jA yj):=⟨_,rfl⟩;replace a7:=iB (ab.trans a7);rw[<- ab]at an ao;go_wp2_with fail;refine mP (HI yj aq rj (ij hw a6)) rfl a7 an a6 ?_;clear a7;intro w5 a7 aA;have b5:ik W2 w5:=ij (a8) aA;obtain⟨k0,k1,k2,k3,k4,k5,k6,a1,l0,ll⟩:=J w5 (b5);go_wp2;go_roundw
  case rel=>exact⟨j+1,by omega,by go_num,iB (ao a7),b5⟩
  case measure=>simp only[intOf];omega
 replace I:=iB (I.trans (kC (lh jA a_ aa)));go_wp2_with fail;have aJ:=ij hw a6;refine jf 8 (by kernel_rfl) (by kernel_rfl) ?_;simp only[sD,rP,uB,sS];repeat (go_big_quiet_step ((go_at_call 79;exact mR (HX _ zc))))
 refine wpQuiet_nil ?_;rintro _ ⟨y_,rfl⟩;obtain⟨w6,ar,aj⟩:∃v,rj.more y_=v/\ik rj v:=⟨_,rfl,iR⟩;rw[ar];have d6:=ij a6 aj;have b6:ik W2 w6:=ij (a8) aj;obtain⟨k0,k1,k2,k3,k4,k5,k6,a1,l0,ll⟩:=J w6 (b6);go_wp2_with fail;refine mP (HG ee w6 (ij hw d6)) rfl I (fun _=>rfl) d6 ?_;clear I;intro w7 I ai;have d7:ik w w7:=ij d6 ai;have b7:=ij (b6) ai;obtain⟨k0,k1,k2,k3,k4,k5,k6,a1,l0,ll⟩:=J w7 (b7);by_cases aH:l.length=1
 ·have a':((l:Int)==1)=true:=by rw[beq_iff_eq];omega
  have aG:(l.length==1)=true:=by rw[beq_iff_eq];omega
  replace I:Hid (R=jD (iX true 5) 0):=by show _=_;rw[I.out,a'];rfl
  go_wp2_with fail;refine mP (E:=iX true 5) (HM true 5 iI w7 (ij hw d7)) rfl I (fun _=>rfl) d7 ?_;clear I;intro w8 I ah;have d8:ik w w8:=ij d7 ah;have b8:=ij (b7) ah;obtain⟨k0,k1,k2,k3,k4,k5,k6,a1,l0,ll⟩:=J w8 (b8);go_wp2;go_end0;exact by have hz:=I.out;rw[hz];exact zF d8
 have a':((l:Int)==1)=false:=by rw[beq_eq_false_iff_ne];omega
 replace I:Hid (R=jD (iX (k==10) 5) 0):=by show _=_;rw[I.out,a'];rfl
 obtain⟨bk,az⟩:=jt ((k==10));rw[az]at I;go_wp2_with fail;refine mP (E:=iX bk 5) (HM bk 5 iI w7 (ij hw d7)) rfl I (fun _=>rfl) d7 ?_;clear I;intro w9 I ag;have d9:ik w w9:=ij d7 ag;have b9:=ij (b7) ag;obtain⟨k0,k1,k2,k3,k4,k5,k6,a1,l0,ll⟩:=J w9 (b9);go_wp2;go_end0;exact by have hz:=I.out;rw[hz];exact zF d9
theorem PL {w0:yM} {g nd q} {en:nB iW} (h:pK w0 g en.A en.l en.c nd q) (hen:ir 2 sM w0 en) (x:nB ma) (hx:ir 8 (Eo True) w0 x) (n:Nat) (strong:Bool) (w:yM) (hw:ik w0 w) :
  Calls prog 122 #[.pointer (some g),(x.A,x.l,x.c),(n:Nat),strong] w fun e w'=>PE w nd q (iw (tx en.l n strong) x.l) e w':=by
 have HM:Hid (∀b e,e≠0->∀U,ik w0 U->Calls prog 39 #[.pointer (some g),.bool b,.int .i64 e] U fun e' w'=>PE U nd q (iX b e) e' w'):=fun b e he U hU=>rC (h.here U (k:=hU)) b e he
 have HG:Hid (∀e,∀U,ik w0 U->Calls prog 78 #[.pointer (some g),.int .i64 e] U fun e' w'=>PE U nd q e e' w'):=fun e U hU=>Au (h.here U (k:=hU)) e
 obtain⟨eA,ec,el⟩:=en;simp only[]at h⊢;have HX:Hid (∀(k o t v:Int) (s:yB) (A:zA) (c:Nat) (xs:List Tx),(Tx.mk k o t v s A c xs).size<=2000000->FY (.mk k o t v s A c xs)->RX w0 (.mk k o t v s A c xs)->∀U,ik w0 U->Calls prog 79 #[(eA,el,ec),.agg #[k,o,t,v,s,(A,xs,c)]] U fun e w'=>e=.returned (.int .i64 (qk el (.mk k o t v s A c xs)))/\∃z,w'=U.more z):=fun k o t v s A c xs hs hB hX U hU=>(zX hen hs hX hB U hU).mono fun e w_ h_=>⟨h_.1,have:=h_.2;jP _ _⟩
 have aL:Hid (∀(k o t v:Int) (s:yB) (A:zA) (c:Nat) (xs:List Tx),RX w0 (.mk k o t v s A c xs)->∀U,ik w0 U->Calls prog 157 #[.agg #[k,o,t,v,s,(A,xs,c)]] U fun e w'=>e=.returned (.bool (jL (Tx.mk k o t v s A c xs).list))/\ik U w'):=fun k o t v s A c xs hX U hU=>Dp hX U hU
 obtain⟨R,hR⟩:=jt (iw (tx el n strong) x.l);have aa:Hid (R=jD (iw (tx el n strong) x.l) 0):=by
  show _=_
  rw[<- hR,kE]
 rw[hR];have HL:Hid (∀U,ik w0 U->U.cell? g=(eA,el,ec)/\Le (g+1) U):=fun U hU=>⟨(h.here U (k:=hU)).fields.1,(h.here U (k:=hU)).fields.2.2.2⟩
 obtain⟨A1,c1,l⟩:=x;simp only[]at aa⊢;have XX:=iy hx;have aN:=hx.len;simp only[]at aN;have aK:=iq w;have HK:Hid (∀U:yM,ik w U->U.cell? g=(eA,el,ec)/\Le (g+1) U):=fun U hU=>HL U (ij hw hU)
 obtain⟨l0,ll⟩:=HK w (iq _);go_in;go_wp2_with fail;go_loopw [12] (fun i wr=>∃j:Nat,j<=l.length/\i=.int .i64 (j:Nat)/\Hid (iw (tx el n strong) (l.take j)=0)/\ik w wr) (fun i _=>l.length-(intOf i).toNat)
 ·exact⟨0,iu,rfl,iy (by simp[iw]),iq w⟩
 case round=>
 obtain⟨j,hj,rfl,ah,a8⟩:=hrel;have a6:=ij aK a8;obtain⟨rj,aD⟩:=jt (wr);rw[aD]at a8 a6⊢;obtain⟨l0,ll⟩:=HK rj (a8);by_cases ad:j<l
 ·have aE:(j:Int)<(l:Int):=iu
  obtain⟨bj,pj,yj,rfl,aJ,ag,ae⟩:=(XX.trs rj (k:=ij hw a6)).part (i:=j) ad;obtain⟨⟨k,o,t,v,s,A,c,xs⟩,J,a1⟩:=yj;obtain⟨⟨y0,y1,y2,y3,y4,y5⟩,y6,y7⟩:(Kf rj bj (pj+j*8) (.mk k o t v s A c xs))/\rj.cell? (bj,pj+j*8+6)=J/\rj.cell? (bj,pj+j*8+7)=a1:=⟨ae.six,ae.c6,ae.c7⟩;simp only[txs]at y0 y1 y2 y3 y4 y5;obtain⟨_,_,aw⟩:=XX.elem (i:=j) ag;have ab:=iy aw;have av:=iy (HX k o t v s A c xs (ab.sz trivial) ab.tb ab.co);have az:=iy (aL k o t v s A c xs ab.co);obtain⟨ee,aj⟩:=jt (qk el (.mk k o t v s A c xs));obtain⟨sl,ai⟩:=jt (jL (Tx.mk k o t v s A c xs).list);rw[aj]at av;rw[ai]at az;have a_:Hid ((tx el n strong ⟨.mk k o t v s A c xs,J,a1⟩)≠0->R=(tx el n strong ⟨.mk k o t v s A c xs,J,a1⟩)):=iy fun h=>by
   have h1:=kN (tx el n strong) ag ah h;have h2:=aa.trans ((lR (by rw[h1];exact h)).trans h1);exact h2
  have I:Hid ((tx el n strong ⟨.mk k o t v s A c xs,J,a1⟩)=jD (iX (decide (0<=J)&&decide (J<(n:Int))) 14) (jD ee (jD (iX (!strong||sl) 5) 0))):=by show _=_;rw[kE,<- aj,<- ai];rfl
  have ax:Hid ((tx el n strong ⟨.mk k o t v s A c xs,J,a1⟩)=0->iw (tx el n strong) (l.take (j+1))=0):=iy fun h=>(kt (tx el n strong) ag ah).trans h
  obtain⟨X1,al⟩:∃X,X=(tx el n strong ⟨.mk k o t v s A c xs,J,a1⟩):=⟨_,rfl⟩;replace I:=iy (al.trans I);rw[<- al]at a_ ax;by_cases ak:0<=J;rotate_left
  ·have af:=decide_eq_false ak
   replace I:Hid (X1=jD (iX false 14) (jD ee (jD (iX (!strong||sl) 5) 0))):=by show _=_;rw[I.out,af];rfl
   obtain⟨g2,aG⟩:=jt (rj.heap.size);obtain⟨W2,aP,ay,aI⟩:∃W,rj.alloc (.cells #[k,o,t,v,s,(A,xs,c),J,a1] 223)=W/\Hid (∀U:yM,ik W U->U.cell? g2=k/\U.cell? (g2,1)=o/\U.cell? (g2,2)=t/\U.cell? (g2,3)=v/\U.cell? (g2,4)=s/\U.cell? (g2,5)=(A,xs,c)/\U.cell? (g2,6)=J/\U.cell? (g2,7)=a1/\Le (g2+1) U/\U.cell? g=(eA,el,ec)/\Le (g+1) U)/\ik rj W:=by
    refine⟨_,rfl,fun U hU=>?_,iR⟩;have y0:=(jC rj 223 #[k,o,t,v,s,(A,xs,c),J,a1]).after (w':=U);rw[aG]at y0;have q0:=ij hw (ij a6 (ij iR hU));have q1:=ij (a8) (ij iR hU);exact⟨by rw[y0.cell];rfl,by rw[y0.cell];rfl,by rw[y0.cell];rfl,by rw[y0.cell];rfl,by rw[y0.cell];rfl,by rw[y0.cell];rfl,by rw[y0.cell];rfl,by rw[y0.cell];rfl,y0.is_le,(HL U q0).1,(HL U q0).2⟩
   have d2:=ij a6 aI;obtain⟨k0,k1,k2,k3,k4,k5,k6,k7,aM,aB,aA⟩:=ay W2 (iq _);go_wp2_with fail;obtain⟨_,_,_,_,_,_,_,_,_,l0,ll⟩:=ay W2 (iq _);exact Nz (E:=iX false 14) (HM _ 14 iI W2 (ij hw d2)) rfl I a_ d2
  have af:=lp ak;obtain⟨bd,aH⟩:=jt (decide (J<(n:Int)));replace I:Hid (X1=jD (iX bd 14) (jD ee (jD (iX (!strong||sl) 5) 0))):=by show _=_;rw[I.out,af,aH];rfl
  obtain⟨g4,aF⟩:=jt (rj.heap.size);obtain⟨W4,aO,a7,au⟩:∃W,rj.alloc (.cells #[k,o,t,v,s,(A,xs,c),J,a1] 223)=W/\Hid (∀U:yM,ik W U->U.cell? g4=k/\U.cell? (g4,1)=o/\U.cell? (g4,2)=t/\U.cell? (g4,3)=v/\U.cell? (g4,4)=s/\U.cell? (g4,5)=(A,xs,c)/\U.cell? (g4,6)=J/\U.cell? (g4,7)=a1/\Le (g4+1) U/\U.cell? g=(eA,el,ec)/\Le (g+1) U)/\ik rj W:=by
   refine⟨_,rfl,fun U hU=>?_,zc⟩;have y0:=(jC rj 223 #[k,o,t,v,s,(A,xs,c),J,a1]).after (w':=U);rw[aF]at y0;have q0:=ij hw (ij a6 (ij iR hU));exact⟨by rw[y0.cell];rfl,by rw[y0.cell];rfl,by rw[y0.cell];rfl,by rw[y0.cell];rfl,by rw[y0.cell];rfl,by rw[y0.cell];rfl,by rw[y0.cell];rfl,by rw[y0.cell];rfl,y0.is_le,(HL U q0).1,(HL U q0).2⟩
  have d4:=ij a6 au;obtain⟨k0,k1,k2,k3,k4,k5,k6,k7,a',aB,aA⟩:=a7 W4 (iq _);go_wp2_with fail;obtain⟨_,_,_,_,_,_,_,_,_,l0,ll⟩:=a7 W4 (iq _);refine mP (E:=iX bd 14) (HM bd 14 (by decide) W4 (ij hw d4)) rfl I a_ d4 ?_;clear I;intro w5 I ar;have d5:ik w w5:=ij d4 ar;have b5:ik W4 w5:=ij (iq W4) ar;obtain⟨k0,k1,k2,k3,k4,k5,k6,k7,a',l0,ll⟩:=a7 w5 (b5);go_wp2_with fail;have aQ:=ij hw d5;refine jf 8 (by kernel_rfl) (by kernel_rfl) ?_;simp only[sD,rP,uB,sS];repeat (go_big_quiet_step ((go_at_call 79;exact mR (av _ zc))))
  refine wpQuiet_nil ?_;rintro _ ⟨y_,rfl⟩;obtain⟨w6,aC,aq⟩:∃v,w5.more y_=v/\ik w5 v:=⟨_,rfl,iR⟩;rw[aC];have d6:ik w w6:=ij d5 aq;have b6:=ij (b5) aq;obtain⟨k0,k1,k2,k3,k4,k5,k6,k7,a',l0,ll⟩:=a7 w6 (b6);go_wp2_with fail;refine mP (HG ee w6 (ij hw d6)) rfl I a_ d6 ?_;clear I;intro w7 I ao;have d7:ik w w7:=ij d6 ao;have b7:=ij (b6) ao;obtain⟨k0,k1,k2,k3,k4,k5,k6,k7,a',l0,ll⟩:=a7 w7 (b7)
  cases strong
  ·go_wp2_with fail;refine mP (E:=iX true 5) (HM true 5 iI w7 (ij hw d7)) rfl I a_ d7 ?_;clear I;intro w8 I an;have d8:ik w w8:=ij d7 an;have b8:=ij (b7) an;obtain⟨k0,k1,k2,k3,k4,k5,k6,k7,a',l0,ll⟩:=a7 w8 (b8);go_wp2;go_roundw
   case rel=>exact⟨j+1,iu,by go_num,iy (ax I),ij (a8) (ij au (b8))⟩
   case measure=>simp only[intOf];omega
  go_wp2_with fail;refine (az w7 (ij hw d7)).mono ?_;rintro e w8 ⟨rfl,an⟩;have d8:ik w w8:=ij d7 an;have b8:=ij (b7) an;obtain⟨k0,k1,k2,k3,k4,k5,k6,k7,a',l0,ll⟩:=a7 w8 (b8);go_wp2_with fail;refine mP (E:=iX sl 5) (HM sl 5 iI w8 (ij hw d8)) rfl I a_ d8 ?_;clear I;intro w9 I aR;have b9:=ij (b8) aR;obtain⟨k0,k1,k2,k3,k4,k5,k6,k7,a',l0,ll⟩:=a7 w9 (b9);go_wp2;go_roundw
  case rel=>exact⟨j+1,iu,by go_num,iy (ax I),ij (a8) (ij au (b9))⟩
  case measure=>simp only[intOf];omega
 replace aa:=iy (aa.trans (kC (lh (tx el n strong) ad ah)));go_wp2;go_end0;exact by have hz:=aa.out;rw[hz];exact zF a6
theorem Ct {w0:yM} {g:Nat} {nd q:Int} {eA:zA} {ec:Nat} {el:List iW} (h:pK w0 g eA el ec nd q) (d:Nat) (hd:¬d<3) (A1:zA) (c1:Nat) (l:List StT) (w:yM) (hw:ik w0 w) :
  Calls prog 77 #[.pointer (some g),.agg #[(A1,l,c1)],(d:Nat)] w fun e w'=>PE w nd q (rK el d (.mk A1 c1 l)) e w':=by
 have HM:Hid (∀b e,e≠0->∀U,ik w0 U->Calls prog 39 #[.pointer (some g),.bool b,.int .i64 e] U fun e' w'=>PE U nd q (iX b e) e' w'):=fun b e he U hU=>rC (h.here U (k:=hU)) b e he
 have h3:decide ((d:Int)<3)=false:=decide_eq_false (by omega);have a7:¬(d:Int)<3:=by omega
 have a6:¬d<3:=by omega
 obtain⟨R,I⟩:=jt (rK el d (.mk A1 c1 l));have o:Hid (R=jD (iX false 3) 0):=by
  show _=_
  rw[<- I,yt,h3];rfl
 rw[I];have a8:=iq w;go_in;go_wp2_with fail;obtain⟨W1,j,J⟩:∃W,w.alloc (.cells #[(A1,l,c1)] 131)=W/\ik w W:=⟨_,rfl,zc⟩;try rw[j]
 exact Nz (E:=iX false 3) (HM _ 3 (by decide) W1 (ij hw J)) rfl o (fun _=>rfl) J
theorem Py {w0:yM} {g:Nat} {nd q:Int} {eA:zA} {ec:Nat} {el:List iW} (h:pK w0 g eA el ec nd q) (hen:ir 2 sM w0 ⟨eA,ec,el⟩) (m:Nat):∀(d:Nat),3-d<=m->∀(A1:zA) (c1:Nat) (l:List StT),zS True w0 (.mk A1 c1 l)->∀w:yM,ik w0 w ->
  Calls prog 77 #[.pointer (some g),.agg #[(A1,l,c1)],(d:Nat)] w fun e w'=>PE w nd q (rK el d (.mk A1 c1 l)) e w':=by
 induction m with
 |zero=>
  intro d hd A1 c1 l hx w hw;exact Ct h d iu A1 c1 l w hw
 |succ m ih=>
 intro d hd A1 c1 l hx w hw;by_cases cc:d<3;rotate_left
 ·exact Ct h d cc A1 c1 l w hw
 have HI:Hid (∀s:yB,s.size<=140737488355328->∀U,ik w0 U->Calls prog 74 #[.pointer (some g),s] U fun e w'=>PE U nd q (jA s) e w'):=fun s hs U hU=>tT h s hs U hU
 have HM:Hid (∀b e,e≠0->∀U,ik w0 U->Calls prog 39 #[.pointer (some g),.bool b,.int .i64 e] U fun e' w'=>PE U nd q (iX b e) e' w'):=fun b e he U hU=>rC (h.here U (k:=hU)) b e he
 have HD:Hid (∀(A:zA) (c:Nat) (l:List iO),ir 3 jG w0 ⟨A,c,l⟩->∀b U,ik w0 U->Calls prog 75 #[.pointer (some g),(A,l,c),.bool b] U fun e w'=>PE U nd q (iw (jN el b) l) e w'):=fun A c l hh b U hU=>Cz (en:=⟨eA,ec,el⟩) h hen ⟨A,c,l⟩ hh b U hU
 have HQ:Hid (∀(lA:zA) (lc:Nat) (l:List yB) (k o t v:Int) (s:yB) (A:zA) (c:Nat) (xs:List Tx) (b p:Nat),xv True w0 b p ⟨⟨lA,lc,l⟩,.mk k o t v s A c xs⟩->∀U,ik w0 U->Calls prog 76 #[.pointer g,.agg #[(lA,l,lc),k,o,t,v,s,(A,xs,c)]] U fun e w'=>PE U nd q (rN el ⟨⟨lA,lc,l⟩,.mk k o t v s A c xs⟩) e w'):=fun lA lc l k o t v s A c xs b p hh U hU=>J0 (en:=⟨eA,ec,el⟩) h hen ⟨lA,lc,l⟩ hh.lf hh.ri hh.tb (hh.sz trivial) U hU
 have HT:Hid (∀(A:Option Addr) (c:Nat) (l:List ma),ir 8 (Eo True) w0 ⟨A,c,l⟩->∀(n:Nat) b U,ik w0 U->Calls prog 122 #[.pointer (some ⟨g,0,none⟩),.slice A l c,.int .i64 (n:Nat),.bool b] U fun e w'=>PE U nd q (iw (tx el n b) l) e w'):=fun A c l hh n b U hU=>PL (en:=⟨eA,ec,el⟩) h hen ⟨A,c,l⟩ hh n b U hU
 have HA:Hid (∀(A1:Option Addr) (c1:Nat) (l:List StT),zS True w0 (.mk A1 c1 l)->∀U,ik w0 U->Calls prog 77 #[.pointer (some ⟨g,0,none⟩),.agg #[.slice A1 l c1],.int .i64 ((d:Int)+1)] U fun e w'=>PE U nd q (rK el (d+1) (.mk A1 c1 l)) e w'):=fun A1 c1 l h U hU=>by
  have hi:=ih (d+1) iu A1 c1 l h U hU;rwa [show ((d+1:Nat):Int)=(d:Int)+1 by omega]at hi
 obtain⟨R,hR⟩:=jt (rK el d (.mk A1 c1 l));have a6:Hid (R=jD (iX true 3) (jD (iX (decide ((0:Int)<(l:Int))) 8) (jD (iX (decide ((l:Int)<=8)) 3) (jD (iw (AM el l d) l) 0)))):=by
  show _=_
  rw[<- hR,yt,kE,show decide ((d:Int)<3)=true from lp iu]
 rw[hR];have HL:Hid (∀U,ik w0 U->U.cell? g=(eA,el,ec)/\Le (g+1) U):=fun U hU=>⟨(h.here U (k:=hU)).fields.1,(h.here U (k:=hU)).fields.2.2.2⟩
 have XX:=iy hx.rows;have cd:=hx.rows.len;simp only[]at cd;have br:=iq w;go_in;obtain⟨g2,cb⟩:=jt (w.heap.size);obtain⟨W2,cg,aq,cl⟩:∃W,w.alloc (.cells #[(A1,l,c1)] 131)=W/\Hid (∀U:yM,ik W U->U.cell? g2=(A1,l,c1)/\Le (g2+1) U/\U.cell? g=(eA,el,ec)/\Le (g+1) U)/\ik w W:=by
  refine⟨_,rfl,fun U hU=>?_,iR⟩;have J:=(jC w 131 #[(A1,l,c1)]).after (w':=U);rw[cb]at J;have q0:=ij hw (ij br (ij iR hU));have q1:=ij (iq w) (ij iR hU);exact⟨by rw[J.cell];rfl,J.is_le,(HL U q0).1,(HL U q0).2⟩
 have d2:=ij br cl;obtain⟨u0,aN,b1,b0⟩:=aq W2 (iq _);go_wp2_with fail;try rw[cg]
 obtain⟨_,_,l0,ll⟩:=aq W2 (iq _);have bs:=d2;refine mP (E:=iX true 3) (HM _ 3 iI W2 (ij hw d2)) (nQ (fun b=>iX b 3) (lp iu)) a6 (fun _=>rfl) d2 ?_;clear a6;intro w3 a6 bB;have d3:=ij d2 bB;have b3:=ij (iq W2) bB;obtain⟨u0,aN,l0,ll⟩:=aq w3 (b3);go_wp2_with fail;refine mP (E:=iX (decide ((0:Int)<(l:Int))) 8) (HM _ 8 iI w3 (ij hw d3)) (nQ (fun b=>iX b 8) (decide_eq_decide.2 iu)) a6 (fun _=>rfl) d3 ?_;clear a6;intro w4 a6 bA;have d4:=ij d3 bA;have b4:=ij (b3) bA;obtain⟨u0,aN,l0,ll⟩:=aq w4 (b4);go_wp2_with fail;refine mP (E:=iX (decide ((l:Int)<=8)) 3) (HM _ 3 iI w4 (ij hw d4)) (nQ (fun b=>iX b 3) (decide_eq_decide.2 iu)) a6 (fun _=>rfl) d4 ?_;clear a6;intro w5 a6 cj;have b5:=ij (b4) cj;obtain⟨u0,aN,l0,ll⟩:=aq w5 (b5);go_wp2_with fail;go_loopw [31] (fun i wr=>∃j:Nat,j<=l.length/\i=.int .i64 (j:Nat)/\Hid (iw (AM el l d) (l.take j)=0)/\ik W2 wr) (fun i _=>l.length-(intOf i).toNat)
 ·exact⟨0,iu,rfl,iy (by simp[iw]),b5⟩
 case round=>
 obtain⟨j,hj,rfl,b',aD⟩:=hrel;have aC:=ij bs aD;obtain⟨rj,c2⟩:=jt (wr);rw[c2]at aD aC⊢;obtain⟨u0,aN,l0,ll⟩:=aq rj (aD);by_cases aR:j<l
 ·have c9:(j:Int)<(l:Int):=iu
  obtain⟨bj,pj,yj,rfl,cp,b6,ch⟩:=(XX.sts rj (k:=ij hw aC)).part (i:=j) aR;obtain⟨nm,⟨ag,af,lo⟩,⟨an,al,eq⟩,aA,ac,au,⟨ae,ab,ul⟩,⟨aa,a',ut⟩⟩:=yj;obtain⟨_,_,bP⟩:=XX.elem (i:=j) b6;obtain⟨c3,b_,aL,b9,b8,aM⟩:=tY.parts bP.2;replace b_:=iy b_;replace aL:=iy aL;replace b9:=iy b9;replace b8:=iy b8;replace aM:=iy aM;have bh:=aL.len;have bg:=aM.len;obtain⟨J,y1,y2,y3,y4,y5⟩:=ch.1;simp only[StT.name,StT.locals,StT.eqs,StT.ad,StT.cap,StT.autos,StT.unl,StT.unt]at J y1 y2 y3 y4 y5;simp only[]at bh bg;have a7:Hid ((AM el l d (.mk nm ⟨ag,af,lo⟩ ⟨an,al,eq⟩ aA ac au ⟨ae,ab,ul⟩ ⟨aa,a',ut⟩))≠0->R=(AM el l d (.mk nm ⟨ag,af,lo⟩ ⟨an,al,eq⟩ aA ac au ⟨ae,ab,ul⟩ ⟨aa,a',ut⟩))):=iy fun h=>by
   have h1:=kN (AM el l d) b6 b' h;have h2:=a6.trans ((lR (by rw[h1];exact h)).trans h1);exact h2
  have I:Hid ((AM el l d (.mk nm ⟨ag,af,lo⟩ ⟨an,al,eq⟩ aA ac au ⟨ae,ab,ul⟩ ⟨aa,a',ut⟩))=jD (jA nm) (jD (iX (decide ((lo:Int)<=256)&&(decide ((eq:Int)<=256)&&(decide ((au:Int)<=8)&&(decide ((ul:Int)<=4)&&decide ((ut:Int)<=4))))) 3) (jD (iw (jN el false) lo) (jD (iw (rN el) eq) (jD (iw (rK el (d+1)) au) (jD (iw (tx el l true) ul) (jD (iw (tx el l false) ut) 0))))))):=by show _=_;rw[IY]
  have bQ:Hid ((AM el l d (.mk nm ⟨ag,af,lo⟩ ⟨an,al,eq⟩ aA ac au ⟨ae,ab,ul⟩ ⟨aa,a',ut⟩))=0->iw (AM el l d) (l.take (j+1))=0):=iy fun h=>(kt (AM el l d) b6 b').trans h
  obtain⟨X1,aj⟩:∃X,X=(AM el l d (.mk nm ⟨ag,af,lo⟩ ⟨an,al,eq⟩ aA ac au ⟨ae,ab,ul⟩ ⟨aa,a',ut⟩)):=⟨_,rfl⟩;replace I:=iy (aj.trans I);rw[<- aj]at a7 bQ;obtain⟨g6,ca⟩:=jt (rj.heap.size);obtain⟨W6,cf,ah,bM⟩:∃W,rj.alloc (.cells #[nm,(ag,lo,af),(an,eq,al),(aA,au,ac),(ae,ul,ab),(aa,ut,a')] 184)=W/\Hid (∀U:yM,ik W U->U.cell? g6=nm/\U.cell? (g6,1)=(ag,lo,af)/\U.cell? (g6,2)=(an,eq,al)/\U.cell? (g6,3)=(aA,au,ac)/\U.cell? (g6,4)=(ae,ul,ab)/\U.cell? (g6,5)=(aa,ut,a')/\Le (g6+1) U/\U.cell? g=(eA,el,ec)/\Le (g+1) U/\U.cell? g2=some (.slice (bj,pj) l.length c1)/\Le (g2+1) U)/\ik rj W:=by
   refine⟨_,rfl,fun U hU=>?_,iR⟩;have J:=(jC rj 184 #[nm,(ag,lo,af),(an,eq,al),(aA,au,ac),(ae,ul,ab),(aa,ut,a')]).after (w':=U);rw[ca]at J;have q0:=ij hw (ij aC (ij iR hU));have q1:=ij (aD) (ij iR hU);exact⟨by rw[J.cell];rfl,by rw[J.cell];rfl,by rw[J.cell];rfl,by rw[J.cell];rfl,by rw[J.cell];rfl,by rw[J.cell];rfl,J.is_le,(HL U q0).1,(HL U q0).2,(aq U q1).1,(aq U q1).2.1⟩
  have d6:=ij aC bM;obtain⟨k0,k1,k2,k3,k4,k5,ar,b1,b0,ct,cr⟩:=ah W6 (iq _);go_wp2_with fail;try rw[cf]
  obtain⟨_,_,_,_,_,_,_,l0,ll,ua,ub⟩:=ah W6 (iq _);have aT:=d6;refine mP (HI nm c3 W6 (ij hw d6)) rfl I a7 d6 ?_;clear I;intro w7 I bz;have d7:=ij d6 bz;have b7:=ij (iq W6) bz;obtain⟨k0,k1,k2,k3,k4,k5,ar,l0,ll,ua,ub⟩:=ah w7 (b7);by_cases ax:(lo:Int)<=256;rotate_left
  ·replace I:Hid (X1=jD (iX false 3) (jD (iw (jN el false) lo) (jD (iw (rN el) eq) (jD (iw (rK el (d+1)) au) (jD (iw (tx el l true) ul) (jD (iw (tx el l false) ut) 0)))))):=by show _=_;rw[I.out,decide_eq_false ax];simp only[qu,qT]
   have c8:¬lo.length<=256:=iu;go_wp2_with fail;exact Nz (E:=iX false 3) (HM _ 3 iI w7 (ij hw d7)) rfl I a7 d7
  have c8:lo.length<=256:=iu;by_cases aB:(eq:Int)<=256;rotate_left
  ·replace I:Hid (X1=jD (iX false 3) (jD (iw (jN el false) lo) (jD (iw (rN el) eq) (jD (iw (rK el (d+1)) au) (jD (iw (tx el l true) ul) (jD (iw (tx el l false) ut) 0)))))):=by show _=_;rw[I.out,lp ax,decide_eq_false aB];simp only[qu,qT]
   have c7:¬eq.length<=256:=iu;go_wp2_with fail;exact Nz (E:=iX false 3) (HM _ 3 iI w7 (ij hw d7)) rfl I a7 d7
  have c7:eq.length<=256:=iu;by_cases aO:(au:Int)<=8;rotate_left
  ·replace I:Hid (X1=jD (iX false 3) (jD (iw (jN el false) lo) (jD (iw (rN el) eq) (jD (iw (rK el (d+1)) au) (jD (iw (tx el l true) ul) (jD (iw (tx el l false) ut) 0)))))):=by show _=_;rw[I.out,lp ax,lp aB,decide_eq_false aO];simp only[qu,qT]
   have c6:¬au.length<=8:=iu;go_wp2_with fail;exact Nz (E:=iX false 3) (HM _ 3 iI w7 (ij hw d7)) rfl I a7 d7
  have c6:au.length<=8:=iu;by_cases b2:(ul:Int)<=4;rotate_left
  ·replace I:Hid (X1=jD (iX false 3) (jD (iw (jN el false) lo) (jD (iw (rN el) eq) (jD (iw (rK el (d+1)) au) (jD (iw (tx el l true) ul) (jD (iw (tx el l false) ut) 0)))))):=by show _=_;rw[I.out,lp ax,lp aB,lp aO,decide_eq_false b2];simp only[qu,qT]
   have c5:¬ul.length<=4:=iu;go_wp2_with fail;exact Nz (E:=iX false 3) (HM _ 3 iI w7 (ij hw d7)) (nQ (fun b=>iX b 3) (decide_eq_false iu)) I a7 d7
  have c5:ul.length<=4:=iu;by_cases bm:(ut:Int)<=4;rotate_left
  ·replace I:Hid (X1=jD (iX false 3) (jD (iw (jN el false) lo) (jD (iw (rN el) eq) (jD (iw (rK el (d+1)) au) (jD (iw (tx el l true) ul) (jD (iw (tx el l false) ut) 0)))))):=by show _=_;rw[I.out,lp ax,lp aB,lp aO,lp b2,decide_eq_false bm];simp only[qu,qT]
   have c4:¬ut.length<=4:=iu;go_wp2_with fail;exact Nz (E:=iX false 3) (HM _ 3 iI w7 (ij hw d7)) (nQ (fun b=>iX b 3) (decide_eq_false iu)) I a7 d7
  have c4:ut.length<=4:=iu;replace I:Hid (X1=jD (iX true 3) (jD (iw (jN el false) lo) (jD (iw (rN el) eq) (jD (iw (rK el (d+1)) au) (jD (iw (tx el l true) ul) (jD (iw (tx el l false) ut) 0)))))):=by show _=_;rw[I.out,lp ax,lp aB,lp aO,lp b2,lp bm];rfl
  go_wp2_with fail;refine mP (E:=iX true 3) (HM _ 3 iI w7 (ij hw d7)) (nQ (fun b=>iX b 3) (lp iu)) I a7 d7 ?_;clear I;intro bb I aV;have bx:=ij d7 aV;have bL:=ij (b7) aV;obtain⟨k0,k1,k2,k3,k4,k5,ar,l0,ll,ua,ub⟩:=ah bb (bL);go_wp2_with fail;refine mP (HD ag af lo b_ false bb (ij hw bx)) rfl I a7 bx ?_;clear I;intro bY I bF;have bK:=ij (bL) bF;obtain⟨k0,k1,k2,k3,k4,k5,ar,l0,ll,ua,ub⟩:=ah bY (bK);go_wp2_with fail;go_loopw [74] (fun i wr=>∃m_:Nat,m_<=eq.length/\i=.int .i64 (m_:Nat)/\Hid (iw (rN el) (eq.take m_)=0)/\ik W6 wr) (fun i _=>eq.length-(intOf i).toNat)
  ·exact⟨0,iu,rfl,iy (by simp[iw]),bK⟩
  case round=>
  obtain⟨m_,cu,rfl,aJ,a_⟩:=hrel;have av:=ij aT a_;obtain⟨aw,be⟩:=jt (wr);rw[be]at a_ av⊢;obtain⟨k0,k1,k2,k3,k4,k5,ar,l0,ll,ua,ub⟩:=ah aw (a_);by_cases ay:m_<eq
  ·have bR:(m_:Int)<(eq:Int):=iu
   obtain⟨cw,cq,bT,rfl,c_,aE,aS⟩:=(aL.eqs aw (k:=ij hw av)).part (i:=m_) ay;obtain⟨⟨qA,qc,ql⟩,⟨k,o,t,v,s,A,c,xs⟩⟩:=bT;obtain⟨_,_,bN⟩:=aL.elem (i:=m_) aE;have cm:=iy bN;obtain⟨z0,z1,z2,z3,z4,z5⟩:=aS.six;have z6:=aS.c0;simp only[txs]at z0 z1 z2 z3 z4 z5 z6;have aG:Hid ((rN el ⟨⟨qA,qc,ql⟩,.mk k o t v s A c xs⟩)≠0->R=(rN el ⟨⟨qA,qc,ql⟩,.mk k o t v s A c xs⟩)):=iy fun h=>by
    have h1:=kN (rN el) aE aJ h;have h2:=I.trans ((lR (by rw[h1];exact h)).trans h1);exact (a7 (by rw[h2];exact h)).trans h2
   have a1:Hid ((rN el ⟨⟨qA,qc,ql⟩,.mk k o t v s A c xs⟩)=jD (rN el ⟨⟨qA,qc,ql⟩,.mk k o t v s A c xs⟩) 0):=iB (kE _).symm;have aY:Hid ((rN el ⟨⟨qA,qc,ql⟩,.mk k o t v s A c xs⟩)=0->iw (rN el) (eq.take (m_+1))=0):=iy fun h=>(kt (rN el) aE aJ).trans h
   obtain⟨X2,aj⟩:∃X,X=(rN el ⟨⟨qA,qc,ql⟩,.mk k o t v s A c xs⟩):=⟨_,rfl⟩;replace a1:=iy (aj.trans a1);rw[<- aj]at aG aY;obtain⟨ak,bl⟩:=jt (aw.heap.size);obtain⟨aQ,bo,aI,aX⟩:∃W,aw.alloc (.cells #[(qA,ql,qc),k,o,t,v,s,(A,xs,c)] 79)=W/\Hid (∀U:yM,ik W U->U.cell? ak=(qA,ql,qc)/\U.cell? (ak,1)=k/\U.cell? (ak,2)=o/\U.cell? (ak,3)=t/\U.cell? (ak,4)=v/\U.cell? (ak,5)=s/\U.cell? (ak,6)=(A,xs,c)/\Le (ak+1) U/\U.cell? g=(eA,el,ec)/\Le (g+1) U)/\ik aw W:=by
    refine⟨_,rfl,fun U hU=>?_,iR⟩;have J:=(jC aw 79 #[(qA,ql,qc),k,o,t,v,s,(A,xs,c)]).after (w':=U);rw[bl]at J;have q0:=ij hw (ij av (ij iR hU));have q1:=ij (a_) (ij iR hU);exact⟨by rw[J.cell];rfl,by rw[J.cell];rfl,by rw[J.cell];rfl,by rw[J.cell];rfl,by rw[J.cell];rfl,by rw[J.cell];rfl,by rw[J.cell];rfl,J.is_le,(HL U q0).1,(HL U q0).2⟩
   have bw:=ij av aX;obtain⟨f0,f1,f2,f3,f4,f5,f6,bd,b1,b0⟩:=aI aQ (iq _);go_wp2_with fail;try rw[bo]
   obtain⟨_,_,_,_,_,_,_,_,l0,ll⟩:=aI aQ (iq _);refine mP (HQ qA qc ql k o t v s A c xs _ _ cm aQ (ij hw bw)) rfl a1 aG bw ?_;clear a1;intro bX a1 bE;have bJ:=ij (iq aQ) bE;obtain⟨f0,f1,f2,f3,f4,f5,f6,bd,l0,ll⟩:=aI bX (bJ);go_wp2_with fail;go_roundw
   case rel=>exact⟨m_+1,iu,by go_num,iy (aY a1),ij (a_) (ij aX (bJ))⟩
   case measure=>simp only[intOf];omega
  replace I:=iy (I.trans (kC (lh (rN el) ay aJ)));go_wp2_with fail;go_loopw [85] (fun i wr=>∃i_:Nat,i_<=au.length/\i=.int .i64 (i_:Nat)/\Hid (iw (rK el (d+1)) (au.take i_)=0)/\ik W6 wr) (fun i _=>au.length-(intOf i).toNat)
  ·exact⟨0,iu,rfl,iy (by simp[iw]),a_⟩
  case round=>
  obtain⟨i_,cv,rfl,aK,ao⟩:=hrel;have a8:ik w wr:=ij aT ao;obtain⟨ai,bf⟩:=jt wr;rw[bf]at ao a8⊢;obtain⟨k0,k1,k2,k3,k4,k5,ar,l0,ll,ua,ub⟩:=ah ai (ao);by_cases az:i_<au
  ·have bS:(i_:Int)<(au:Int):=by omega
   obtain⟨ck,bZ,bU,rfl,c',aF,bp⟩:=(aM.Ru ai (k:=ij hw a8)).part (i:=i_) az;obtain⟨xA,xc,xl⟩:=bU;obtain⟨_,_,bO⟩:=aM.elem (i:=i_) aF;have cn:=iB bO;have J:ai.cell? (ck,bZ+i_)=(xA,xl,xc):=by have:=bp.1;rwa [yr]at this
   have aG:Hid ((rK el (d+1) (.mk xA xc xl))≠0->R=(rK el (d+1) (.mk xA xc xl))):=iB fun h=>by
    have h1:=kN (rK el (d+1)) aF aK h;have h2:X1=(rK el (d+1) (.mk xA xc xl)):=I.trans ((lR (by rw[h1];exact h)).trans h1);exact (a7 (by rw[h2];exact h)).trans h2
   have a1:Hid ((rK el (d+1) (.mk xA xc xl))=jD (rK el (d+1) (.mk xA xc xl)) 0):=iB (kE _).symm;have aZ:Hid ((rK el (d+1) (.mk xA xc xl))=0->iw (rK el (d+1)) (au.take (i_+1))=0):=iy fun h=>(kt (rK el (d+1)) aF aK).trans h
   obtain⟨X2,aj⟩:∃X,X=(rK el (d+1) (.mk xA xc xl)):=⟨_,rfl⟩;replace a1:=iy (aj.trans a1);rw[<- aj]at aG aZ;obtain⟨bq,bk⟩:=jt (ai.heap.size);obtain⟨aP,bn,aH,aW⟩:∃W,ai.alloc (.cells #[(xA,xl,xc)] 131)=W/\Hid (∀U:yM,ik W U->U.cell? bq=(xA,xl,xc)/\Le (bq+1) U/\U.cell? g=(eA,el,ec)/\Le (g+1) U)/\ik ai W:=by
    refine⟨_,rfl,fun U hU=>?_,iR⟩;have J:=(jC ai 131 #[(xA,xl,xc)]).after (w':=U);rw[bk]at J;have q0:=ij hw (ij a8 (ij iR hU));exact⟨by rw[J.cell];rfl,J.is_le,(HL U q0).1,(HL U q0).2⟩
   have bu:=ij a8 aW;obtain⟨f0,bc,b1,b0⟩:=aH aP (iq _);go_wp2_with fail;try rw[bn]
   obtain⟨_,_,l0,ll⟩:=aH aP (iq _);refine mP (HA xA xc xl cn.2 aP (ij hw bu)) rfl a1 aG bu ?_;clear a1;intro bW a1 bD;have bI:=ij (iq aP) bD;obtain⟨f0,bc,l0,ll⟩:=aH bW (bI);go_wp2_with fail;go_roundw
   case rel=>exact⟨i_+1,iu,by go_num,iy (aZ a1),ij (ao) (ij aW (bI))⟩
   case measure=>simp only[intOf];omega
  replace I:=iy (I.trans (kC (lh (rK el (d+1)) az aK)));go_wp2_with fail;refine mP (HT ae ab ul b9 l true ai (ij hw a8)) rfl I a7 a8 ?_;clear I;intro ba I aU;have bt:=ij a8 aU;have bH:=ij (ao) aU;obtain⟨k0,k1,k2,k3,k4,k5,ar,l0,ll,ua,ub⟩:=ah ba (bH);go_wp2_with fail;refine mP (HT aa a' ut b8 l false ba (ij hw bt)) rfl I a7 bt ?_;clear I;intro bV I bC;have bG:=ij (bH) bC;obtain⟨k0,k1,k2,k3,k4,k5,ar,l0,ll,ua,ub⟩:=ah bV (bG);go_wp2_with fail;go_roundw
  case rel=>exact⟨j+1,iu,by go_num,iy (bQ I),ij (aD) (ij bM (bG))⟩
  case measure=>simp only[intOf];omega
 replace a6:=iy (a6.trans (kC (lh (AM el l d) aR b')));go_wp2_with fail;go_end0;exact by have hz:=a6.out;rw[hz];exact zF aC
structure xx (g:Nat) (w w':yM):Prop where
 os:w'.os=w.os
 tape:w'.tape=w.tape
 output:w'.output=w.output
 size:w.heap.size<=w'
 block:∀k,k<w.heap.size->k≠g->w'.heap[k]?=w.heap[k]?
theorem xx.trans {g:Nat} {a b c:yM} (h:xx g a b) (k:xx g b c):xx g a c:=
 ⟨k.os.trans h.os,k.tape.trans h.tape,k.output.trans h.output,jW h.size k.size,fun i hi hg=>(k.block i (rO hi h.size) hg).trans (h.block i hi hg)⟩
theorem xx.of {g:Nat} {w w':yM} (h:ik w w'):xx g w w':=⟨h.below.os,h.below.tape,h.below.output,h.below.size,fun k hk _=>h.below.block k hk⟩
theorem xx.set {g:Nat} (w:yM) (i:Nat) (v:Value):xx g w (w.setCell (g,i) v):=by
 have j:=(Below.refl 0 w).setCell (p:=(g,i)) (wB _) v;exact⟨j.os,j.tape,j.output,j.size,fun k _ o=>Below.heap_setCell w _ v k o⟩
theorem xx.after {g:Nat} {w0 w w':yM} (h:xx g w w') (a:ik w0 w) (hg:w0<=g):ik w0 w':=
 ⟨⟨h.os.trans a.below.os,h.tape.trans a.below.tape,h.output.trans a.below.output,jW a.below.size h.size,fun k hk=>(h.block k (rO hk a.below.size) iu).trans (a.below.block k hk)⟩⟩
theorem xx.blk {g:Nat} {w w':yM} (h:xx g w w') {b:Nat} {t:TypeId} {cs:Array Value} (hb:iP w b t cs) (hg:b≠g):iP w' b t cs:=(h.block b hb.lt hg).trans hb
def ND (w:yM) (g:Nat) (A:zA) (n c:Nat) (i:Int) (E q:Int) (e:Ending) (w':yM):Prop:=
 xx g w w'/\((E=0/\e=.returned (.tuple #[])/\∃q',pK w' g A n c i q')\/(E≠0/\e=uw i q E))
theorem ND.RD {w:yM} {g A n c i E q w'} (hE:E≠0) (h:xx g w w'):ND w g A n c i E q (uw i q E) w':=⟨h,.inr ⟨hE,rfl⟩⟩
theorem ND.Ss {w:yM} {g A n c i q w' q'} (h:xx g w w') (l:pK w' g A n c i q'):ND w g A n c i 0 q (.returned (.tuple #[])) w':=⟨h,.inl ⟨rfl,rfl,_,l⟩⟩
def wu {α:Type} (f:α->Int):List α->Nat->Int
 |[],_=>-1
 |x::l,k=>if f x=0 then wu f l (k+1) else k
theorem Ez {α:Type} (f:α->Int):∀{l:List α} {j:Nat} {x:α} (k:Nat),l[j]?=some x->iw f (l.take j)=0->f x≠0->wu f l k=((k+j:Nat):Int)
 |[],j,x,k,h,_,_=>by simp at h
 |a::l,0,x,k,h,_,hx=>by
  simp at h;subst h;rw[wu,iV hx];rfl
 |a::l,j+1,x,k,h,h0,hx=>by
  rw[sD,iw]at h0;have ha:f a=0:=by
   by_cases h:f a=0
   ·exact h
   rw[lR h]at h0;exact absurd h0 h
  rw[kC ha]at h0;rw[wu,iG ha,Ez f (k+1) (by simpa using h) h0 hx];congr 1;omega
theorem AS {α:Type} (f:α->Int):∀(l:List α) (k:Nat),iw f l=0->wu f l k=-1
 |[],_,_=>rfl
 |a::l,k,h0=>by
  rw[iw]at h0;have ha:f a=0:=by
   by_cases h:f a=0
   ·exact h
   rw[lR h]at h0;exact absurd h0 h
  rw[kC ha]at h0;rw[wu,iG ha,AS f l (k+1) h0]
noncomputable def mY (en:List iW) (n:nh):Int:=jD (Ek en n) (jD (iw (rN en) n.eqs.l) (KN en n))
noncomputable def GJ (en:List iW) (n:nh):Int:=if Ek en n=0 then wu (rN en) n.eqs.l 0 else -1
theorem LZ {w0:yM} {g:Nat} {nd q:Int} {eA:zA} {ec:Nat} {el:List iW} (h:pK w0 g eA el ec nd q) (hen:ir 2 sM w0 ⟨eA,ec,el⟩) (A1:zA) (c1:Nat) (l:List StT) (hx:zS True w0 (.mk A1 c1 l)) (w:yM) (hw:ik w0 w) :
  Calls prog 77 #[.pointer (some g),.agg #[(A1,l,c1)],JX] w fun e w'=>PE w nd q (rK el 0 (.mk A1 c1 l)) e w':=
 Py h hen 3 0 iu A1 c1 l hx w hw
def kI (el:List iW) (kw:List UInt8) (x:Tx):List Pc:=rL 1 (mB kw::.sp 32::(kX el x.er++[mf [59]]))
def ya (el:List iW) (n:nh):List Pc:=rL 0 (mB [110,111,100,101]::.sp 32::rM n.name::mf [40]::(kO el n.ins.l++mf [41]::.sp 32::mB [114,101,116,117,114,110,115]::.sp 32::mf [40]::(kO el n.outs.l++[mf [41]])))
def qo (el:List iW) (n:nh):List Pc:=ya el n++(nr el 1 n.locals.l++(n.assume.l.flatMap (kI el [97,115,115,117,109,101])++(n.ensure.l.flatMap (kI el [101,110,115,117,114,101])++(rL 0 [mB [108,101,116]]++(qJ el 1 n.eqs.l n.autos.l++rL 0 [mB [116,101,108]])))))
structure Tm (el:List iW) (n:nh):Prop where
 nm:kT n.name=true
 i:nN el true n.ins.l=0
 o:nN el true n.outs.l=0
 l:nN el false n.locals.l=0
 il:n.ins.l.length<=64
 ol:n.outs.l.length<=64
 ll:n.locals.l.length<=256
 o0:0<n.outs.l.length
 q:iw (rN el) n.eqs.l=0
 ql:n.eqs.l.length<=256
 a:iw (rK el 0) n.autos.l=0
 al:n.autos.l.length<=8
 s:iw (qk el) n.assume.l=0
 sl:n.assume.l.length<=8
 e:iw (qk el) n.ensure.l=0
 el:n.ensure.l.length<=8
theorem yW {el:List iW} {n:nh} (h:mY el n=0):Tm el n:=by
 unfold mY Ek KN at h;obtain⟨j,h⟩:=jI h;obtain⟨R,h⟩:=jI h;obtain⟨ha,h⟩:=jI h;obtain⟨J,he⟩:=jI h;obtain⟨U,j⟩:=jI j;obtain⟨o,j⟩:=jI j;obtain⟨I,j⟩:=jI j;obtain⟨h2,j⟩:=jI j;obtain⟨h3,h4⟩:=jI j;have o:=nJ iI o;have I:=nJ iI I;simp only[mT,decide_eq_true_eq]at o I;exact⟨nS U,h2,h3,h4,iu,iu,iu,iu,R,iu,ha,iu,J,iu,he,iu⟩
section
variable {B:yM} {g:Nat} {eA:zA} {ec mb:Nat} {el:List iW}
theorem Np (hB:WB B eA ec el mb) {n:nh} {bn on:Nat} (hP:Gy True B bn on n) (hE:mY el n=0) :
  tG B g eA el.length ec mb 19 [.agg #[n.name,(n.ins.A,n.ins.l.length,n.ins.c),(n.outs.A,n.outs.l.length,n.outs.c),(n.locals.A,n.locals.l.length,n.locals.c),(n.eqs.A,n.eqs.l.length,n.eqs.c),(n.autos.A,n.autos.l.length,n.autos.c),(n.assume.A,n.assume.l.length,n.assume.c),(n.ensure.A,n.ensure.l.length,n.ensure.c)]] (qo el n):=by
 intro w l h hl;obtain⟨nn,⟨iA,ic,il⟩,⟨oA,oc,ol⟩,⟨lA,lc,ll⟩,⟨qA,qc,ql⟩,⟨aA,ac,al⟩,⟨sA,sc,o⟩,⟨R,J,I⟩⟩:=n;have ok:=yW hE;obtain⟨k1,k2,k3,k4,k5,k6,k7,k8,k9,aJ,aj,aI,aH,aG,aF,aE⟩:=ok;obtain⟨-,-,-,-,-,-,-,-,-,r1,r2,r3,r4,r5,r6,r7⟩:=hP;simp only[]at k1 k2 k3 k4 k5 k6 k7 k8 k9 aJ aj aI aH aG aF aE r1 r2 r3 r4 r5 r6 r7;show Calls prog _ #[.pointer g,.agg #[nn,(iA,il.length,ic),(oA,ol.length,oc),(lA,ll.length,lc),(qA,ql.length,qc),(aA,al.length,ac),(sA,o.length,sc),(R,I.length,J)]] w _
 clear hE;have b0:=jM k1;have aV:nn.data.toList.length=nn.size:=jr nn;have b1:=qC hB.tg hB.nm k2 (by omega);have aY:=qC hB.tg hB.nm k3 (by omega);obtain⟨TP,au⟩:∃TP,qo el ⟨nn,⟨iA,ic,il⟩,⟨oA,oc,ol⟩,⟨lA,lc,ll⟩,⟨qA,qc,ql⟩,⟨aA,ac,al⟩,⟨sA,sc,o⟩,⟨R,J,I⟩⟩=TP:=⟨_,rfl⟩;rw[au]at hl⊢;have hF:iY TP=iY (ya el ⟨nn,⟨iA,ic,il⟩,⟨oA,oc,ol⟩,⟨lA,lc,ll⟩,⟨qA,qc,ql⟩,⟨aA,ac,al⟩,⟨sA,sc,o⟩,⟨R,J,I⟩⟩)++(iY (nr el 1 ll)++(iY (o.flatMap (kI el [97,115,115,117,109,101]))++(iY (I.flatMap (kI el [101,110,115,117,114,101]))++(iY (rL 0 [mB [108,101,116]])++(iY (qJ el 1 ql al)++iY (rL 0 [mB [116,101,108]])))))):=by
  rw[<- au];unfold qo;rw[iC,iC,iC,iC,iC,iC]
 have aS:=iB (fun U (hU:ik w U)=>Al (mb:=mb) hB.sh hB.tg hB.nm r1 k2 (by omega) U (ij h.aft hU));have aR:=iB (fun U (hU:ik w U)=>Al (mb:=mb) hB.sh hB.tg hB.nm r2 k3 (by omega) U (ij h.aft hU));obtain⟨S1,e1,g1⟩:=jh (A:=⟨#[110,111,100,101,32]⟩) (a:=[110,111,100,101,32]) (B:=nn) rfl (qd nn).symm (by simp;omega);obtain⟨S2,e2,g2⟩:=jh (B:=⟨#[40]⟩) (b:=[40]) e1 rfl (by simp;omega);obtain⟨S3,e3,g3⟩:=jh (B:=lG (iY (kO el il))) e2 rfl (by simp;omega);obtain⟨S4,e4,g4⟩:=jh (B:=⟨#[41,32,114,101,116,117,114,110,115,32,40]⟩) (b:=[41,32,114,101,116,117,114,110,115,32,40]) e3 rfl (by simp;omega);obtain⟨S5,e5,g5⟩:=jh (B:=lG (iY (kO el ol))) e4 rfl (by simp;omega);obtain⟨S6,e6,g6⟩:=jh (B:=⟨#[41]⟩) (b:=[41]) e5 rfl (by simp;omega);rw[hF]at hl;simp only[mo]at hl;have HA:Hid (∀U,ik w U->Calls prog 17 #[.pointer (some g),JX,S6] U fun e w'=>e=.returned (.tuple #[])/\Ln B g eA el.length ec mb w' (l++iY (rL 0 (mB [110,111,100,101]::.sp 32::rM nn::mf [40]::(kO el il++mf [41]::.sp 32::mB [114,101,116,117,114,110,115]::.sp 32::mf [40]::(kO el ol++[mf [41]])))))/\vP g U w'):=iB fun U hU=>by
  have:=rE U l 0 (mB [110,111,100,101]::.sp 32::rM nn::mf [40]::(kO el il++mf [41]::.sp 32::mB [114,101,116,117,114,110,115]::.sp 32::mf [40]::(kO el ol++[mf [41]]))) (h.after hU) (by decide) (by unfold ya at hl;simp only[]at hl;omega);rwa [show lG (iY (mB [110,111,100,101]::.sp 32::rM nn::mf [40]::(kO el il++mf [41]::.sp 32::mB [114,101,116,117,114,110,115]::.sp 32::mf [40]::(kO el ol++[mf [41]]))))=S6 from by rw[e6,kH,jn,lQ,jl,iC,jl,jn,kH,jn,jl,iC,jl,ja];simp]at this
 rw[show rL 0 (mB [110,111,100,101]::.sp 32::rM nn::mf [40]::(kO el il++mf [41]::.sp 32::mB [114,101,116,117,114,110,115]::.sp 32::mf [40]::(kO el ol++[mf [41]])))=ya el ⟨nn,⟨iA,ic,il⟩,⟨oA,oc,ol⟩,⟨lA,lc,ll⟩,⟨qA,qc,ql⟩,⟨aA,ac,al⟩,⟨sA,sc,o⟩,⟨R,J,I⟩⟩ from rfl]at HA;have WL:=iB (BP (g:=g) hB r3 k4 (by omega) 1 (by decide));have WT:Hid (∀(w:World) (l:List UInt8),Ln B g eA el.length ec mb w l->l.length+(iY (rL 0 [mB [108,101,116]])).length<=140737488355328->Calls prog 17 #[.pointer (some g),JX,.string ⟨#[108,101,116]⟩] w fun e w'=>e=.returned (.tuple #[])/\Ln B g eA el.length ec mb w' (l++iY (rL 0 [mB [108,101,116]]))/\vP g w w'):=iB fun w l h hl=>rE w l 0 [mB [108,101,116]] h (by decide) hl
 have WE:Hid (∀(w:World) (l:List UInt8),Ln B g eA el.length ec mb w l->l.length+(iY (rL 0 [mB [116,101,108]])).length<=140737488355328->Calls prog 17 #[.pointer (some g),JX,.string ⟨#[116,101,108]⟩] w fun e w'=>e=.returned (.tuple #[])/\Ln B g eA el.length ec mb w' (l++iY (rL 0 [mB [116,101,108]]))/\vP g w w'):=iB fun w l h hl=>rE w l 0 [mB [116,101,108]] h (by decide) hl
 have av:=iB (LC (g:=g) hB r4 k9 r5 aj 1 (by decide));unfold tG at WL av;generalize ya el ⟨nn,⟨iA,ic,il⟩,⟨oA,oc,ol⟩,⟨lA,lc,ll⟩,⟨qA,qc,ql⟩,⟨aA,ac,al⟩,⟨sA,sc,o⟩,⟨R,J,I⟩⟩=HP at HA hF hl;generalize iY HP=R1 at HA hF hl;generalize iY (nr el 1 ll)=R2 at WL hF hl;generalize iY (rL 0 [mB [108,101,116]])=R5 at WT hF hl;generalize iY (qJ el 1 ql al)=R6 at av hF hl;generalize iY (rL 0 [mB [116,101,108]])=R7 at WE hF hl;have HF:=iB hF;have HL:=iB hl;generalize lG (iY (kO el il))=J1 at aS g3;generalize lG (iY (kO el ol))=J2 at aR g5;have HH:=iB h;have lg:Le (g+1) w:=⟨h.lt⟩;obtain⟨c0,c1⟩:=h.cells;have aU:=r6.len;have aZ:=r7.len;simp only[]at aU aZ;clear h hF hl au r1 r2 r3 r4 r5 k1 k2 k3 k4 k5 k6 k7 k8 k9 aJ aj aI aG aE b0 aV b1 aY e1 e2 e3 e4 e5 e6;go_in;go_wp2_with fail;refine jf 23 (by kernel_rfl) (by kernel_rfl) ?_;simp only[sD,rP,uB,sS];repeat (go_big_quiet_step (first | (go_at_call 45;with_reducible exact mR (aS.out _ zc)) | (go_at_call 45;with_reducible exact mR (aR.out _ zc))))
 refine wpQuiet_nil ?_;rintro _ ⟨y_,rfl⟩;go_wp2_with fail;refine (HA _ zc).mono ?_;rintro e w1 ⟨rfl,aL,ag⟩;have ax:ik w ((w.alloc (.cells #[nn,(iA,il.length,ic),(oA,ol.length,oc),(lA,ll.length,lc),(qA,ql.length,qc),(aA,al.length,ac),(sA,o.length,sc),(R,I.length,J)] 65)).more y_):=zc;have ar:iP ((w.alloc (.cells #[nn,(iA,il.length,ic),(oA,ol.length,oc),(lA,ll.length,lc),(qA,ql.length,qc),(aA,al.length,ac),(sA,o.length,sc),(R,I.length,J)] 65)).more y_) w.heap.size 65 #[nn,(iA,il.length,ic),(oA,ol.length,oc),(lA,ll.length,lc),(qA,ql.length,qc),(aA,al.length,ac),(sA,o.length,sc),(R,I.length,J)]:=(jC w 65 #[nn,(iA,il.length,ic),(oA,ol.length,oc),(lA,ll.length,lc),(qA,ql.length,qc),(aA,al.length,ac),(sA,o.length,sc),(R,I.length,J)]).more y_;have ao:=HH.loc ax (js _) ar.lt;have az:=iB (ao.Dh ag);have ai:=iB (ao.blk ag ar);have aN:=iB ((D_ ax HH.lt).trans ag);have aQ:=iB aL;have lb:Le (w.heap.size+1) w1:=⟨ai.lt⟩;have x3:w1.cell? (w.heap.size,3)=some (.slice lA ll.length lc):=ai.cell 3;clear aL ag ao ar ax c0 c1 lg;go_wp2_with fail;refine (WL w1 _ aQ (by have:=HL.out;simp only[mo];omega)).mono ?_;rintro e w2 ⟨rfl,aa,a6⟩;have ay:=iB (az.Dh a6);have ah:=iB (az.blk a6 ai);have aM:=iB (aN.trans a6);have ba:=iB aa;clear lb x3 az ai aN aQ aa a6;have lb:Le (w.heap.size+1) w2:=⟨ah.lt⟩;have x6:w2.cell? (w.heap.size,6)=some (.slice sA o.length sc):=ah.cell 6
 go_wp2_with fail;clear lb x6;go_loopw [39] (fun i wr=>∃j:Nat,j<=o.length/\i=.int .i64 j/\Hid (Ln B g eA el.length ec mb wr (((l++R1)++R2)++iY ((o.take j).flatMap (kI el [97,115,115,117,109,101]))))/\Hid (vP g w2 wr)) (fun i _=>o.length-(intOf i).toNat)
 ·exact⟨0,by omega,rfl,by show Ln _ _ _ _ _ _ _ _;rw[rP];show Ln _ _ _ _ _ _ _ (_++[]);rw[oV];exact ba,Iq _ _⟩
 case round=>
 obtain⟨j,hj,rfl,HN,HS⟩:=hrel;have lg:Le (g+1) wr:=⟨HN.lt⟩;obtain⟨c0,c1⟩:=HN.cells;by_cases an:j<o.length
 ·obtain⟨b,p,t,af,aK,HY,hP⟩:=(r6.txs wr (k:=HN.aft)).part (i:=j) an
  simp only[]at af;subst af;have aq:(j:Int)<(o.length:Int):=by omega
  obtain⟨b9,o9,ae⟩:=r6.elem HY.out;obtain⟨ad,ab⟩:=vh (mb:=mb) hB.sh hB.sy hB.tg ae.rx (jd aH t (om HY.out));have a_:=ui (l:=o) (kI el [97,115,115,117,109,101]) HY.out;have a7:=AK (kI el [97,115,115,117,109,101]) o (j+1);obtain⟨kk,oo,tt,vv,ss,AA,cc,xs⟩:=t;obtain⟨f0,f1,f2,f3,f4,f5⟩:=hP.six;simp only[txs]at f0 f1 f2 f3 f4 f5;obtain⟨x,a1⟩:∃x,iY (kX el (Tx.mk kk oo tt vv ss AA cc xs).er)=x:=⟨_,rfl⟩;have HE:Hid (∀U,ik wr U->Calls prog 47 #[.agg #[(eA,el.length,ec),.map (some mb)],.agg #[kk,oo,tt,vv,ss,(AA,xs.length,cc)]] U fun e w'=>e=.returned (.string (lG x))/\∃z,w'=U.more z):=iB fun U hU=>by
   have:=ad U (ij HN.out.aft hU);rwa [a1]at this
  rw[a1]at ab;have a8:(((l++R1)++R2)++iY ((o.take j).flatMap (kI el [97,115,115,117,109,101]))).length+(iY (kI el [97,115,115,117,109,101] (Tx.mk kk oo tt vv ss AA cc xs))).length<=140737488355328:=by
   have h1:=HL.out;rw[a_,mo]at a7;simp only[mo];omega
  have aw:Hid (((l++R1)++R2)++iY ((o.take (j+1)).flatMap (kI el [97,115,115,117,109,101]))=(((l++R1)++R2)++iY ((o.take j).flatMap (kI el [97,115,115,117,109,101])))++iY (kI el [97,115,115,117,109,101] (Tx.mk kk oo tt vv ss AA cc xs))):=by
   show _=_
   rw[a_];simp only[kD]
  obtain⟨S1,e1,g1⟩:=jh (A:=⟨#[97,115,115,117,109,101,32]⟩) (a:=[97,115,115,117,109,101,32]) (B:=lG x) rfl rfl (by simp;omega);obtain⟨S2,e2,g2⟩:=jh (B:=⟨#[59]⟩) (b:=[59]) e1 rfl (by simp;omega);have HA:=ur HN.out 1 (by decide) (mB [97,115,115,117,109,101]::.sp 32::(kX el (Tx.mk kk oo tt vv ss AA cc xs).er++[mf [59]])) (S:=S2)
   (by rw[e2,kH,jn,iC,a1,jl,ja];simp) a8
  clear a_ a7 a8 HY hP ae ad ab a1 e1 e2 r6;go_wp2_with fail;refine jf 9 (by kernel_rfl) (by kernel_rfl) ?_;simp only[sD,rP,uB,sS];repeat (go_big_quiet_step ((go_at_call 47;with_reducible exact mR (HE.out _ zc))))
  refine wpQuiet_nil ?_;rintro _ ⟨y_,rfl⟩;go_wp2_with fail;refine (HA _ zc).mono ?_;rintro e w2 ⟨rfl,aa,a6⟩;go_wp2_with fail;go_roundw
  case rel=>exact⟨j+1,by omega,by go_num,by show Ln _ _ _ _ _ _ _ _;rw[aw.out];exact aa,HS.trans a6⟩
  case measure=>simp[intOf];omega
 obtain rfl:j=o.length:=by omega
 have aq:¬((o.length:Int)<(o.length:Int)):=by omega
 have a':=HN.out;rw[pf]at a';have aB:=iB a';clear a' HN c0 c1 lg;have aP:=iB (ay.Dh HS);have aD:=iB (ay.blk HS ah);have b8:=iB (aM.trans HS);have lb:Le (w.heap.size+1) wr:=⟨aD.lt⟩;have x7:wr.cell? (w.heap.size,7)=some (.slice R I.length J):=aD.cell 7;clear HS ay ah aM;generalize o.length=n9 at *
 obtain⟨w3,aT⟩:∃w3,w3=wr:=⟨_,rfl⟩;subst aT;go_wp2_with fail;clear lb x7;go_loopw [57] (fun i wr=>∃j:Nat,j<=I.length/\i=.int .i64 j/\Hid (Ln B g eA el.length ec mb wr ((((l++R1)++R2)++iY (o.flatMap (kI el [97,115,115,117,109,101])))++iY ((I.take j).flatMap (kI el [101,110,115,117,114,101]))))/\Hid (vP g w3 wr)) (fun i _=>I.length-(intOf i).toNat)
 case atStart=>exact⟨0,by omega,rfl,by show Ln _ _ _ _ _ _ _ _;rw[rP];show Ln _ _ _ _ _ _ _ (_++[]);rw[oV];exact aB,Iq _ _⟩
 case round=>
 obtain⟨j,hj,rfl,HN,HS⟩:=hrel;have lg:Le (g+1) wr:=⟨HN.lt⟩;obtain⟨c0,c1⟩:=HN.cells;by_cases an:j<I.length
 ·obtain⟨b,p,t,af,aK,HY,hP⟩:=(r7.txs wr (k:=HN.aft)).part (i:=j) an
  simp only[]at af;subst af;have aq:(j:Int)<(I.length:Int):=by omega
  obtain⟨b9,o9,ae⟩:=r7.elem HY.out;obtain⟨ad,ab⟩:=vh (mb:=mb) hB.sh hB.sy hB.tg ae.rx (jd aF t (om HY.out));have a_:=ui (l:=I) (kI el [101,110,115,117,114,101]) HY.out;have a7:=AK (kI el [101,110,115,117,114,101]) I (j+1);obtain⟨kk,oo,tt,vv,ss,AA,cc,xs⟩:=t;obtain⟨f0,f1,f2,f3,f4,f5⟩:=hP.six;simp only[txs]at f0 f1 f2 f3 f4 f5;obtain⟨x,a1⟩:∃x,iY (kX el (Tx.mk kk oo tt vv ss AA cc xs).er)=x:=⟨_,rfl⟩;have HE:Hid (∀U,ik wr U->Calls prog 47 #[.agg #[(eA,el.length,ec),.map (some mb)],.agg #[kk,oo,tt,vv,ss,(AA,xs.length,cc)]] U fun e w'=>e=.returned (.string (lG x))/\∃z,w'=U.more z):=iB fun U hU=>by
   have:=ad U (ij HN.out.aft hU);rwa [a1]at this
  rw[a1]at ab;have a8:((((l++R1)++R2)++iY (o.flatMap (kI el [97,115,115,117,109,101])))++iY ((I.take j).flatMap (kI el [101,110,115,117,114,101]))).length+(iY (kI el [101,110,115,117,114,101] (Tx.mk kk oo tt vv ss AA cc xs))).length<=140737488355328:=by
   have h1:=HL.out;rw[a_,mo]at a7;simp only[mo];omega
  have aw:Hid ((((l++R1)++R2)++iY (o.flatMap (kI el [97,115,115,117,109,101])))++iY ((I.take (j+1)).flatMap (kI el [101,110,115,117,114,101]))=((((l++R1)++R2)++iY (o.flatMap (kI el [97,115,115,117,109,101])))++iY ((I.take j).flatMap (kI el [101,110,115,117,114,101])))++iY (kI el [101,110,115,117,114,101] (Tx.mk kk oo tt vv ss AA cc xs))):=by
   show _=_
   rw[a_];simp only[kD]
  obtain⟨S1,e1,g1⟩:=jh (A:=⟨#[101,110,115,117,114,101,32]⟩) (a:=[101,110,115,117,114,101,32]) (B:=lG x) rfl rfl (by simp;omega);obtain⟨S2,e2,g2⟩:=jh (B:=⟨#[59]⟩) (b:=[59]) e1 rfl (by simp;omega);have HA:=ur HN.out 1 (by decide) (mB [101,110,115,117,114,101]::.sp 32::(kX el (Tx.mk kk oo tt vv ss AA cc xs).er++[mf [59]])) (S:=S2)
   (by rw[e2,kH,jn,iC,a1,jl,ja];simp) a8
  clear a_ a7 a8 HY hP ae ad ab a1 e1 e2 r7;go_wp2_with fail;refine jf 9 (by kernel_rfl) (by kernel_rfl) ?_;simp only[sD,rP,uB,sS];repeat (go_big_quiet_step ((go_at_call 47;with_reducible exact mR (HE.out _ zc))))
  refine wpQuiet_nil ?_;rintro _ ⟨y_,rfl⟩;go_wp2_with fail;refine (HA _ zc).mono ?_;rintro e w2 ⟨rfl,aa,a6⟩;go_wp2_with fail;go_roundw
  case rel=>exact⟨j+1,by omega,by go_num,by show Ln _ _ _ _ _ _ _ _;rw[aw.out];exact aa,HS.trans a6⟩
  case measure=>simp[intOf];omega
 obtain rfl:j=I.length:=by omega
 have aq:¬((I.length:Int)<(I.length:Int)):=by omega
 have a':=HN.out;rw[pf]at a';have aB:=iB a';have aO:=iB (aP.Dh HS);have bb:=iB (aP.blk HS aD);have b7:=iB (b8.trans HS);go_wp2_with fail;refine (WT _ _ aB (by have:=HL.out;simp only[mo];omega)).mono ?_;rintro e w5 ⟨rfl,b4,ak⟩;have bc:=iy (aO.Dh ak);have aC:=iB (aO.blk ak bb);have b6:=iB (b7.trans ak);have b':=iB b4;have lb:Le (w.heap.size+1) w5:=⟨aC.lt⟩;have x4:=aC.cell 4;have x5:=aC.cell 5;go_wp2_with fail;refine (av _ _ b' (by have:=HL.out;simp only[mo];omega)).mono ?_;rintro e w6 ⟨rfl,b3,aX⟩;have b_:=iy b3;have b5:=iy (b6.trans aX);go_wp2_with fail;refine (WE _ _ b_ (by have:=HL.out;simp only[mo];omega)).mono ?_;rintro e w7 ⟨rfl,b2,aW⟩;go_wp2_with fail;go_end0;refine⟨rfl,?_,b5.trans aW⟩;rw[HF.out];simpa only[kD] using b2
end
abbrev ni:=@xx.of
section
variable {P:Program} {f:FuncId} {args:Array Value} {wz w w6:yM} {Q:Ending->yM->Prop} {nd q E E' X T R Rq:Int} {g:Nat}
theorem mN (C:Calls P f args wz fun e w'=>PE w6 nd q E' e w') (hF:E'=E) (HV:Hid (X=jD E T)) (HS:Hid (X≠0->R=X)) (HQ:Hid (X≠0->Rq=q)) (b:xx g w w6)
  (hz:∀w7,Hid (X=T)->ik w6 w7->Q (.returned (.tuple #[])) w7)
  (k:∀w7 F,(∀A n c,ND w g A n c nd R Rq (uw nd q F) w7)->Q (uw nd q F) w7:=by intro _ _ HP;unfold uw;go_wp2_with fail;exact⟨rfl,HP _ _ _⟩):Calls P f args wz Q:=
 mS C hF HV (fun w7 hE hX c=>k w7 E (fun A n c_=>by rw[HS.out (by rw[hX];exact hE),hX,HQ.out (by rw[hX];exact hE)];exact ND.RD hE (b.trans (ni c)))) (fun w7 _=>hz w7)
theorem QF (C:Calls P f args wz fun e w'=>PE w6 nd q E' e w') (hF:E'=E) (HV:Hid (X=jD E T)) (HS:Hid (X≠0->R=X)) (HQ:Hid (X≠0->Rq=q)) (b:xx g w w6) (hE:E≠0:=by decide)
  (k:∀w7 F,(∀A n c,ND w g A n c nd R Rq (uw nd q F) w7)->Q (uw nd q F) w7:=by intro _ _ HP;unfold uw;go_wp2_with fail;exact⟨rfl,HP _ _ _⟩):Calls P f args wz Q:=
 mS C hF HV (fun w7 hE hX c=>k w7 E (fun A n c_=>by rw[HS.out (by rw[hX];exact hE),hX,HQ.out (by rw[hX];exact hE)];exact ND.RD hE (b.trans (ni c)))) (fun _ h=>absurd h hE)
end
section
open Go.Proofs.Tryz
theorem LS {w00:yM} {g:Nat} {eA:zA} {ec:Nat} {el:List iW} (hen:ir 2 sM w00 ⟨eA,ec,el⟩) {nm:yB} {inA:zA} {inc:Nat} {in_:List iO} {ouA:zA} {ouc:Nat} {ou:List iO} {loA:zA} {loc:Nat} {lo:List iO} {eqA:zA} {eqc:Nat} {eq:List oX} {auA:zA} {auc:Nat} {au:List AuT} {asA:zA} {asc:Nat} {as_:List Tx} {enA:zA} {enc:Nat} {en_:List Tx} {b p:Nat} (hy:Gy True w00 b p ⟨nm,⟨inA,inc,in_⟩,⟨ouA,ouc,ou⟩,⟨loA,loc,lo⟩,⟨eqA,eqc,eq⟩,⟨auA,auc,au⟩,⟨asA,asc,as_⟩,⟨enA,enc,en_⟩⟩) {i n0 q0:Int} (w:yM) (hw:ik w00 w) (hg:w00<=g) (h:pK w g eA el ec n0 q0) :
  Calls prog 41 #[.pointer g,i,.agg #[nm,(inA,in_,inc),(ouA,ou,ouc),(loA,lo,loc),(eqA,eq,eqc),(auA,au,auc),(asA,as_,asc),(enA,en_,enc)]] w fun e w'=>ND w g eA el ec i (mY el ⟨nm,⟨inA,inc,in_⟩,⟨ouA,ouc,ou⟩,⟨loA,loc,lo⟩,⟨eqA,eqc,eq⟩,⟨auA,auc,au⟩,⟨asA,asc,as_⟩,⟨enA,enc,en_⟩⟩) (GJ el ⟨nm,⟨inA,inc,in_⟩,⟨ouA,ouc,ou⟩,⟨loA,loc,lo⟩,⟨eqA,eqc,eq⟩,⟨auA,auc,au⟩,⟨asA,asc,as_⟩,⟨enA,enc,en_⟩⟩) e w':=by
 obtain⟨R,hR⟩:=jt (mY el ⟨nm,⟨inA,inc,in_⟩,⟨ouA,ouc,ou⟩,⟨loA,loc,lo⟩,⟨eqA,eqc,eq⟩,⟨auA,auc,au⟩,⟨asA,asc,as_⟩,⟨enA,enc,en_⟩⟩);obtain⟨Rq,bI⟩:=jt (GJ el ⟨nm,⟨inA,inc,in_⟩,⟨ouA,ouc,ou⟩,⟨loA,loc,lo⟩,⟨eqA,eqc,eq⟩,⟨auA,auc,au⟩,⟨asA,asc,as_⟩,⟨enA,enc,en_⟩⟩);obtain⟨X1,b_⟩:=jt (Ek el ⟨nm,⟨inA,inc,in_⟩,⟨ouA,ouc,ou⟩,⟨loA,loc,lo⟩,⟨eqA,eqc,eq⟩,⟨auA,auc,au⟩,⟨asA,asc,as_⟩,⟨enA,enc,en_⟩⟩);have a6:Hid (R=jD X1 (jD (iw (rN el) eq) (jD (iw (rK el 0) au) (jD (iw (qk el) as_) (jD (iw (qk el) en_) 0))))):=by
  show _=_
  rw[<- hR,<- b_,kE];rfl
 have a':Hid (Rq=if X1=0 then wu (rN el) eq 0 else -1):=by
  show _=_
  rw[<- bI,<- b_];rfl
 have I:Hid (X1=jD (jA nm) (jD (iX (decide ((in_:Int)<=64)&&(decide ((ou:Int)<=64)&&(decide ((lo:Int)<=256)&&(decide ((eq:Int)<=256)&&(decide ((au:Int)<=8)&&(decide ((as_:Int)<=8)&&(decide ((en_:Int)<=8)))))))) 3) (jD (iX (decide ((0:Int)<(ou:Int))) 8) (jD (iw (jN el true) in_) (jD (iw (jN el true) ou) (jD (iw (jN el false) lo) 0)))))):=by
  show _=_
  rw[<- b_,kE];rfl
 have J:Hid (X1≠0->R=X1):=fun h=>a6.trans (lR h)
 have a7:Hid (X1≠0->Rq=-1):=fun h=>a'.trans (iV h)
 rw[hR,bI];have br:=iB hen;have HY:=iB hy;have aU:in_.length<=140737488355328/\ou.length<=140737488355328/\lo.length<=140737488355328/\eq.length<=140737488355328/\au.length<=140737488355328/\as_.length<=140737488355328/\en_.length<=140737488355328:=⟨hy.r1.len,hy.r2.len,hy.r3.len,hy.r4.len,hy.r5.len,hy.r6.len,hy.r7.len⟩;obtain⟨cQ,cP,cO,b8,cN,cM,cL⟩:=aU;have cg:nm.size<=140737488355328:=hy.nm;obtain⟨gn,bA⟩:=jt w.heap.size;obtain⟨W1,cA,a1,bn,bl⟩:∃W,w.alloc (.cells #[nm,(inA,in_,inc),(ouA,ou,ouc),(loA,lo,loc),(eqA,eq,eqc),(auA,au,auc),(asA,as_,asc),(enA,en_,enc)] 65)=W/\ik w W/\iP W gn 65 #[nm,(inA,in_,inc),(ouA,ou,ouc),(loA,lo,loc),(eqA,eq,eqc),(auA,au,auc),(asA,as_,asc),(enA,en_,enc)]/\pK W g eA el ec n0 q0:=⟨_,rfl,zc,by rw[<- bA];exact jC _ _ _,pK.here h _⟩;have ch:gn≠g:=by have:=iP.lt h;omega
 obtain⟨W2,cz,B2,a8⟩:∃W,(W1.setCell ⟨g,1,none⟩ (.int .i64 i)).setCell ⟨g,2,none⟩ (.int .i64 (-1))=W/\xx g W1 W/\pK W g eA el.length ec i (-1):=⟨_,rfl,(xx.set _ _ _).trans (xx.set _ _ _),(Hg (Hg bl 1 _) 2 _)⟩;have B1:xx g w W2:=(ni a1).trans B2;have ai:ik w00 W2:=B1.after hw hg;have bh:Hid (∀U,xx g W2 U->ik w00 U/\xx g w U/\U.cell? ⟨gn,0,none⟩=some (.string nm)/\U.cell? ⟨gn,1,none⟩=some (.slice inA in_.length inc)/\U.cell? ⟨gn,2,none⟩=some (.slice ouA ou.length ouc)/\U.cell? ⟨gn,3,none⟩=some (.slice loA lo.length loc)/\U.cell? ⟨gn,4,none⟩=some (.slice eqA eq.length eqc)/\U.cell? ⟨gn,5,none⟩=some (.slice auA au.length auc)/\U.cell? ⟨gn,6,none⟩=some (.slice asA as_.length asc)/\U.cell? ⟨gn,7,none⟩=some (.slice enA en_.length enc)/\Le (gn+1) U):=fun U hU=>by
  have y0:=(B2.trans hU).blk bn ch;exact⟨hU.after ai hg,B1.trans hU,by rw[y0.cell];rfl,by rw[y0.cell];rfl,by rw[y0.cell];rfl,by rw[y0.cell];rfl,by rw[y0.cell];rfl,by rw[y0.cell];rfl,by rw[y0.cell];rfl,by rw[y0.cell];rfl,y0.is_le⟩
 have HK:Hid (∀U,ik W2 U->U.cell? gn=nm/\U.cell? (gn,1)=(inA,in_,inc)/\U.cell? (gn,2)=(ouA,ou,ouc)/\U.cell? (gn,3)=(loA,lo,loc)/\U.cell? (gn,4)=(eqA,eq,eqc)/\U.cell? (gn,5)=(auA,au,auc)/\U.cell? (gn,6)=(asA,as_,asc)/\U.cell? (gn,7)=(enA,en_,enc)/\Le (gn+1) U/\U.cell? g=(eA,el,ec)/\Le (g+1) U):=fun U hU=>by
  obtain⟨_,_,x0,x1,x2,x3,x4,x5,x6,x7,x8⟩:=bh U (ni hU);exact⟨x0,x1,x2,x3,x4,x5,x6,x7,x8,(a8.here U (k:=hU)).fields.1,(a8.here U (k:=hU)).fields.2.2.2⟩
 have l1:Le (g+1) W1:=bl.is_le;have f1:=nL bl 1;have f2:=nL bl 2;obtain⟨_,p1,p2,_⟩:=pK.fields bl;have aF:=br.enums W2 (k:=ai);have HI:Hid (∀s:yB,s.size<=140737488355328->∀U,ik W2 U->Calls prog 74 #[.pointer (some g),s] U fun e w'=>PE U i (-1) (jA s) e w'):=fun s hs U hU=>tT a8 s hs U hU
 have HM:Hid (∀b e,e≠0->∀U,ik W2 U->Calls prog 39 #[.pointer (some g),.bool b,.int .i64 e] U fun e' w'=>PE U i (-1) (iX b e) e' w'):=fun b e he U hU=>rC (a8.here U (k:=hU)) b e he
 have HD:Hid (∀(A:zA) (c:Nat) (l:List iO),ir 3 jG W2 ⟨A,c,l⟩->∀b U,ik W2 U->Calls prog 75 #[.pointer (some g),(A,l,c),.bool b] U fun e w'=>PE U i (-1) (iw (jN el b) l) e w'):=fun A c l hh b U hU=>Cz (en:=⟨eA,ec,el⟩) a8 aF ⟨A,c,l⟩ hh b U hU
 obtain⟨k0,k1,k2,k3,k4,k5,k6,k7,kn,l0,ll⟩:=HK W2 (iq _);go_in;go_wp2_with fail;try rw[cA]
 try rw[cz]
 try rw[bA]
 refine mN (HI nm cg W2 (ij (iq W2) (iq W2))) rfl I J a7 (B1.trans (ni (iq W2))) ?_;clear I;intro w2 I bR;have d2:ik W2 w2:=ij (iq W2) bR;have b2:ik W2 w2:=ij (iq W2) bR;obtain⟨k0,k1,k2,k3,k4,k5,k6,k7,kn,l0,ll⟩:=HK w2 (b2);by_cases aa:(in_:Int)<=64;rotate_left
 ·replace I:Hid (X1=jD (iX false 3) (jD (iX (decide ((0:Int)<(ou:Int))) 8) (jD (iw (jN el true) in_) (jD (iw (jN el true) ou) (jD (iw (jN el false) lo) 0))))):=by show _=_;rw[I.out,decide_eq_false aa];simp only[qu,qT]
  have cq:¬in_.length<=64:=by omega
  have ad:¬max (in_:Int) (ou:Int)<=64:=by omega
  go_wp2_with fail;exact QF (E:=iX false 3) (HM _ 3 (by decide) w2 (ij (iq W2) d2)) (by first | rfl | exact nQ (fun b=>iX b 3) (decide_eq_false (by omega))) I J a7 (B1.trans (ni d2))
 have cq:in_.length<=64:=by omega
 by_cases ae:(ou:Int)<=64;rotate_left
 ·replace I:Hid (X1=jD (iX false 3) (jD (iX (decide ((0:Int)<(ou:Int))) 8) (jD (iw (jN el true) in_) (jD (iw (jN el true) ou) (jD (iw (jN el false) lo) 0))))):=by show _=_;rw[I.out,lp aa,decide_eq_false ae];simp only[qu,qT]
  have cp:¬ou.length<=64:=by omega
  have ad:¬max (in_:Int) (ou:Int)<=64:=by omega
  go_wp2_with fail;exact QF (E:=iX false 3) (HM _ 3 (by decide) w2 (ij (iq W2) d2)) (by first | rfl | exact nQ (fun b=>iX b 3) (decide_eq_false (by omega))) I J a7 (B1.trans (ni d2))
 have cp:ou.length<=64:=by omega
 by_cases aq:(lo:Int)<=256;rotate_left
 ·replace I:Hid (X1=jD (iX false 3) (jD (iX (decide ((0:Int)<(ou:Int))) 8) (jD (iw (jN el true) in_) (jD (iw (jN el true) ou) (jD (iw (jN el false) lo) 0))))):=by show _=_;rw[I.out,lp aa,lp ae,decide_eq_false aq];simp only[qu,qT]
  have cn:¬lo.length<=256:=by omega
  have ad:max (in_:Int) (ou:Int)<=64:=by omega
  go_wp2_with fail;exact QF (E:=iX false 3) (HM _ 3 (by decide) w2 (ij (iq W2) d2)) (by first | rfl | exact nQ (fun b=>iX b 3) (decide_eq_false (by omega))) I J a7 (B1.trans (ni d2))
 have cn:lo.length<=256:=by omega
 by_cases ay:(eq:Int)<=256;rotate_left
 ·replace I:Hid (X1=jD (iX false 3) (jD (iX (decide ((0:Int)<(ou:Int))) 8) (jD (iw (jN el true) in_) (jD (iw (jN el true) ou) (jD (iw (jN el false) lo) 0))))):=by show _=_;rw[I.out,lp aa,lp ae,lp aq,decide_eq_false ay];simp only[qu,qT]
  have cm:¬eq.length<=256:=by omega
  have ad:max (in_:Int) (ou:Int)<=64:=by omega
  go_wp2_with fail;exact QF (E:=iX false 3) (HM _ 3 (by decide) w2 (ij (iq W2) d2)) (by first | rfl | exact nQ (fun b=>iX b 3) (decide_eq_false (by omega))) I J a7 (B1.trans (ni d2))
 have cm:eq.length<=256:=by omega
 by_cases aG:(au:Int)<=8;rotate_left
 ·replace I:Hid (X1=jD (iX false 3) (jD (iX (decide ((0:Int)<(ou:Int))) 8) (jD (iw (jN el true) in_) (jD (iw (jN el true) ou) (jD (iw (jN el false) lo) 0))))):=by show _=_;rw[I.out,lp aa,lp ae,lp aq,lp ay,decide_eq_false aG];simp only[qu,qT]
  have cl:¬au.length<=8:=by omega
  have ad:max (in_:Int) (ou:Int)<=64:=by omega
  go_wp2_with fail;exact QF (E:=iX false 3) (HM _ 3 (by decide) w2 (ij (iq W2) d2)) (by first | rfl | exact nQ (fun b=>iX b 3) (decide_eq_false (by omega))) I J a7 (B1.trans (ni d2))
 have cl:au.length<=8:=by omega
 by_cases b9:(as_:Int)<=8;rotate_left
 ·replace I:Hid (X1=jD (iX false 3) (jD (iX (decide ((0:Int)<(ou:Int))) 8) (jD (iw (jN el true) in_) (jD (iw (jN el true) ou) (jD (iw (jN el false) lo) 0))))):=by show _=_;rw[I.out,lp aa,lp ae,lp aq,lp ay,lp aG,decide_eq_false b9];simp only[qu,qT]
  have ck:¬as_.length<=8:=by omega
  have ad:max (in_:Int) (ou:Int)<=64:=by omega
  go_wp2_with fail;exact QF (E:=iX false 3) (HM _ 3 (by decide) w2 (ij (iq W2) d2)) (by first | rfl | exact nQ (fun b=>iX b 3) (decide_eq_false (by omega))) I J a7 (B1.trans (ni d2))
 have ck:as_.length<=8:=by omega
 by_cases bE:(en_:Int)<=8;rotate_left
 ·replace I:Hid (X1=jD (iX false 3) (jD (iX (decide ((0:Int)<(ou:Int))) 8) (jD (iw (jN el true) in_) (jD (iw (jN el true) ou) (jD (iw (jN el false) lo) 0))))):=by show _=_;rw[I.out,lp aa,lp ae,lp aq,lp ay,lp aG,lp b9,decide_eq_false bE];simp only[qu,qT]
  have cj:¬en_.length<=8:=by omega
  have ad:max (in_:Int) (ou:Int)<=64:=by omega
  go_wp2_with fail;exact QF (E:=iX false 3) (HM _ 3 (by decide) w2 (ij (iq W2) d2)) (by first | rfl | exact nQ (fun b=>iX b 3) (decide_eq_false (by omega))) I J a7 (B1.trans (ni d2))
 have cj:en_.length<=8:=by omega
 have ad:max (in_:Int) (ou:Int)<=64:=by omega
 replace I:Hid (X1=jD (iX true 3) (jD (iX (decide ((0:Int)<(ou:Int))) 8) (jD (iw (jN el true) in_) (jD (iw (jN el true) ou) (jD (iw (jN el false) lo) 0))))):=by show _=_;rw[I.out,lp aa,lp ae,lp aq,lp ay,lp aG,lp b9,lp bE];rfl
 go_wp2_with fail;refine mN (E:=iX true 3) (HM _ 3 (by decide) w2 (ij (iq W2) d2)) (by first | rfl | exact nQ (fun b=>iX b 3) (lp (by omega))) I J a7 (B1.trans (ni d2)) ?_;clear I;intro w10 I b3;have bc:ik W2 w10:=ij d2 b3;have c5:ik W2 w10:=ij (b2) b3;obtain⟨k0,k1,k2,k3,k4,k5,k6,k7,kn,l0,ll⟩:=HK w10 (c5);go_wp2_with fail;refine mN (E:=iX (decide ((0:Int)<(ou:Int))) 8) (HM _ 8 (by decide) w10 (ij (iq W2) bc)) (nQ (fun b=>iX b 8) (decide_eq_decide.2 (by omega))) I J a7 (B1.trans (ni bc)) ?_;clear I;intro w11 I b1;have bb:ik W2 w11:=ij bc b1;have c4:ik W2 w11:=ij (c5) b1;obtain⟨k0,k1,k2,k3,k4,k5,k6,k7,kn,l0,ll⟩:=HK w11 (c4);go_wp2_with fail;refine mN (HD inA inc in_ (HY.r1.decls W2 (k:=ai)) true w11 (ij (iq W2) bb)) rfl I J a7 (B1.trans (ni bb)) ?_;clear I;intro w12 I b0;have ba:ik W2 w12:=ij bb b0;have c3:ik W2 w12:=ij (c4) b0;obtain⟨k0,k1,k2,k3,k4,k5,k6,k7,kn,l0,ll⟩:=HK w12 (c3);go_wp2_with fail;refine mN (HD ouA ouc ou (HY.r2.decls W2 (k:=ai)) true w12 (ij (iq W2) ba)) rfl I J a7 (B1.trans (ni ba)) ?_;clear I;intro w13 I aZ;have b':ik W2 w13:=ij ba aZ;have c2:ik W2 w13:=ij (c3) aZ;obtain⟨k0,k1,k2,k3,k4,k5,k6,k7,kn,l0,ll⟩:=HK w13 (c2);go_wp2_with fail;refine mN (HD loA loc lo (HY.r3.decls W2 (k:=ai)) false w13 (ij (iq W2) b')) rfl I J a7 (B1.trans (ni b')) ?_;clear I;intro w14 I aY
 have bQ:ik W2 w14:=ij b' aY;have cF:ik W2 w14:=ij (c2) aY;obtain⟨k0,k1,k2,k3,k4,k5,k6,k7,kn,l0,ll⟩:=HK w14 (cF);go_wp2_with fail;replace a6:=iB (a6.trans (kC I));replace a':=iB (a'.trans (iG I));go_loopw [82] (fun x wr=>∃j:Nat,j<=eq.length/\x=.int .i64 (j:Nat)/\Hid (iw (rN el) (eq.take j)=0)/\Hid (xx g W2 wr/\∃q',pK wr g eA el.length ec i q')) (fun x _=>eq.length-(intOf x).toNat)
 ·exact⟨0,by omega,rfl,iB (by simp[iw]),iB ⟨ni bQ,_,a8.here w14 (k:=bQ)⟩⟩
 case round=>
 obtain⟨j,hj,rfl,aN,HB⟩:=hrel;obtain⟨rj,cf⟩:=jt wr;rw[cf]at HB⊢;obtain⟨cG,cT,k0,k1,k2,k3,k4,k5,k6,k7,kn⟩:=bh rj HB.1;obtain⟨q',ao⟩:=HB.2;by_cases aT:j<eq
 ·have cv:(j:Int)<(eq:Int):=by omega
  obtain⟨bj,pj,yj,rfl,cK,aL,bJ⟩:=(HY.r4.eqs rj (k:=cG)).part (i:=j) aT;obtain⟨⟨qA,qc,ql⟩,⟨k,o,t,v,s,A,c,xs⟩⟩:=yj;obtain⟨_,_,c7⟩:=HY.r4.elem (i:=j) aL;have aM:=iB c7;obtain⟨z0,z1,z2,z3,z4,z5⟩:=bJ.six;have z6:=bJ.c0;simp only[txs]at z0 z1 z2 z3 z4 z5 z6;have J:Hid (rN el ⟨⟨qA,qc,ql⟩,.mk k o t v s A c xs⟩≠0->R=rN el ⟨⟨qA,qc,ql⟩,.mk k o t v s A c xs⟩):=iB fun h=>by
   have h1:=kN (rN el) aL aN h;exact a6.trans ((lR (by rw[h1];exact h)).trans h1)
  have a7:Hid (rN el ⟨⟨qA,qc,ql⟩,.mk k o t v s A c xs⟩≠0->Rq=(j:Int)):=iB fun h=>by
   have h1:=Ez (rN el) 0 aL aN h;rw[t_]at h1;exact a'.trans h1
  have c':Hid (rN el ⟨⟨qA,qc,ql⟩,.mk k o t v s A c xs⟩=0->iw (rN el) (eq.take (j+1))=0):=iB fun h=>(kt (rN el) aL aN).trans h
  obtain⟨X1,a_⟩:∃X,X=rN el ⟨⟨qA,qc,ql⟩,.mk k o t v s A c xs⟩:=⟨_,rfl⟩;have I:Hid (X1=jD (rN el ⟨⟨qA,qc,ql⟩,.mk k o t v s A c xs⟩) 0):=iB (a_.trans (kE _).symm);rw[<- a_]at J c' a7;obtain⟨gq,bz⟩:=jt rj.heap.size;obtain⟨W3,cy,a3,bq,aJ⟩:∃W,rj.alloc (.cells #[(qA,ql,qc),k,o,t,v,s,(A,xs,c)] 79)=W/\ik rj W/\iP W gq 79 #[(qA,ql,qc),k,o,t,v,s,(A,xs,c)]/\pK W g eA el ec i q':=⟨_,rfl,zc,by rw[<- bz];exact jC _ _ _,pK.here ao _⟩;have bw:gq≠g:=by have:=iP.lt ao;omega
  obtain⟨W4,cx,B4,b8⟩:∃W,W3.setCell (g,2) (.int .i64 (j:Nat))=W/\xx g W3 W/\pK W g eA el ec i (j:Nat):=⟨_,rfl,xx.set _ _ _,Hg aJ 2 _⟩;have B5:xx g W2 W4:=HB.1.trans ((ni a3).trans B4);have bd:ik w00 W4:=B5.after ai hg;have e3:=jo aJ;have e4:=bq.is_le;have e5:=nL aJ 2;have e7:=(pK.fields aJ).2.2.1;have ab:=B4.blk bq bw;have e6:=ab.is_le;have v0:W4.cell? gq=(qA,ql,qc):=by rw[ab.cell];rfl
  have v1:W4.cell? (gq,1)=k:=by rw[ab.cell];rfl
  have v2:W4.cell? (gq,2)=o:=by rw[ab.cell];rfl
  have v3:W4.cell? (gq,3)=t:=by rw[ab.cell];rfl
  have v4:W4.cell? (gq,4)=v:=by rw[ab.cell];rfl
  have v5:W4.cell? (gq,5)=s:=by rw[ab.cell];rfl
  have v6:W4.cell? (gq,6)=(A,xs,c):=by rw[ab.cell];rfl
  have HQ:Hid (Calls prog 76 #[.pointer g,.agg #[(qA,ql,qc),k,o,t,v,s,(A,xs,c)]] W4 fun e w'=>PE W4 i (j:Nat) (rN el ⟨⟨qA,qc,ql⟩,.mk k o t v s A c xs⟩) e w'):=J0 (en:=⟨eA,ec,el⟩) b8 (br.enums W4 (k:=bd)) ⟨qA,qc,ql⟩ (aM.lf.strs W4 (k:=bd)) (aM.ri.here W4 (k:=bd)) aM.tb (aM.sz trivial) W4 (iq _);go_wp2_with fail;try rw[cy]
  try rw[cx]
  try rw[bz]
  refine mN (HQ) rfl I J a7 (B1.trans (B5.trans (ni (iq W4)))) ?_;clear I;intro w15 I aX;have bP:ik W4 w15:=ij (iq W4) aX;have cS:=ij (iq W4) aX;go_wp2_with fail;go_roundw
  case rel=>exact⟨j+1,by omega,by go_num,iB (c' I),iB ⟨B5.trans (ni bP),_,b8.here w15 (k:=bP)⟩⟩
  case measure=>simp only[intOf];omega
 have hz:=lh (rN el) aT aN;replace a6:=iB (a6.trans (kC hz));replace a':=iB (a'.trans (AS (rN el) eq 0 hz));obtain⟨W6,cw,B6,a8⟩:∃W,rj.setCell ⟨g,2,none⟩ (.int .i64 (-1))=W/\xx g rj W/\pK W g eA el.length ec i (-1):=⟨_,rfl,xx.set _ _ _,Hg ao 2 _⟩;have B7:xx g W2 W6:=HB.1.trans B6;have ah:ik w00 W6:=B7.after ai hg;have e3:=jo ao;have e5:=nL ao 2;have e7:=(pK.fields ao).2.2.1;have aF:=br.enums W6 (k:=ah);have HA:Hid (∀(A1:Option Addr) (c1:Nat) (l:List StT),zS True W6 (.mk A1 c1 l)->∀U,ik W6 U->Calls prog 77 #[.pointer (some ⟨g,0,none⟩),.agg #[.slice A1 l.length c1],.int .i64 0] U fun e w'=>PE U i (-1) (rK el 0 (.mk A1 c1 l)) e w'):=fun A1 c1 l hh U hU=>LZ a8 aF A1 c1 l hh U hU
 have HG:Hid (∀e,∀U,ik W6 U->Calls prog 78 #[.pointer (some g),.int .i64 e] U fun e' w'=>PE U i (-1) e e' w'):=fun e U hU=>Au (a8.here U (k:=hU)) e
 have HX:Hid (∀(k o t v:Int) (s:yB) (A:zA) (c:Nat) (xs:List Tx),(Tx.mk k o t v s A c xs).size<=2000000->FY (.mk k o t v s A c xs)->RX W6 (.mk k o t v s A c xs)->∀U,ik W6 U->Calls prog 79 #[(eA,el,ec),.agg #[k,o,t,v,s,(A,xs,c)]] U fun e w'=>e=.returned (.int .i64 (qk el (.mk k o t v s A c xs)))/\∃z,w'=U.more z):=fun k o t v s A c xs hs hB hX U hU=>(zX aF hs hX hB U hU).mono fun e w_ h_=>⟨h_.1,have:=h_.2;jP _ _⟩
 have HK:Hid (∀U,ik W6 U->U.cell? gn=nm/\U.cell? (gn,1)=(inA,in_,inc)/\U.cell? (gn,2)=(ouA,ou,ouc)/\U.cell? (gn,3)=(loA,lo,loc)/\U.cell? (gn,4)=(eqA,eq,eqc)/\U.cell? (gn,5)=(auA,au,auc)/\U.cell? (gn,6)=(asA,as_,asc)/\U.cell? (gn,7)=(enA,en_,enc)/\Le (gn+1) U/\U.cell? g=(eA,el,ec)/\Le (g+1) U):=fun U hU=>by
  obtain⟨_,_,x0,x1,x2,x3,x4,x5,x6,x7,x8⟩:=bh U (B7.trans (ni hU));exact⟨x0,x1,x2,x3,x4,x5,x6,x7,x8,(a8.here U (k:=hU)).fields.1,(a8.here U (k:=hU)).fields.2.2.2⟩
 have ca:=iB kn;obtain⟨k0,k1,k2,k3,k4,k5,k6,k7,kn,l0,ll⟩:=HK W6 (iq _);have e9:=ca.out;go_wp2_with fail;try rw[cw]
 have az:=iq W6;go_loopw [103] (fun i wr=>∃x:Nat,x<=au.length/\i=.int .i64 (x:Nat)/\Hid (iw (rK el 0) (au.take x)=0)/\ik W6 wr) (fun i _=>au.length-(intOf i).toNat)
 ·exact⟨0,by omega,rfl,iB (by simp[iw]),iq W6⟩
 case round=>
 obtain⟨x,hx,rfl,bk,av⟩:=hrel;have aH:ik W6 wr:=ij az av;obtain⟨rx,cb⟩:=jt wr;rw[cb]at av aH⊢;obtain⟨k0,k1,k2,k3,k4,k5,k6,k7,kn,l0,ll⟩:=HK rx (av);by_cases aQ:x<au
 ·have cr:(x:Int)<(au:Int):=by omega
  obtain⟨bx,px,yx,rfl,cI,be,cB⟩:=((HY.r5.Ru W6 (k:=ah)).Ru rx (k:=ij (iq W6) aH)).part (i:=x) aQ;obtain⟨xA,xc,xl⟩:=yx;obtain⟨_,_,c6⟩:=(HY.r5.Ru W6 (k:=ah)).elem (i:=x) be;have cH:=iB c6;have y0:rx.cell? (bx,px+x)=(xA,xl,xc):=by have:=cB.1;rwa [yr]at this
  have J:Hid ((rK el 0 (.mk xA xc xl))≠0->R=(rK el 0 (.mk xA xc xl))):=iB fun h=>by
   have h1:=kN (rK el 0) be bk h;have h2:R=(rK el 0 (.mk xA xc xl)):=a6.trans ((lR (by rw[h1];exact h)).trans h1);exact h2
  have I:Hid ((rK el 0 (.mk xA xc xl))=jD (rK el 0 (.mk xA xc xl)) 0):=iB (kE _).symm;have c8:Hid ((rK el 0 (.mk xA xc xl))=0->iw (rK el 0) (au.take (x+1))=0):=iy fun h=>(kt (rK el 0) be bk).trans h
  obtain⟨X1,a_⟩:∃X,X=(rK el 0 (.mk xA xc xl)):=⟨_,rfl⟩;replace I:=iy (a_.trans I);rw[<- a_]at J c8;obtain⟨bK,bD⟩:=jt (rx.heap.size);obtain⟨aA,bH,aE,b6⟩:∃W,rx.alloc (.cells #[(xA,xl,xc)] 131)=W/\Hid (∀U:yM,ik W U->U.cell? bK=(xA,xl,xc)/\Le (bK+1) U/\U.cell? g=(eA,el,ec)/\Le (g+1) U)/\ik rx W:=by
   refine⟨_,rfl,fun U hU=>?_,iR⟩;have y0:=(jC rx 131 #[(xA,xl,xc)]).after (w':=U);rw[bD]at y0;have q0:=ij (iq W6) (ij aH (ij iR hU));have q1:=ij (av) (ij iR hU);exact⟨by rw[y0.cell];rfl,y0.is_le,(HK U q0).2.2.2.2.2.2.2.2.2.1,(HK U q0).2.2.2.2.2.2.2.2.2.2⟩
  have bO:=ij aH b6;obtain⟨f0,bu,bt,bs⟩:=aE aA (iq _);go_wp2_with fail;try rw[bH]
  obtain⟨_,_,l0,ll⟩:=aE aA (iq _);refine mN (HA xA xc xl cH.2 aA (ij (iq W6) bO)) rfl I J (fun _=>a') (B1.trans (B7.trans (ni bO))) ?_;clear I;intro w17 I bU;have bZ:ik aA w17:=ij (iq aA) bU;obtain⟨f0,bu,l0,ll⟩:=aE w17 (bZ);go_wp2_with fail;go_roundw
  case rel=>exact⟨x+1,iu,by go_num,iy (c8 I),ij (av) (ij b6 (bZ))⟩
  case measure=>simp only[intOf];omega
 replace a6:=iy (a6.trans (kC (lh (rK el 0) aQ bk)));go_wp2_with fail;go_loopw [114] (fun i wr=>∃m:Nat,m<=as_.length/\i=.int .i64 (m:Nat)/\Hid (iw (qk el) (as_.take m)=0)/\ik W6 wr) (fun i _=>as_.length-(intOf i).toNat)
 ·exact⟨0,iu,rfl,iy (by simp[iw]),av⟩
 case round=>
 obtain⟨m,hm,rfl,bp,aw⟩:=hrel;have aI:=ij az aw;obtain⟨rm,cd⟩:=jt (wr);rw[cd]at aw aI⊢;obtain⟨k0,k1,k2,k3,k4,k5,k6,k7,kn,l0,ll⟩:=HK rm (aw);by_cases aS:m<as_
 ·have cu:(m:Int)<(as_:Int):=iu
  obtain⟨bm,pm,ym,rfl,cJ,bg,cD⟩:=((HY.r6.txs W6 (k:=ah)).txs rm (k:=ij (iq W6) aI)).part (i:=m) aS;obtain⟨k,o,t,v,s,A,c,xs⟩:=ym;obtain⟨_,_,aD⟩:=(HY.r6.txs W6 (k:=ah)).elem (i:=m) bg;have aB:=iy (HX k o t v s A c xs (aD.sz trivial) aD.tb aD.rx);obtain⟨z0,z1,z2,z3,z4,z5⟩:=cD.six;simp only[txs]at z0 z1 z2 z3 z4 z5;obtain⟨ee,ax⟩:=jt (qk el (.mk k o t v s A c xs));rw[ax]at aB;have J:Hid ((qk el (.mk k o t v s A c xs))≠0->R=(qk el (.mk k o t v s A c xs))):=iy fun h=>by
   have h1:=kN (qk el) bg bp h;have h2:=a6.trans ((lR (by rw[h1];exact h)).trans h1);exact h2
  have I:Hid ((qk el (.mk k o t v s A c xs))=jD ee 0):=by show _=_;rw[kE,ax]
  have c_:Hid ((qk el (.mk k o t v s A c xs))=0->iw (qk el) (as_.take (m+1))=0):=iy fun h=>(kt (qk el) bg bp).trans h
  obtain⟨X1,a_⟩:∃X,X=(qk el (.mk k o t v s A c xs)):=⟨_,rfl⟩;replace I:=iy (a_.trans I);rw[<- a_]at J c_;obtain⟨ag,bC⟩:=jt (rm.heap.size);obtain⟨ak,bG,an,b5⟩:∃W,rm.alloc (.cells #[k,o,t,v,s,(A,xs,c)] 73)=W/\Hid (∀U:yM,ik W U->U.cell? ag=k/\U.cell? (ag,1)=o/\U.cell? (ag,2)=t/\U.cell? (ag,3)=v/\U.cell? (ag,4)=s/\U.cell? (ag,5)=(A,xs,c)/\Le (ag+1) U/\U.cell? g=(eA,el,ec)/\Le (g+1) U)/\ik rm W:=by
   refine⟨_,rfl,fun U hU=>?_,iR⟩;have y0:=(jC rm 73 #[k,o,t,v,s,(A,xs,c)]).after (w':=U);rw[bC]at y0;have q0:=ij (iq W6) (ij aI (ij iR hU));have q1:=ij (aw) (ij iR hU);exact⟨by rw[y0.cell];rfl,by rw[y0.cell];rfl,by rw[y0.cell];rfl,by rw[y0.cell];rfl,by rw[y0.cell];rfl,by rw[y0.cell];rfl,y0.is_le,(HK U q0).2.2.2.2.2.2.2.2.2.1,(HK U q0).2.2.2.2.2.2.2.2.2.2⟩
  have bN:=ij aI b5;obtain⟨f0,f1,f2,f3,f4,f5,aP,bt,bs⟩:=an ak (iq _);go_wp2_with fail;try rw[bG]
  obtain⟨_,_,_,_,_,_,_,l0,ll⟩:=an ak (iq _);have cR:=ij (iq W6) bN;refine jf 7 kp kp ?_;simp only[sD,rP,uB,sS];repeat (go_big_quiet_step ((go_at_call 79;exact mR (aB _ iR))))
  refine wpQuiet_nil ?_;rintro _ ⟨y_,rfl⟩;obtain⟨w19,b7,aW⟩:∃v,ak.more y_=v/\ik ak v:=⟨_,rfl,iR⟩;rw[b7];have bM:ik W6 w19:=ij bN aW;have bY:ik ak w19:=ij (iq ak) aW;obtain⟨f0,f1,f2,f3,f4,f5,aP,l0,ll⟩:=an w19 (bY);go_wp2_with fail;refine mN (HG ee w19 (ij (iq W6) bM)) rfl I J (fun _=>a') (B1.trans (B7.trans (ni bM))) ?_;clear I;intro w20 I bT;have bX:ik ak w20:=ij (bY) bT;obtain⟨f0,f1,f2,f3,f4,f5,aP,l0,ll⟩:=an w20 (bX);go_wp2_with fail;go_roundw
  case rel=>exact⟨m+1,iu,by go_num,iy (c_ I),ij (aw) (ij b5 (bX))⟩
  case measure=>simp only[intOf];omega
 replace a6:=iy (a6.trans (kC (lh (qk el) aS bp)));go_wp2_with fail;go_loopw [130] (fun i wr=>∃n:Nat,n<=en_.length/\i=.int .i64 (n:Nat)/\Hid (iw (qk el) (en_.take n)=0)/\ik W6 wr) (fun i _=>en_.length-(intOf i).toNat)
 ·exact⟨0,iu,rfl,iy (by simp[iw]),aw⟩
 case round=>
 obtain⟨n,hn,rfl,bo,aK⟩:=hrel;have ar:=ij az aK;obtain⟨rn,cc⟩:=jt (wr);rw[cc]at aK ar⊢;obtain⟨k0,k1,k2,k3,k4,k5,k6,k7,kn,l0,ll⟩:=HK rn (aK);by_cases aR:n<en_
 ·have ct:(n:Int)<(en_:Int):=iu
  obtain⟨bn,pn,yn,rfl,aU,bf,cC⟩:=((HY.r7.txs W6 (k:=ah)).txs rn (k:=ij (iq W6) ar)).part (i:=n) aR;obtain⟨k,o,t,v,s,A,c,xs⟩:=yn;obtain⟨_,_,aC⟩:=(HY.r7.txs W6 (k:=ah)).elem (i:=n) bf;have aB:=iy (HX k o t v s A c xs (aC.sz trivial) aC.tb aC.rx);obtain⟨z0,z1,z2,z3,z4,z5⟩:=cC.six;simp only[txs]at z0 z1 z2 z3 z4 z5;obtain⟨ee,ax⟩:=jt (qk el (.mk k o t v s A c xs));rw[ax]at aB;have J:Hid ((qk el (.mk k o t v s A c xs))≠0->R=(qk el (.mk k o t v s A c xs))):=iy fun h=>by
   have h1:=kN (qk el) bf bo h;have h2:=a6.trans ((lR (by rw[h1];exact h)).trans h1);exact h2
  have I:Hid ((qk el (.mk k o t v s A c xs))=jD ee 0):=by show _=_;rw[kE,ax]
  have c9:Hid ((qk el (.mk k o t v s A c xs))=0->iw (qk el) (en_.take (n+1))=0):=iy fun h=>(kt (qk el) bf bo).trans h
  obtain⟨X1,a_⟩:∃X,X=(qk el (.mk k o t v s A c xs)):=⟨_,rfl⟩;replace I:=iy (a_.trans I);rw[<- a_]at J c9;obtain⟨af,bB⟩:=jt (rn.heap.size);obtain⟨aj,bF,al,b4⟩:∃W,rn.alloc (.cells #[k,o,t,v,s,(A,xs,c)] 73)=W/\Hid (∀U:yM,ik W U->U.cell? af=k/\U.cell? (af,1)=o/\U.cell? (af,2)=t/\U.cell? (af,3)=v/\U.cell? (af,4)=s/\U.cell? (af,5)=(A,xs,c)/\Le (af+1) U/\U.cell? g=(eA,el,ec)/\Le (g+1) U)/\ik rn W:=by
   refine⟨_,rfl,fun U hU=>?_,iR⟩;have y0:=(jC rn 73 #[k,o,t,v,s,(A,xs,c)]).after (w':=U);rw[bB]at y0;have q0:=ij (iq W6) (ij ar (ij iR hU));exact⟨by rw[y0.cell];rfl,by rw[y0.cell];rfl,by rw[y0.cell];rfl,by rw[y0.cell];rfl,by rw[y0.cell];rfl,by rw[y0.cell];rfl,y0.is_le,(HK U q0).2.2.2.2.2.2.2.2.2.1,(HK U q0).2.2.2.2.2.2.2.2.2.2⟩
  have cE:=ij ar b4;obtain⟨f0,f1,f2,f3,f4,f5,aO,bt,bs⟩:=al aj (iq _);go_wp2_with fail;try rw[bF]
  obtain⟨_,_,_,_,_,_,_,l0,ll⟩:=al aj (iq _);refine jf 7 kp kp ?_;simp only[sD,rP,uB,sS];repeat (go_big_quiet_step ((go_at_call 79;exact mR (aB _ iR))))
  refine wpQuiet_nil ?_;rintro _ ⟨y_,rfl⟩;obtain⟨w22,b7,aV⟩:∃v,aj.more y_=v/\ik aj v:=⟨_,rfl,iR⟩;rw[b7];have bL:ik W6 w22:=ij cE aV;have bW:ik aj w22:=ij (iq aj) aV;obtain⟨f0,f1,f2,f3,f4,f5,aO,l0,ll⟩:=al w22 (bW);go_wp2_with fail;refine mN (HG ee w22 (ij (iq W6) bL)) rfl I J (fun _=>a') (B1.trans (B7.trans (ni bL))) ?_;clear I;intro w23 I bS;have bV:ik aj w23:=ij (bW) bS;obtain⟨f0,f1,f2,f3,f4,f5,aO,l0,ll⟩:=al w23 (bV);go_wp2_with fail;go_roundw
  case rel=>exact⟨n+1,iu,by go_num,iy (c9 I),ij (aK) (ij b4 (bV))⟩
  case measure=>simp only[intOf];omega
 replace a6:=iy (a6.trans (kC (lh (qk el) aR bo)));go_wp2_with fail;go_end0;exact by have hz:=a6.out;rw[hz];exact ND.Ss (B1.trans (B7.trans (ni ar))) (a8.here rn (k:=ar))
end
theorem Of (w:yM):(Instr.typeAssert Value.nilIface 20 105 true).run prog w=.ok (.tuple #[.agg #[JX,JX,JX],false]) w:=by kernel_rfl
theorem N_ (v:Value) (w:yM):(Instr.typeAssert (Value.iface 105 v) 20 105 true).run prog w=.ok (.tuple #[v,true]) w:=by kernel_rfl
theorem Ik (p q a b c d e f g:Value):#[p,q]++(((((((Array.replicate 12 undef).setIfInBounds 3 a).setIfInBounds 4 b).setIfInBounds 2 c).setIfInBounds 5 d).setIfInBounds 6 e).setIfInBounds 0 f).setIfInBounds 1 g=#[p,q,f,g,c,a,b,d,e,undef,undef,undef,undef,undef]:=by kernel_rfl
theorem IS (p q:Addr) (w:yM) :
  CallsD prog 38 #[.pointer (some p),.pointer (some q)] .returning w fun e u' w'=>e=.returned (.tuple #[])/\u'=.returning/\ik w w':=by
 refine callsD_of_wpS func38 rfl fun o I j=>?_
 apply wpS_seq;apply wpS_region;simp[wpOpsS,go_sem,recoverD,j,Of,N_,ntmps38,Exit.thenS];refine wpS_of_wp ?_;rw[Ik];go_wp2_with fail;exact⟨rfl,_,by cases o;simp_all,.tuple #[],by simp[results,results38,go_sem],rfl,rfl,iR⟩
theorem Lh (g1 g2:Nat) (nd q E:Int) (w0 w:yM) (hw:ik w0 w) (h1:w0<=g1) (h2:w0<=g2) {v1 v2 v3:Value} (b1:iP w g1 35 #[v1,v2]) (b2:iP w g2 26 #[v3]) (hne:g1≠g2) (older:List PanicEntry) :
  CallsD prog 38 #[.pointer g1,.pointer g2] (.panicking ({ v:=.iface 105 (.agg #[nd,q,E]),recovered:=false }::older)) w fun e u' w'=>e=.returned (.tuple #[])/\u'=.panicking ({ v:=.iface 105 (.agg #[nd,q,E]),recovered:=true }::older)/\ik w0 w'/\iP w' g1 35 #[nd,q]/\iP w' g2 26 #[E]:=by
 refine callsD_of_wpS func38 rfl fun c₀ cs hu=>?_
 apply wpS_seq;apply wpS_region;simp[wpOpsS,go_sem,recoverD,hu,Of,N_,ntmps38,Exit.thenS];refine wpS_of_wp ?_;rw[Ik];have e1:=iP.lt b1;have e2:=iP.lt b2;have I:=jC w 105 #[nd,q,E];obtain⟨W,U,aW,j,o⟩:∃W,w.alloc (.cells #[nd,q,E] 105)=W/\ik w0 W/\iP W g1 35 #[v1,v2]/\iP W g2 26 #[v3]:=⟨_,rfl,zc,b1.alloc _,b2.alloc _⟩;rw[U]at I;rw[U];obtain⟨g,hg⟩:=jt w.heap.size;rw[hg]at I e1 e2⊢;have k0:W.cell? ⟨g,0,none⟩=nd:=by rw[I.cell];rfl
 have k1:W.cell? (g,1)=q:=by rw[I.cell];rfl
 have k2:W.cell? (g,2)=E:=by rw[I.cell];rfl
 have f1:=j.frozen 0;have p1:W.cell? g1=some v1:=by rw[j.cell];rfl
 have p2:W.cell? (g1,1)=some v2:=by rw[j.cell];rfl
 have p3:W.cell? g2=some v3:=by rw[o.cell];rfl
 have f2:=j.frozen 1;have f3:=o.frozen 0;have l1:=j.is_le;have l2:=o.is_le;have l3:=I.is_le;have n1:uD w0 g1:=⟨h1⟩;have n2:uD w0 g2:=⟨h2⟩;have m1:F0 g g1:=⟨by omega⟩;have m2:F0 g g2:=⟨by omega⟩;have m3:F0 g2 g1:=⟨by omega⟩;have m4:F0 g1 g2:=⟨hne⟩;have R:=iB ((((j.jx 0 (.int .i64 nd)).jx 1 (.int .i64 q)).qU (p:=g2) hne (.int .i64 E)));have J:=iB ((((o.qU (p:=g1) (ls hne) (.int .i64 nd)).qU (p:=(g1,1)) (ls hne) (.int .i64 q))).jx 0 (.int .i64 E));go_wp2_with fail;go_region;exact⟨rfl,_,rfl,.tuple #[],by simp[results,results38,go_sem],rfl,rfl,iR,R,J⟩
def Im (en:List iW) (ns:List nh):Int:=jD (iX (decide ((en:Int)<=24)&&decide ((ns:Int)<=96)) 3) (iw oy en)
noncomputable def qy (en:List iW):List nh->Nat->Int×Int×Int
 |[],_=>(0,0,0)
 |n::l,i=>if mY en n=0 then qy en l (i+1) else ((i:Int),GJ en n,mY en n)
noncomputable def nv (en:List iW) (ns:List nh):Int×Int×Int:=if Im en ns=0 then qy en ns 0 else (-1,-1,Im en ns)
theorem DV (en:List iW):∀{l:List nh} {j:Nat} {x:nh} (k:Nat),l[j]?=some x->iw (mY en) (l.take j)=0->mY en x≠0->qy en l k=(((k+j:Nat):Int),GJ en x,mY en x)
 |[],j,x,k,h,_,_=>by simp at h
 |a::l,0,x,k,h,_,hx=>by
  simp at h;subst h;rw[qy,iV hx];rfl
 |a::l,j+1,x,k,h,h0,hx=>by
  rw[sD,iw]at h0;have ha:mY en a=0:=by
   by_cases h:mY en a=0
   ·exact h
   rw[lR h]at h0;exact absurd h0 h
  rw[kC ha]at h0;rw[qy,iG ha,DV en (k+1) (by simpa using h) h0 hx];congr 1;omega
theorem AV (en:List iW):∀(l:List nh) (k:Nat),iw (mY en) l=0->qy en l k=(0,0,0)
 |[],_,_=>rfl
 |a::l,k,h0=>by
  rw[iw]at h0;have ha:mY en a=0:=by
   by_cases h:mY en a=0
   ·exact h
   rw[lR h]at h0;exact absurd h0 h
  rw[kC ha]at h0;rw[qy,iG ha,AV en l (k+1) h0]
structure PF (w:yM) (g2 g3:Nat) (V:Int×Int×Int) (nd q F:Int) (U:yM):Prop where
 aft:ik w U
 b2:iP U g2 35 #[JX,JX]
 b3:iP U g3 26 #[JX]
 v:V=(nd,q,F)
theorem wt {w:yM} {g2 g3:Nat} {V:Int×Int×Int} {nd q F:Int} {U:yM} {tm:Array Value} (h:PF w g2 g3 V nd q F U) (hn:w<=g2/\w<=g3/\g2≠g3) (t2:tm[2]?=some (.pointer g2)) (t3:tm[3]?=some (.pointer g3)) :
  bodyPostD prog f15 (fun e w'=>e=.returned (.tuple #[.agg #[V.1,V.2.1],V.2.2])/\ik w w') (Exit.panic [{ v:=.iface 105 (.agg #[nd,q,F]),recovered:=false }]) { tmps:=tm,defers:=[{ target:=Target.fn (Fn.func 38) #[.pointer g2,.pointer g3],args:=#[] }] } U:=by
 refine leaves_cons (f:=38) (args:=#[.pointer g2,.pointer g3]) (by simp) (by simp[go_sem]) ?_;refine (Lh g2 g3 nd q F w U h.aft hn.1 hn.2.1 h.b2 h.b3 hn.2.2 []).mono ?_;rintro e u' j ⟨rfl,rfl,a1,o,c2⟩;have R:j.cell? g2=nd:=by rw[o.cell];rfl
 have J:j.cell? (g2,1)=q:=by rw[o.cell];rfl
 have I:j.cell? g3=F:=by rw[c2.cell];rfl
 have hv:=h.v;subst hv;simp[Leaves,settle,results,results15,go_sem,t2,t3,R,J,I,a1]
theorem N3 {w:yM} {g2 g3:Nat} {V:Int×Int×Int} {nd q F:Int} {U:yM} {tm:Array Value} (h:PF w g2 g3 V nd q F U) (hn:w<=g2/\w<=g3/\g2≠g3) (t2:tm[2]?=some (.pointer g2)) (t3:tm[3]?=some (.pointer g3)) (U2:yM) (a2:ik w U2) (y1:U2.cell? g2=V.1) (y2:U2.cell? (g2,1)=V.2.1) (y3:U2.cell? g3=V.2.2) (l2:Le (g2+1) U2) (l3:Le (g3+1) U2) :
  bodyPostD prog f15 (fun e w'=>e=.returned (.tuple #[.agg #[V.1,V.2.1],V.2.2])/\ik w w') Exit.ret { tmps:=tm,defers:=[{ target:=Target.fn (Fn.func 38) #[.pointer g2,.pointer g3],args:=#[] }] } U2:=by
 refine leaves_cons (f:=38) (args:=#[.pointer g2,.pointer g3]) (by simp) (by simp[go_sem]) ?_;refine (IS ⟨g2,0,none⟩ ⟨g3,0,none⟩ _).mono ?_;rintro e I o ⟨rfl,rfl,j⟩;obtain⟨z,rfl⟩:=@jP _ _ j;simp[Leaves,settle,results,results15,go_sem,t2,t3,y1,y2,y3];exact ij a2 j
theorem BO {w0:World} {eA nA:Option Addr} {ec nc:Nat} {el:List iW} {nl:List nh} (hen:ir 2 sM w0 ⟨eA,ec,el⟩) (hnd:ir 8 (Gy True) w0 ⟨nA,nc,nl⟩) (w:World) (hw:ik w0 w) :
  Calls prog 15 #[.agg #[.slice eA el.length ec,.slice nA nl.length nc]] w fun e w'=>e=.returned (.tuple #[.agg #[.int .i64 (nv el nl).1,.int .i64 (nv el nl).2.1],.int .i64 (nv el nl).2.2])/\ik w w':=by
 have bE:∀(fn:Fn) (first cap:Array Value) (w:World),(Instr.makeFunc fn first cap).run prog w=.ok (.func fn first cap) w:=fun _ _ _ _=>rfl
 obtain⟨V,hV⟩:=jt (nv el nl);rw[hV];obtain⟨R,hR⟩:=jt (Im el nl);have aE:Hid (R≠0->V=(-1,-1,R)):=fun h=>by rw[<- hV,nv,hR,iV h]
 have aq:Hid (R=0->V=qy el nl 0):=fun h=>by rw[<- hV,nv,hR,iG h]
 have I:Hid (R=jD (iX (decide ((el.length:Int)<=24)&&decide ((nl.length:Int)<=96)) 3) (jD (iw oy el) 0)):=by
  show _=_
  rw[<- hR,kE];rfl
 have aU:=hen.len;have aT:=hnd.len;simp only[]at aU aT;have aS:=iy hen;have ba:=iy hnd;obtain⟨o,aI⟩:=jt (w.heap.size);obtain⟨J,bG,a4,q1,q2,q3,q4⟩:∃W,(((w.alloc (.cells #[.slice eA el.length ec,.slice nA nl.length nc] 25)).alloc (.cells #[.int .i64 0,.int .i64 0] 35)).alloc (.cells #[.int .i64 0] 26)).alloc (.cells #[.slice eA el.length ec,.int .i64 (-1),.int .i64 (-1)] 109)=W/\ik w W/\iP W o 25 #[.slice eA el.length ec,.slice nA nl.length nc]/\iP W (o+1) 35 #[.int .i64 0,.int .i64 0]/\iP W (o+1+1) 26 #[.int .i64 0]/\pK W (o+1+1+1) eA el.length ec (-1) (-1):=by
  have b0:=jC w 25 #[.slice eA el.length ec,.slice nA nl.length nc];obtain⟨w1,aA⟩:=jt (w.alloc (.cells #[.slice eA el.length ec,.slice nA nl.length nc] 25));have s1:w1.heap.size=o+1:=by rw[<- aA,iH,aI]
  have a1:ik w w1:=by rw[<- aA];exact iR
  rw[aA,aI]at b0;rw[aA];have b1:=jC w1 35 #[.int .i64 0,.int .i64 0];obtain⟨w2,az⟩:=jt (w1.alloc (.cells #[.int .i64 0,.int .i64 0] 35));have s2:w2.heap.size=o+1+1:=by rw[<- az,iH,s1]
  have a2:ik w1 w2:=by rw[<- az];exact iR
  rw[az,s1]at b1;rw[az];have b2:=jC w2 26 #[.int .i64 0];obtain⟨w3,ay⟩:=jt (w2.alloc (.cells #[.int .i64 0] 26));have s3:w3.heap.size=o+1+1+1:=by rw[<- ay,iH,s2]
  have a3:ik w2 w3:=by rw[<- ay];exact iR
  rw[ay,s2]at b2;rw[ay];have b3:=jC w3 109 #[.slice eA el.length ec,.int .i64 (-1),.int .i64 (-1)];rw[s3]at b3;exact⟨_,rfl,ij a1 (ij a2 (ij a3 iR)),b0.after (k:=ij a2 (ij a3 iR)),b1.after (k:=ij a3 iR),b2.after (k:=iR),b3⟩
 have aK:=ij hw a4;have bF:=lI aI;have aw:Hid (∀U,xx (o+1+1+1) J U->∀nd q F,V=(nd,q,F)->PF w (o+1) (o+1+1) V nd q F U):=fun U hU nd q F h=>⟨hU.after a4 iu,hU.blk q2 iu,hU.blk q3 iu,h⟩
 have aO:Hid (∀U,xx (o+1+1+1) J U->U.cell? ⟨o,0,none⟩=some (.slice eA el.length ec)/\U.cell? ⟨o,1,none⟩=some (.slice nA nl.length nc)/\Le (o+1) U):=fun U hU=>by
  have y0:=hU.blk q1 iu;exact⟨by rw[y0.cell];rfl,by rw[y0.cell];rfl,y0.is_le⟩
 have HK:Hid (∀U,ik J U->U.cell? ⟨o,0,none⟩=some (.slice eA el.length ec)/\U.cell? ⟨o,1,none⟩=some (.slice nA nl.length nc)/\Le (o+1) U):=fun U hU=>aO U (ni hU)
 have HM:Hid (∀b e,e≠0->∀U,ik J U->Calls prog 39 #[.pointer (some ⟨o+1+1+1,0,none⟩),.bool b,.int .i64 e] U fun e' w'=>PE U (-1) (-1) (iX b e) e' w'):=fun b e he U hU=>rC (q4.here U (k:=hU)) b e he
 have HU:Hid (∀(s:ByteArray) (A:Option Addr) (c:Nat) (l:List ByteArray),s.size<=140737488355328->ir 1 sR J ⟨A,c,l⟩->∀U,ik J U->Calls prog 40 #[.pointer (some ⟨o+1+1+1,0,none⟩),.agg #[.string s,.slice A l.length c]] U fun e w'=>PE U (-1) (-1) (oy ⟨s,A,c,l⟩) e w'):=fun s A c l hs hr U hU=>K_ q4 s hs ⟨A,c,l⟩ hr U hU
 have bu:=iy q4;obtain⟨k0,k1,kl⟩:=HK J (iq _);have n2:uD w (o+1):=⟨iu⟩;have n3:uD w (o+1+1):=⟨iu⟩;have aZ:=iq J;go_enter_defers func15,ntmps15;by_cases aJ:(el.length:Int)<=24;rotate_left
 ·replace I:Hid (R=jD (iX false 3) (jD (iw oy el) 0)):=by show _=_;rw[I.out,decide_eq_false aJ];simp only[qu,qT]
  have bf:¬el.length<=24:=iu;go_wp2_with fail;refine (HM _ 3 iI J (ij (iq J) (iq J))).mono ?_;rintro e w2 hp;replace hp:=hp.to (F:=iX false 3) (by first | rfl | exact nQ (fun b=>iX b 3) (decide_eq_false iu));by_cases hE:iX false 3=0;rotate_left
  ·obtain⟨F,hF,HP⟩:∃F,e=uw (-1) (-1) F/\Hid (PF w (o+1) (o+1+1) V (-1) (-1) F w2):=by
    obtain⟨rfl,br⟩:=hp.Oq hE;have HX:=iy (I.trans (lR hE));have HE:Hid (R=iX false 3):=HX;exact⟨_,rfl,iy (aw _ (ni (ij (iq J) br)) _ _ _ (by rw[aE.out (by rw[HE.out];exact hE),HE.out]))⟩
   subst hF;unfold uw;go_wp2_with fail;exact wt HP ⟨iu,iu,iu⟩ rfl rfl
  exact absurd hE iI
 have bf:el.length<=24:=iu;by_cases aV:(nl.length:Int)<=96;rotate_left
 ·replace I:Hid (R=jD (iX false 3) (jD (iw oy el) 0)):=by show _=_;rw[I.out,lp aJ,decide_eq_false aV];simp only[qu,qT]
  have be:¬nl.length<=96:=iu;go_wp2_with fail;refine (HM _ 3 iI J (ij (iq J) (iq J))).mono ?_;rintro e w3 hp;replace hp:=hp.to (F:=iX false 3) (by first | rfl | exact nQ (fun b=>iX b 3) (decide_eq_false iu));by_cases hE:iX false 3=0;rotate_left
  ·obtain⟨F,hF,HP⟩:∃F,e=uw (-1) (-1) F/\Hid (PF w (o+1) (o+1+1) V (-1) (-1) F w3):=by
    obtain⟨rfl,bq⟩:=hp.Oq hE;have HX:=iy (I.trans (lR hE));have HE:Hid (R=iX false 3):=HX;exact⟨_,rfl,iy (aw _ (ni (ij (iq J) bq)) _ _ _ (by rw[aE.out (by rw[HE.out];exact hE),HE.out]))⟩
   subst hF;unfold uw;go_wp2_with fail;exact wt HP ⟨iu,iu,iu⟩ rfl rfl
  exact absurd hE iI
 have be:nl.length<=96:=iu;replace I:Hid (R=jD (iX true 3) (jD (iw oy el) 0)):=by show _=_;rw[I.out,lp aJ,lp aV];rfl
 go_wp2_with fail;refine (HM _ 3 iI J (ij (iq J) (iq J))).mono ?_;rintro e w4 hp;replace hp:=hp.to (F:=iX true 3) (by first | rfl | exact nQ (fun b=>iX b 3) (lp iu));by_cases hE:iX true 3=0;rotate_left
 ·obtain⟨F,hF,HP⟩:∃F,e=uw (-1) (-1) F/\Hid (PF w (o+1) (o+1+1) V (-1) (-1) F w4):=by
   obtain⟨rfl,aD⟩:=hp.Oq hE;have HX:=iy (I.trans (lR hE));have HE:Hid (R=iX true 3):=HX;exact⟨_,rfl,iy (aw _ (ni (ij (iq J) aD)) _ _ _ (by rw[aE.out (by rw[HE.out];exact hE),HE.out]))⟩
  subst hF;unfold uw;go_wp2_with fail;exact wt HP ⟨iu,iu,iu⟩ rfl rfl
 replace I:=iy (I.trans (kC hE));obtain⟨rfl,aD⟩:=hp.Rv hE;have d4:=ij (iq J) aD;have b4:=ij (iq J) aD;obtain⟨k0,k1,kl⟩:=HK w4 (b4);go_wp2_with fail;go_loopw [30] (fun i wr=>∃j:Nat,j<=el.length/\i=.int .i64 (j:Nat)/\Hid (iw oy (el.take j)=0)/\ik J wr) (fun i _=>el.length-(intOf i).toNat)
 case atStart=>exact⟨0,iu,rfl,iy (by simp[iw]),b4⟩
 case round=>
 obtain⟨j,hj,rfl,aQ,ax⟩:=hrel;have ar:=ij aZ ax;obtain⟨rj,bc⟩:=jt (wr);rw[bc]at ax ar⊢;obtain⟨k0,k1,kl⟩:=HK rj (ax);by_cases aG:j<el.length
 ·have bg:(j:Int)<(el.length:Int):=iu
  obtain⟨bj,pj,yj,rfl,bz,aL,aY⟩:=((aS.enums J (k:=aK)).enums rj (k:=ij (iq J) ar)).part (i:=j) aG;obtain⟨nm,tA,tc,tl⟩:=yj;obtain⟨_,_,b8⟩:=(aS.enums J (k:=aK)).elem (i:=j) aL;have b9:=iy b8;obtain⟨z0,z1⟩:rj.cell? ⟨bj,pj+j*2,none⟩=some (.string nm)/\rj.cell? ⟨bj,pj+j*2+1,none⟩=some (.slice tA tl.length tc):=⟨aY.c0,aY.c1⟩;have aF:Hid ((oy ⟨nm,tA,tc,tl⟩)≠0->R=(oy ⟨nm,tA,tc,tl⟩)):=iy fun h=>by
   have h1:=kN oy aL aQ h;have h2:=I.trans ((lR (by rw[h1];exact h)).trans h1);exact h2
  have av:Hid ((oy ⟨nm,tA,tc,tl⟩)=jD (oy ⟨nm,tA,tc,tl⟩) 0):=iB (kE _).symm;have b':Hid ((oy ⟨nm,tA,tc,tl⟩)=0->iw oy (el.take (j+1))=0):=iy fun h=>(kt oy aL aQ).trans h
  obtain⟨X1,aX⟩:∃X,X=(oy ⟨nm,tA,tc,tl⟩):=⟨_,rfl⟩;replace av:=iy (aX.trans av);rw[<- aX]at aF b';obtain⟨g5,bm⟩:=jt (rj.heap.size);obtain⟨W5,bp,aP,b7⟩:∃W,rj.alloc (.cells #[.string nm,.slice tA tl.length tc] 57)=W/\Hid (∀U:World,ik W U->U.cell? ⟨g5,0,none⟩=some (.string nm)/\U.cell? ⟨g5,1,none⟩=some (.slice tA tl.length tc)/\Le (g5+1) U/\U.cell? ⟨o,0,none⟩=some (.slice (some ⟨bj,pj,none⟩) el.length ec)/\U.cell? ⟨o,1,none⟩=some (.slice nA nl.length nc)/\Le (o+1) U)/\ik rj W:=by
   refine⟨_,rfl,fun U hU=>?_,inferInstance⟩;have y0:=(jC rj 57 #[.string nm,.slice tA tl.length tc]).after (w':=U);rw[bm]at y0;have q0:=ij (iq J) (ij ar (ij iR hU));have q1:=ij (ax) (ij iR hU);exact⟨by rw[y0.cell];rfl,by rw[y0.cell];rfl,y0.is_le,(HK U q0).1,(HK U q0).2.1,(HK U q0).2.2⟩
  have d5:=ij ar b7;obtain⟨f0,f1,bb,bD,bC,bB⟩:=aP W5 (iq _);go_wp2_with fail;obtain⟨_,_,_,k0,k1,kl⟩:=aP W5 (iq _);refine (HU nm tA tc tl b9.nm b9.tg W5 (ij (iq J) d5)).mono ?_;rintro e w6 hp;by_cases hE:oy ⟨nm,tA,tc,tl⟩=0;rotate_left
  ·obtain⟨F,hF,HP⟩:∃F,e=uw (-1) (-1) F/\Hid (PF w (o+1) (o+1+1) V (-1) (-1) F w6):=by
    obtain⟨rfl,aC⟩:=hp.Oq hE;have HX:=iy (av.trans (lR hE));have HE:=iy ((aF (by rw[HX.out];exact hE)).trans HX);exact⟨_,rfl,iy (aw _ (ni (ij d5 aC)) _ _ _ (by rw[aE.out (by rw[HE.out];exact hE),HE.out]))⟩
   subst hF;unfold uw;go_wp2_with fail;exact wt HP ⟨iu,iu,iu⟩ rfl rfl
  replace av:=iy (av.trans (kC hE));obtain⟨rfl,aC⟩:=hp.Rv hE;have d6:=ij d5 aC;have b6:=ij (iq W5) aC;obtain⟨f0,f1,bb,k0,k1,kl⟩:=aP w6 (b6);go_wp2_with fail;go_roundw
  case rel=>exact⟨j+1,iu,by go_num,iy (b' av),ij (ax) (ij b7 (b6))⟩
  case measure=>simp only[intOf];omega
 replace I:=iy (I.trans (kC (lh oy aG aQ)));replace aq:=iy (aq I);go_wp2_with fail;go_loopw [41] (fun x wr=>∃i:Nat,i<=nl.length/\x=.int .i64 (i:Nat)/\Hid (iw (mY el) (nl.take i)=0)/\Hid (xx (o+1+1+1) J wr/\∃n q,pK wr (o+1+1+1) eA el.length ec n q)) (fun x _=>nl.length-(intOf x).toNat)
 case atStart=>exact⟨0,iu,rfl,iy (by simp[iw]),iy ⟨ni ar,_,_,bu.here rj (k:=ar)⟩⟩
 case round=>
 obtain⟨i,hi,rfl,aR,HB⟩:=hrel;obtain⟨ri,bd⟩:=jt (wr);rw[bd]at HB⊢;obtain⟨k0,k1,kl⟩:=aO ri HB.1;obtain⟨n',q',bk⟩:=HB.2;have b5:=HB.1.after aK (by have:=hw.below.size;omega);by_cases aH:i<nl.length
 ·have bh:(i:Int)<(nl.length:Int):=iu
  obtain⟨bi,pi,yi,rfl,bA,aM,a6⟩:=(ba.Sr ri (k:=b5)).part (i:=i) aH;obtain⟨nm,⟨ad,aa,ab⟩,⟨a8,a7,ou⟩,⟨a',a_,lo⟩,⟨af,ae,eq⟩,⟨ak,aj,au⟩,⟨ao,al,an⟩,⟨ai,ag,ah⟩⟩:=yi;obtain⟨z0,z1,z2,z3,z4,z5,z6,z7⟩:ri.cell? ⟨bi,pi+i*8,none⟩=some (.string nm)/\ri.cell? ⟨bi,pi+i*8+1,none⟩=some (.slice ad ab.length aa)/\ri.cell? ⟨bi,pi+i*8+2,none⟩=some (.slice a8 ou.length a7)/\ri.cell? ⟨bi,pi+i*8+3,none⟩=some (.slice a' lo.length a_)/\ri.cell? ⟨bi,pi+i*8+4,none⟩=some (.slice af eq.length ae)/\ri.cell? ⟨bi,pi+i*8+5,none⟩=some (.slice ak au.length aj)/\ri.cell? ⟨bi,pi+i*8+6,none⟩=some (.slice ao an.length al)/\ri.cell? ⟨bi,pi+i*8+7,none⟩=some (.slice ai ah.length ag):=⟨a6.c0,a6.c1,a6.c2,a6.c3,a6.c4,a6.c5,a6.c6,a6.c7⟩;obtain⟨_,_,b_⟩:=ba.elem (i:=i) aM;have bt:=iy b_;obtain⟨X1,aB⟩:=jt (mY el ⟨nm,⟨ad,aa,ab⟩,⟨a8,a7,ou⟩,⟨a',a_,lo⟩,⟨af,ae,eq⟩,⟨ak,aj,au⟩,⟨ao,al,an⟩,⟨ai,ag,ah⟩⟩);obtain⟨Xq,aW⟩:=jt (GJ el ⟨nm,⟨ad,aa,ab⟩,⟨a8,a7,ou⟩,⟨a',a_,lo⟩,⟨af,ae,eq⟩,⟨ak,aj,au⟩,⟨ao,al,an⟩,⟨ai,ag,ah⟩⟩);have aF:Hid (X1≠0->V=((i:Int),Xq,X1)):=iy fun h=>by
   have h1:=DV el 0 aM aR (by rw[aB];exact h);rw[t_,aB,aW]at h1;exact aq.trans h1
  have aN:Hid (X1=0->iw (mY el) (nl.take (i+1))=0):=iy fun h=>(kt (mY el) aM aR).trans (aB.trans h)
  obtain⟨gn,bl⟩:=jt (ri.heap.size);obtain⟨W5,bp,a5,bn,bs⟩:∃W,ri.alloc (.cells #[.string nm,.slice ad ab.length aa,.slice a8 ou.length a7,.slice a' lo.length a_,.slice af eq.length ae,.slice ak au.length aj,.slice ao an.length al,.slice ai ah.length ag] 65)=W/\ik ri W/\iP W gn 65 #[.string nm,.slice ad ab.length aa,.slice a8 ou.length a7,.slice a' lo.length a_,.slice af eq.length ae,.slice ak au.length aj,.slice ao an.length al,.slice ai ah.length ag]/\pK W (o+1+1+1) eA el.length ec n' q':=⟨_,rfl,iR,by rw[<- bl];exact jC _ _ _,pK.here bk _⟩;have bo:w0.heap.size<=o+1+1+1:=by have:=hw.below.size;omega
  have HN:Hid (Calls prog 41 #[.pointer (some ⟨o+1+1+1,0,none⟩),.int .i64 (i:Nat),.agg #[.string nm,.slice ad ab.length aa,.slice a8 ou.length a7,.slice a' lo.length a_,.slice af eq.length ae,.slice ak au.length aj,.slice ao an.length al,.slice ai ah.length ag]] W5 fun e w'=>ND W5 (o+1+1+1) eA el.length ec (i:Nat) X1 Xq e w'):=by
   have h:=LS (i:=(i:Nat)) aS bt W5 (ij b5 a5) bo bs;rw[aB,aW]at h;exact h
  have B5:=HB.1.trans (ni a5);have v0:W5.cell? ⟨gn,0,none⟩=some (.string nm):=by rw[bn.cell];rfl
  have v1:W5.cell? ⟨gn,1,none⟩=some (.slice ad ab.length aa):=by rw[bn.cell];rfl
  have v2:W5.cell? ⟨gn,2,none⟩=some (.slice a8 ou.length a7):=by rw[bn.cell];rfl
  have v3:W5.cell? ⟨gn,3,none⟩=some (.slice a' lo.length a_):=by rw[bn.cell];rfl
  have v4:W5.cell? ⟨gn,4,none⟩=some (.slice af eq.length ae):=by rw[bn.cell];rfl
  have v5:W5.cell? ⟨gn,5,none⟩=some (.slice ak au.length aj):=by rw[bn.cell];rfl
  have v6:W5.cell? ⟨gn,6,none⟩=some (.slice ao an.length al):=by rw[bn.cell];rfl
  have v7:W5.cell? ⟨gn,7,none⟩=some (.slice ai ah.length ag):=by rw[bn.cell];rfl
  have e6:=bn.is_le;go_wp2_with fail;refine HN.mono ?_;rintro e w6 ⟨B6,h6⟩;by_cases hE:X1=0;rotate_left
  ·obtain⟨F,hF,HP⟩:∃F,e=uw (i:Nat) Xq F/\Hid (PF w (o+1) (o+1+1) V (i:Nat) Xq F w6):=by
    rcases h6 with⟨h,_⟩ | ⟨h,hh⟩
    ·exact absurd h hE
    exact⟨_,hh,aw _ (B5.trans B6) _ _ _ (aF hE)⟩
   subst hF;unfold uw;go_wp2_with fail;exact wt HP ⟨iu,iu,iu⟩ rfl rfl
  obtain⟨rfl,n6,q6,l6⟩:e=.returned (.tuple #[])/\∃n q,pK w6 (o+1+1+1) eA el.length ec n q:=by
   rcases h6 with⟨_,hh,q',hl⟩ | ⟨h,_⟩
   ·exact⟨hh,_,q',hl⟩
   exact absurd hE h
  replace aN:=iy (aN hE);obtain⟨k0,k1,kl⟩:=aO w6 (B5.trans B6);have bx:=iy (B5.trans B6);have bw:=iy l6;go_wp2_with fail;go_roundw
  case rel=>exact⟨i+1,iu,by go_num,aN,iy ⟨bx,_,_,bw⟩⟩
  case measure=>simp only[intOf];omega
 have hz:=lh (mY el) aH aR;replace aq:=iy (aq.trans (AV el nl 0 hz));have HP:=iy (aw _ HB.1 0 0 0 aq);have y1:=HP.b2.cell 0;have y2:=HP.b2.cell 1;have y3:=HP.b3.cell 0;have f1:=HP.b2.frozen 0;have f2:=HP.b2.frozen 1;have f3:=HP.b3.frozen 0;have l2:=HP.b2.is_le;have l3:=HP.b3.is_le;replace y1:ri.cell? ⟨o+1,0,none⟩=some (.int .i64 0):=y1;replace y2:ri.cell? ⟨o+1,1,none⟩=some (.int .i64 0):=y2;replace y3:ri.cell? ⟨o+1+1,0,none⟩=some (.int .i64 0):=y3;go_wp2_with fail;have hv:=aq.out;have bH:ik w ri:=HP.aft;have e2:=((HP.b2.jx 0 (.int .i64 0)).jx 1 (.int .i64 0)).qU (p:=⟨o+1+1,0,none⟩) (by show o+1≠o+1+1;omega) (.int .i64 0);have e3:=((HP.b3.qU (p:=⟨o+1,0,none⟩) (by show o+1+1≠o+1;omega) (.int .i64 0)).qU (p:=⟨o+1,1,none⟩) (by show o+1+1≠o+1;omega) (.int .i64 0)).jx 0 (.int .i64 0);exact N3 HP ⟨by omega,by omega,by omega⟩ rfl rfl _ inferInstance (by rw[hv];exact e2.cell 0) (by rw[hv];exact e2.cell 1) (by rw[hv];exact e3.cell 0) e2.is_le e3.is_le
def Jj:List Pc:=[.sp 32,mf [124],.sp 32]
def vY (l:List yB):List Pc:=mq Jj (l.map fun s=>[rM s])
def sF (u:iW):List Pc:=rL 0 (mB [116,121,112,101]::.sp 32::rM u.name::.sp 32::mf [61]::.sp 32::(vY u.tags.l++[mf [59]]))
def qK (el:List iW) (nl:List nh):List Pc:=el.flatMap sF++nl.flatMap (qo el)
theorem C0 (l:List yB):Lib.join (l.map (·.data.toList)) (iY Jj)=iY (vY l):=by
 unfold vY;rw[wV,xZ];congr 1;exact IL fun a _=>by show _=iY [rM a];rw[lQ,ja,oV]
theorem Gs {l:List yB} (h:iw jA l=0) (h4:l.length<=1000):(iY (vY l)).length<=43000:=by
 have J:(iY (vY l)).length<=(l.map fun s=>[rM s]).length*(40+3):=za (by decide) fun x j=>by
  obtain⟨o,I,rfl⟩:=yQ.1 j;have:=jM (nS (jd h o I));rw[lQ,ja,oV,jr];omega
 rw[pE]at J;omega
theorem qm {u:iW} (h:oy u=0):kT u.name=true/\0<u.tags.l.length/\u.tags.l.length<=16/\iw jA u.tags.l=0:=by
 unfold oy at h;obtain⟨J,h⟩:=jI h;obtain⟨o,h⟩:=jI h;obtain⟨j,I⟩:=jI h;have o:=nJ iI o;have j:=nJ iI j;simp only[decide_eq_true_eq]at o j;exact⟨nS J,iu,iu,I⟩
theorem CH {el:List iW}:∀{l:List nh} {k:Nat},(qy el l k).2.2=0->∀n∈l,mY el n=0
 |[],k,_,n,h=>by simp at h
 |a::l,k,h0,n,h=>by
  rw[qy]at h0;by_cases ha:mY el a=0
  ·rw[iG ha]at h0
   rcases uW.1 h with rfl | h
   ·exact ha
   exact CH h0 n h
  rw[iV ha]at h0;exact absurd h0 ha
theorem uX {el:List iW} {nl:List nh} (h:(nv el nl).2.2=0):el.length<=24/\nl.length<=96/\(∀u∈el,oy u=0)/\∀n∈nl,mY el n=0:=by
 unfold nv at h;by_cases hp:Im el nl=0
 ·rw[iG hp]at h
  unfold Im at hp;obtain⟨j,o⟩:=jI hp;have j:=nJ iI j;simp only[mT,decide_eq_true_eq]at j;exact⟨iu,iu,jd o,CH h⟩
 rw[iV hp]at h;exact absurd h hp
section
variable {B:yM} {g:Nat} {eA:zA} {ec mb n:Nat}
theorem JF (w:yM) (l:List UInt8) (h:Ln B g eA n ec mb w l) :
  Calls prog 20 #[.pointer (some (g,2))] w fun e w'=>e=.returned (.string (lG l))/\ik B w':=by
 obtain⟨p,A,c,hp,hb,R,hz⟩:=h.st;have U:=h.aft;have ad:=h.hg;by_cases h0:l=[]
 ·obtain⟨rfl,rfl⟩:=hz h0
  subst h0;have c1:w.drew.cell? (g,3)=():=hb.drew.cell 3;have aa:=Lib.run_unsafeSliceData_nil (P:=prog) w.drew #[50] 122 0 0;have a':=Lib.run_unsafeString_none (P:=prog) w.drew 122 3 9 none;go_in;go_wp2_with fail;go_region;all_goals (go_wp2_with fail;go_ret;exact⟨rfl,ij U zc⟩)
 have a6:l.length≠0:=by simpa using h0
 obtain⟨I,J,o,hv,af,hg,ab,a8,ae,a1⟩:∃I J o,Value.slice A l.length c=.slice (some ⟨I,0,none⟩) l.length J/\g+1<=I/\w.heap[I]?=some (.cells o 5 (0,0))/\l.length<=J/\J<=maxLen/\o.size=J*1/\o.toList.take (l*1)=Lib.byteCells l:=by
  rcases R.2 with⟨_,hz⟩ | ⟨I,J,o,hv,r⟩
  ·exact absurd hz a6
  exact⟨I,J,o,hv,r⟩
 injection hv with hA _ hc
 subst hA;subst hc;have c1:w.drew.cell? (g,3)=some (.slice I l c):=hb.drew.cell 3;have aa:(Builtin.unsafeSliceData_ #[50] 122 #[.slice I l c]).run prog w.drew=.ok (.pointer I) w.drew:=
  Lib.run_unsafeSliceData_row _ _ _ _ _ _ (by omega)
 have a':(Builtin.unsafeString_ #[122,3] 9 #[.pointer I,l]).run prog w.drew=.ok (.string ⟨l.toArray⟩) (w.drew.freeze ⟨I,0,none⟩ l.length):=by
  refine Lib.run_unsafeString_row w.drew 122 3 9 5 underlying122 (by kernel_rfl) I o.size (by have a7:w.drew.heap[I]?=some (.cells o 5 (0,0)):=hg;simp[World.shape?,a7]) l h0 (by omega) (by unfold maxLen at a8;omega) ?_;intro j x hx;have:=R.cells (g:=I) rfl j (.int .u8 x.toNat) (by simp[Lib.byteCells,hx]);exact this
 have a_:=U.below;go_in;go_wp2_with fail;go_region;all_goals (go_wp2_with fail;go_ret;exact⟨rfl,⟨Lib.below_freeze (Below.drew a_) (p:=I) (by show B.heap.size<=I;omega) _⟩⟩)
theorem Iv {w0:yM} {nA:zA} {nc:Nat} {el:List iW} {nl:List nh} (hen:ir 2 sM w0 ⟨eA,ec,el⟩) (hnd:ir 8 (Gy True) w0 ⟨nA,nc,nl⟩)
  (htab:Lib.TabIs prog w0 "internal/strconv.uint64pow10" .u64 Lib.pow10Tab) (hE:(nv el nl).2.2=0) (hfit:(iY (qK el nl)).length<=140737488355328) (w:yM) (hw:ik w0 w) :
  Calls prog 6 #[.agg #[(eA,el,ec),(nA,nl,nc)]] w fun e w'=>e=.returned (.tuple #[(lG (iY (qK el nl))),JX])/\ik w w':=by
 have hsw:ID w0 eA ec el:=⟨hen,htab⟩;have hl1:=hen.len;have hl2:=hnd.len;simp only[]at hl1 hl2;obtain⟨-,-,q1,q2⟩:=uX hE;have hTg:mL el:=fun u hu t ht=>(jM (nS (jd (qm (q1 u hu)).2.2.2 t ht))).2
 have hNm:pB el:=fun u hu=>(jM (qm (q1 u hu)).1).2
 obtain⟨v1,v2,hV⟩:∃v1 v2,nv el nl=(v1,v2,0):=⟨(nv el nl).1,(nv el nl).2.1,by rw[<- hE]⟩;have HCk:=iy (fun U (hU:ik w U)=>BO hen hnd U (ij hw hU));rw[hV]at HCk;simp only[]at HCk;have hF:iY (qK el nl)=iY (el.flatMap sF)++iY (nl.flatMap (qo el)):=by unfold qK;rw[iC]
 obtain⟨TP,hTP⟩:=jt (iY (qK el nl));rw[hTP]at hfit hF⊢;have HF:=iy hF;have HL:=iy hfit;have HWr:=iB (fun U=>Dw eA el ec U);unfold qE at HWr;have HSW:=iB hsw;have HEN:=iB hen;have HND:=iB hnd;clear hTP hfit hF hV hE hsw hen hnd htab;go_in;go_wp2_with fail;refine (HCk _ zc).mono ?_;rintro e w1 ⟨rfl,a1⟩;have B1:iP w1 w 25 #[(eA,el,ec),(nA,nl,nc)]:=(jC w _ _).after (k:=a1);have x0:=B1.cell 0;have lb:Le (w+1) w1:=⟨B1.lt⟩;simp only[List.getElem?_toArray,List.getElem?_cons_zero]at x0;go_wp2_with fail;refine (HWr _).mono ?_;rintro e B ⟨mb,rfl,hsy,hmb,aB⟩;have aB1:ik w1 B:=ij zc aB;have aB0:ik w B:=ij (ij zc a1) aB1;have HSy:=iy hsy;have hBB:iP B w 25 #[(eA,el,ec),(nA,nl,nc)]:=B1.after (k:=aB1);have HBB:=iB hBB;have x0:B.cell? w=(eA,el,ec):=hBB.cell 0;have lb:Le (w+1) B:=⟨hBB.lt⟩;have HB:Hid (WB B eA ec el mb):=iB ⟨HSW.here _ (ij hw aB0),hsy,hTg,hNm⟩;clear B1 hBB hsy aB;go_wp2_with fail;have HN0:Hid (Ln B B eA el ec mb (B.alloc (.cells #[(eA,el,ec),.map (some mb),.pointer none,()] 54)) []):=iB ⟨zc,js _,none,none,0,.inl rfl,jC _ _ _,FL _ _ _ _,fun _=>⟨rfl,rfl⟩⟩;go_loopw [27] (fun i wr=>∃j:Nat,j<=el.length/\i=.int .i64 j/\Hid (Ln B B eA el ec mb wr (iY ((el.take j).flatMap sF)))) (fun i _=>el.length-(intOf i).toNat)
 ·exact⟨0,by omega,rfl,HN0⟩
 case round=>
 obtain⟨j,hj,rfl,HN⟩:=hrel;clear x0 lb;have aBr:=HN.aft;have x1:=(HBB.after (k:=aBr)).cell 1;have lb:Le (w+1) wr:=⟨(HBB.after (k:=aBr)).lt⟩;have lg:Le (B+1) wr:=⟨HN.lt⟩;by_cases hlt:j<el
 ·obtain⟨b,p,u,hA0,hleb,HY,hP⟩:=(HEN.enums wr (k:=ij hw (ij aB0 aBr))).part (i:=j) hlt
  simp only[]at hA0;subst hA0;have hlI:(j:Int)<(el:Int):=by omega
  obtain⟨i1,i2,i3,i4⟩:=qm (q1 u (om HY));have hfm:=ui (l:=el) sF HY;have hfle:=AK sF el (j+1);obtain⟨un,⟨uA,uc,ul⟩⟩:=u;have f0:=hP.c0;have f1:=hP.c1;have hjr:=qi.Oi hP.tg;simp only[]at f0 f1 i1 i2 i3 i4;have i5:=jM i1;have i6:=Gs i4 (by omega);have hsl:=jr un;have HJ:=iB (fun U (hU:ik wr U)=>hjr.join (w:=wr) ⟨#[32,124,32]⟩ (by rw[show ((⟨#[32,124,32]⟩:yB).data.toList)=iY Jj from rfl,C0];omega) U hU);rw[show ((⟨#[32,124,32]⟩:yB).data.toList)=iY Jj from rfl,C0]at HJ;obtain⟨z,hz⟩:=jt (iY (vY ul));rw[hz]at HJ i6;obtain⟨S1,e1,g1⟩:=jh (A:=⟨#[116,121,112,101,32]⟩) (a:=[116,121,112,101,32]) (B:=un) rfl (qd un).symm (by simp;omega);obtain⟨S2,e2,g2⟩:=jh (B:=⟨#[32,61,32]⟩) (b:=[32,61,32]) e1 rfl (by simp;omega);obtain⟨S3,e3,g3⟩:=jh (B:=lG z) e2 rfl (by simp;omega);obtain⟨S4,e4,g4⟩:=jh (B:=⟨#[59]⟩) (b:=[59]) e3 rfl (by simp;omega);have hft:(iY ((el.take j).flatMap sF)).length+(iY (sF ⟨un,⟨uA,uc,ul⟩⟩)).length<=140737488355328:=by
   have h1:=HL.out;rw[HF.out,mo]at h1;rw[hfm,mo]at hfle;omega
  have HA:=ur HN.out 0 iI (mB [116,121,112,101]::.sp 32::rM un::.sp 32::mf [61]::.sp 32::(vY ul++[mf [59]])) (S:=S4)
   (by rw[e4,kH,jn,lQ,jn,jl,jn,iC,hz,jl,ja];simp) hft
  have Hfm:=iy hfm;clear hfm hfle hft HY hP hjr i1 i2 i3 i4 i5 i6 hz e1 e2 e3 e4 hsl x1 q1 q2;go_wp2_with fail;refine jf 10 kp kp ?_;simp only[sD,rP,uB,sS];repeat (go_big_quiet_step ((go_at_call 18;with_reducible exact mR (HJ.out _ iR))))
  refine wpQuiet_nil ?_;rintro _ ⟨y_,rfl⟩;go_wp2_with fail;refine (HA _ iR).mono ?_;rintro e w2 ⟨rfl,hL2,hs2⟩;go_wp2_with fail;go_roundw
  case rel=>exact⟨j+1,iu,by go_num,by show Ln _ _ _ _ _ _ _ _;rw[Hfm.out];exact hL2⟩
  case measure=>simp[intOf];omega
 obtain rfl:j=el:=iu;have hlI:¬((el:Int)<(el:Int)):=iu;have hn9:=HN.out;rw[pf]at hn9;have HN9:=iy hn9;clear hn9 HN HN0;obtain⟨w3,hw3⟩:∃w3,w3=wr:=⟨_,rfl⟩;subst hw3;go_wp2_with fail;clear x1 lb lg;go_loopw [46] (fun i wr=>∃j:Nat,j<=nl.length/\i=.int .i64 j/\Hid (Ln B B eA el ec mb wr (iY (el.flatMap sF)++iY ((nl.take j).flatMap (qo el))))) (fun i _=>nl.length-(intOf i).toNat)
 ·exact⟨0,iu,rfl,by show Ln _ _ _ _ _ _ _ _;rw[rP];show Ln _ _ _ _ _ _ _ (_++[]);rw[oV];exact HN9⟩
 case round=>
 obtain⟨j,hj,rfl,HN⟩:=hrel;have aBr2:=HN.aft;by_cases hlt:j<nl
 ·obtain⟨b,p,u,hA0,hleb,HY,hP⟩:=(HND.Sr wr (k:=ij hw (ij aB0 aBr2))).part (i:=j) hlt
  obtain⟨b9,o9,hPB⟩:=(HND.out.Sr B (k:=ij hw aB0)).elem HY.out;simp only[]at hA0;subst hA0;have hlJ:(j:Int)<(nl:Int):=iu;have hfm:=ui (l:=nl) (qo el) HY.out;have hfle:=AK (qo el) nl (j+1);have hw9:=Np (g:=B.heap.size) HB.out hPB (q2 u (om HY.out));obtain⟨nn,⟨iA,ic,il⟩,⟨oA,oc,ol⟩,⟨lA,lc,ll⟩,⟨qA,qc,ql⟩,⟨aA,ac,al⟩,⟨sA,sc,sl⟩,⟨eA2,ec2,nl2⟩⟩:=u;obtain⟨f0,f1,f2,f3,f4,f5,f6,f7,-⟩:=hP;simp only[]at f0 f1 f2 f3 f4 f5 f6 f7 hw9;have HC:Hid (∀U,ik wr U->Calls prog 19 #[.pointer B,.agg #[nn,(iA,il,ic),(oA,ol,oc),(lA,ll,lc),(qA,ql,qc),(aA,al,ac),(sA,sl,sc),(eA2,nl2,ec2)]] U fun e w'=>e=.returned (.tuple #[])/\Ln B B.heap.size eA el.length ec mb w' (iY (el.flatMap sF)++iY ((nl.take (j+1)).flatMap (qo el)))):=iy fun U hU=>by
   refine (hw9 U _ (HN.out.after hU) ?_).mono ?_
   ·have h1:=HL.out
    rw[HF.out,mo]at h1;rw[hfm,mo]at hfle;rw[mo];omega
   rintro e w' ⟨h1,h2,h3⟩;exact⟨h1,by rw[hfm,<- kD];exact h2⟩
  clear hfm hfle hw9 HY hPB q1 q2;go_wp2_with fail;refine (HC.out _ iR).mono ?_;rintro e w2 ⟨rfl,hL2⟩;go_wp2_with fail;go_roundw
  case rel=>exact⟨j+1,iu,by go_num,hL2⟩
  case measure=>simp[intOf];omega
 obtain rfl:j=nl:=iu;have hlJ:¬((nl:Int)<(nl:Int)):=iu;have hn9:=HN.out;rw[pf,<- HF.out]at hn9;have HS:=iy (JF wr TP hn9);clear hn9 HN;go_wp2_with fail;refine HS.out.mono ?_;rintro e w2 ⟨rfl,a2⟩;go_wp2_with fail;exact jR (v:=.tuple #[(lG TP),JX]) (by simp[results,results6,go_sem]) rfl ⟨rfl,ij aB0 a2⟩
end
end Go.Proofs.YtnigblndonocfaaGreatDoor
