/- A part of the proof. -/
import Derived.Test.YtnigblndonocfaaGreatDoorSAl
import Derived.BigQuiet
set_option linter.unusedVariables false
set_option linter.unusedSimpArgs false
namespace Go.Proofs.YtnigblndonocfaaGreatDoor
set_option maxRecDepth 100000
set_option maxHeartbeats 3200000
open Go.Proofs.Tryz
open Go.RowKit Go.BigFrame
theorem J0 {w0:World} {g nd q} {en:nB iW} (h:pK w0 g en.A en.l.length en.c nd q) (hen:ir 2 sM w0 en) (x:nB ByteArray) (hx:ir 1 sR w0 x) {k o t v:Int} {s:ByteArray} {A:Option Addr} {c:Nat} {xs:List Tx} (hX:RX w0 (.mk k o t v s A c xs)) (hB:FY (.mk k o t v s A c xs)) (hs:(Tx.mk k o t v s A c xs).size<=2000000) (w:World) (hw:ik w0 w) :
  Calls prog 76 #[.pointer (some ⟨g,0,none⟩),.agg #[.slice x.A x.l.length x.c,.int .i64 k,.int .i64 o,.int .i64 t,.int .i64 v,.string s,.slice A xs.length c]] w fun e w'=>PE w nd q (rN en.l ⟨x,.mk k o t v s A c xs⟩) e w':=by
 have HI:Hid (∀s:ByteArray,s.size<=140737488355328->∀U,ik w0 U->Calls prog 74 #[.pointer (some ⟨g,0,none⟩),.string s] U fun e w'=>PE U nd q (jA s) e w'):=fun s hs U hU=>tT h s hs U hU
 have HM:Hid (∀b e,e≠0->∀U,ik w0 U->Calls prog 39 #[.pointer (some ⟨g,0,none⟩),.bool b,.int .i64 e] U fun e' w'=>PE U nd q (iX b e) e' w'):=fun b e he U hU=>rC (h.here U (k:=hU)) b e he
 have HG:Hid (∀e,∀U,ik w0 U->Calls prog 78 #[.pointer (some ⟨g,0,none⟩),.int .i64 e] U fun e' w'=>PE U nd q e e' w'):=fun e U hU=>Au (h.here U (k:=hU)) e
 obtain⟨eA,ec,el⟩:=en;simp only[]at h⊢;have HX:Hid (∀U,ik w0 U->Calls prog 79 #[.slice eA el.length ec,.agg #[.int .i64 k,.int .i64 o,.int .i64 t,.int .i64 v,.string s,.slice A xs.length c]] U fun e w'=>e=.returned (.int .i64 (qk el (.mk k o t v s A c xs)))/\∃z,w'=U.more z):=fun U hU=>(zX hen hs hX hB U hU).mono fun e w_ h_=>⟨h_.1,have:=h_.2;jP _ _⟩
 obtain⟨R,hR⟩:=jt (rN el ⟨x,.mk k o t v s A c xs⟩);have I:Hid (R=jD (iX (decide ((0:Int)<(x.l.length:Int))) 8) (jD (iX (decide ((x.l.length:Int)<=64)) 3) (jD (iw jA x.l) (jD (qk el (.mk k o t v s A c xs)) (jD (iX ((x.l.length:Int)==1||k==10) 5) 0))))):=by
  show _=_
  rw[<- hR,kE];rfl
 rw[hR];obtain⟨ee,ax⟩:=jt (qk el (.mk k o t v s A c xs));rw[ax]at HX I;have HL:Hid (∀U,ik w0 U->U.cell? ⟨g,0,none⟩=some (.slice eA el.length ec)/\Le (g+1) U):=fun U hU=>⟨(h.here U (k:=hU)).fields.1,(h.here U (k:=hU)).fields.2.2.2⟩
 obtain⟨A1,c1,l⟩:=x;simp only[]at I⊢;have XX:=iy hx;have ay:=hx.len;simp only[]at ay;have ae:=iq w;go_in;obtain⟨g2,aw⟩:=jt (w.heap.size);obtain⟨W2,aI,J,aC⟩:∃W,w.alloc (.cells #[.slice A1 l.length c1,.int .i64 k,.int .i64 o,.int .i64 t,.int .i64 v,.string s,.slice A xs.length c] 79)=W/\Hid (∀U:World,ik W U->U.cell? ⟨g2,0,none⟩=some (.slice A1 l.length c1)/\U.cell? ⟨g2,1,none⟩=some (.int .i64 k)/\U.cell? ⟨g2,2,none⟩=some (.int .i64 o)/\U.cell? ⟨g2,3,none⟩=some (.int .i64 t)/\U.cell? ⟨g2,4,none⟩=some (.int .i64 v)/\U.cell? ⟨g2,5,none⟩=some (.string s)/\U.cell? ⟨g2,6,none⟩=some (.slice A xs.length c)/\Le (g2+1) U/\U.cell? ⟨g,0,none⟩=some (.slice eA el.length ec)/\Le (g+1) U)/\ik w W:=by
  refine⟨_,rfl,fun U hU=>?_,iR⟩;have y0:=(jC w 79 #[.slice A1 l.length c1,.int .i64 k,.int .i64 o,.int .i64 t,.int .i64 v,.string s,.slice A xs.length c]).after (w':=U);rw[aw]at y0;have q0:=ij hw (ij ae (ij iR hU));exact⟨by rw[y0.cell];rfl,by rw[y0.cell];rfl,by rw[y0.cell];rfl,by rw[y0.cell];rfl,by rw[y0.cell];rfl,by rw[y0.cell];rfl,by rw[y0.cell];rfl,y0.is_le,(HL U q0).1,(HL U q0).2⟩
 have d2:=ij ae aC;obtain⟨k0,k1,k2,k3,k4,k5,k6,a1,aF,aE⟩:=J W2 (iq _);go_wp2_with fail;obtain⟨_,_,_,_,_,_,_,_,l0,ll⟩:=J W2 (iq _);have af:=d2;refine mP (E:=iX (decide ((0:Int)<(l.length:Int))) 8) (HM _ 8 iI W2 (ij hw d2)) (nQ (fun b=>iX b 8) (decide_eq_decide.2 iu)) I (fun _=>rfl) d2 ?_;clear I;intro w3 I ak;have d3:ik w w3:=ij d2 ak;have b3:ik W2 w3:=ij (iq W2) ak;obtain⟨k0,k1,k2,k3,k4,k5,k6,a1,l0,ll⟩:=J w3 (b3);go_wp2_with fail;refine mP (E:=iX (decide ((l.length:Int)<=64)) 3) (HM _ 3 (by decide) w3 (ij hw d3)) (nQ (fun b=>iX b 3) (decide_eq_decide.2 iu)) I (fun _=>rfl) d3 ?_;clear I;intro w4 I aB;have b4:=ij (b3) aB;obtain⟨k0,k1,k2,k3,k4,k5,k6,a1,l0,ll⟩:=J w4 (b4);go_wp2_with fail;go_loopw [21] (fun i wr=>∃j:Nat,j<=l.length/\i=.int .i64 (j:Nat)/\Hid (iw jA (l.take j)=0)/\ik W2 wr) (fun i _=>l.length-(intOf i).toNat)
 case atStart=>exact⟨0,iu,rfl,iy (by simp[iw]),b4⟩
 case round=>
 obtain⟨j,hj,rfl,aa,a8⟩:=hrel;have a6:ik w wr:=ij af a8;obtain⟨rj,au⟩:∃r,wr=r:=⟨_,rfl⟩;rw[au]at a8 a6⊢;obtain⟨k0,k1,k2,k3,k4,k5,k6,a1,l0,ll⟩:=J rj (a8);by_cases a_:j<l.length
 ·have av:(j:Int)<(l.length:Int):=by omega
  obtain⟨bj,pj,yj,rfl,aD,al,ad⟩:=(XX.strs rj (k:=ij hw a6)).part (i:=j) a_;have y0:rj.cell? ⟨bj,pj+j,none⟩=some (.string yj):=by have:=ad.1;rwa [yr]at this
  have aq:=ad.2;have an:Hid ((jA yj)≠0->R=(jA yj)):=iB fun h=>by
   have h1:=kN jA al aa h;have h2:R=(jA yj):=I.trans ((lR (by rw[h1];exact h)).trans h1);exact h2
  have a7:Hid ((jA yj)=jD (jA yj) 0):=iB (kE _).symm;have ao:Hid ((jA yj)=0->iw jA (l.take (j+1))=0):=iB fun h=>(kt jA al aa).trans h
  obtain⟨X1,ab⟩:∃X,X=(jA yj):=⟨_,rfl⟩;replace a7:=iB (ab.trans a7);rw[<- ab]at an ao;go_wp2_with fail;refine mP (HI yj aq rj (ij hw a6)) rfl a7 an a6 ?_;clear a7;intro w5 a7 aA;have b5:ik W2 w5:=ij (a8) aA;obtain⟨k0,k1,k2,k3,k4,k5,k6,a1,l0,ll⟩:=J w5 (b5);go_wp2;go_roundw
  case rel=>exact⟨j+1,by omega,by go_num,iB (ao a7),b5⟩
  case measure=>simp only[intOf];omega
 replace I:=iB (I.trans (kC (lh jA a_ aa)));go_wp2_with fail;have aJ:=ij hw a6;refine jf 8 (by kernel_rfl) (by kernel_rfl) ?_;simp only[sD,rP,uB,sS];repeat (go_big_quiet_step ((go_at_call 79;exact mR (HX _ inferInstance))))
 refine wpQuiet_nil ?_;rintro _ ⟨y_,rfl⟩;obtain⟨w6,ar,aj⟩:∃v,rj.more y_=v/\ik rj v:=⟨_,rfl,iR⟩;rw[ar];have d6:=ij a6 aj;have b6:ik W2 w6:=ij (a8) aj;obtain⟨k0,k1,k2,k3,k4,k5,k6,a1,l0,ll⟩:=J w6 (b6);go_wp2_with fail;refine mP (HG ee w6 (ij hw d6)) rfl I (fun _=>rfl) d6 ?_;clear I;intro w7 I ai;have d7:ik w w7:=ij d6 ai;have b7:=ij (b6) ai;obtain⟨k0,k1,k2,k3,k4,k5,k6,a1,l0,ll⟩:=J w7 (b7);by_cases aH:l.length=1
 ·have a':((l.length:Int)==1)=true:=by rw[beq_iff_eq];omega
  have aG:(l.length==1)=true:=by rw[beq_iff_eq];omega
  replace I:Hid (R=jD (iX true 5) 0):=by show _=_;rw[I.out,a'];rfl
  go_wp2_with fail;refine mP (E:=iX true 5) (HM true 5 iI w7 (ij hw d7)) rfl I (fun _=>rfl) d7 ?_;clear I;intro w8 I ah;have d8:ik w w8:=ij d7 ah;have b8:=ij (b7) ah;obtain⟨k0,k1,k2,k3,k4,k5,k6,a1,l0,ll⟩:=J w8 (b8);go_wp2;go_end0;exact by have hz:=I.out;rw[hz];exact zF d8
 have a':((l.length:Int)==1)=false:=by rw[beq_eq_false_iff_ne];omega
 replace I:Hid (R=jD (iX (k==10) 5) 0):=by show _=_;rw[I.out,a'];rfl
 obtain⟨bk,az⟩:=jt ((k==10));rw[az]at I;go_wp2_with fail;refine mP (E:=iX bk 5) (HM bk 5 iI w7 (ij hw d7)) rfl I (fun _=>rfl) d7 ?_;clear I;intro w9 I ag;have d9:ik w w9:=ij d7 ag;have b9:=ij (b7) ag;obtain⟨k0,k1,k2,k3,k4,k5,k6,a1,l0,ll⟩:=J w9 (b9);go_wp2;go_end0;exact by have hz:=I.out;rw[hz];exact zF d9
theorem PL {w0:World} {g nd q} {en:nB iW} (h:pK w0 g en.A en.l.length en.c nd q) (hen:ir 2 sM w0 en) (x:nB ma) (hx:ir 8 (Eo True) w0 x) (n:Nat) (strong:Bool) (w:World) (hw:ik w0 w) :
  Calls prog 122 #[.pointer (some ⟨g,0,none⟩),.slice x.A x.l.length x.c,.int .i64 (n:Nat),.bool strong] w fun e w'=>PE w nd q (iw (tx en.l n strong) x.l) e w':=by
 have HM:Hid (∀b e,e≠0->∀U,ik w0 U->Calls prog 39 #[.pointer (some ⟨g,0,none⟩),.bool b,.int .i64 e] U fun e' w'=>PE U nd q (iX b e) e' w'):=fun b e he U hU=>rC (h.here U (k:=hU)) b e he
 have HG:Hid (∀e,∀U,ik w0 U->Calls prog 78 #[.pointer (some ⟨g,0,none⟩),.int .i64 e] U fun e' w'=>PE U nd q e e' w'):=fun e U hU=>Au (h.here U (k:=hU)) e
 obtain⟨eA,ec,el⟩:=en;simp only[]at h⊢;have HX:Hid (∀(k o t v:Int) (s:ByteArray) (A:Option Addr) (c:Nat) (xs:List Tx),(Tx.mk k o t v s A c xs).size<=2000000->FY (.mk k o t v s A c xs)->RX w0 (.mk k o t v s A c xs)->∀U,ik w0 U->Calls prog 79 #[.slice eA el.length ec,.agg #[.int .i64 k,.int .i64 o,.int .i64 t,.int .i64 v,.string s,.slice A xs.length c]] U fun e w'=>e=.returned (.int .i64 (qk el (.mk k o t v s A c xs)))/\∃z,w'=U.more z):=fun k o t v s A c xs hs hB hX U hU=>(zX hen hs hX hB U hU).mono fun e w_ h_=>⟨h_.1,have:=h_.2;jP _ _⟩
 have aL:Hid (∀(k o t v:Int) (s:ByteArray) (A:Option Addr) (c:Nat) (xs:List Tx),RX w0 (.mk k o t v s A c xs)->∀U,ik w0 U->Calls prog 157 #[.agg #[.int .i64 k,.int .i64 o,.int .i64 t,.int .i64 v,.string s,.slice A xs.length c]] U fun e w'=>e=.returned (.bool (jL (Tx.mk k o t v s A c xs).list))/\ik U w'):=fun k o t v s A c xs hX U hU=>Dp hX U hU
 obtain⟨R,hR⟩:=jt (iw (tx el n strong) x.l);have aa:Hid (R=jD (iw (tx el n strong) x.l) 0):=by
  show _=_
  rw[<- hR,kE]
 rw[hR];have HL:Hid (∀U,ik w0 U->U.cell? ⟨g,0,none⟩=some (.slice eA el.length ec)/\Le (g+1) U):=fun U hU=>⟨(h.here U (k:=hU)).fields.1,(h.here U (k:=hU)).fields.2.2.2⟩
 obtain⟨A1,c1,l⟩:=x;simp only[]at aa⊢;have XX:=iy hx;have aN:=hx.len;simp only[]at aN;have aK:=iq w;have HK:Hid (∀U:World,ik w U->U.cell? ⟨g,0,none⟩=some (.slice eA el.length ec)/\Le (g+1) U):=fun U hU=>HL U (ij hw hU)
 obtain⟨l0,ll⟩:=HK w (iq _);cases strong with
 |false=>
  go_in;go_wp2_with fail;go_loopw [12] (fun i wr=>∃j:Nat,j<=l.length/\i=.int .i64 (j:Nat)/\Hid (iw (tx el n false) (l.take j)=0)/\ik w wr) (fun i _=>l.length-(intOf i).toNat)
  case atStart=>exact⟨0,iu,rfl,iy (by simp[iw]),iq w⟩
  case round=>
  obtain⟨j,hj,rfl,ah,a8⟩:=hrel;have a6:=ij aK a8;obtain⟨rj,aD⟩:=jt (wr);rw[aD]at a8 a6⊢;obtain⟨l0,ll⟩:=HK rj (a8);by_cases ad:j<l.length
  ·have aE:(j:Int)<(l.length:Int):=iu
   obtain⟨bj,pj,yj,rfl,aJ,ag,ae⟩:=(XX.trs rj (k:=ij hw a6)).part (i:=j) ad;obtain⟨⟨k,o,t,v,s,A,c,xs⟩,J,a1⟩:=yj;have aS:=iy (ae.co);obtain⟨⟨y0,y1,y2,y3,y4,y5⟩,y6,y7⟩:(Kf rj bj (pj+j*8) (.mk k o t v s A c xs))/\rj.cell? ⟨bj,pj+j*8+6,none⟩=some (.int .i64 J)/\rj.cell? ⟨bj,pj+j*8+7,none⟩=some (.bool a1):=⟨ae.six,ae.c6,ae.c7⟩;simp only[txs]at y0 y1 y2 y3 y4 y5;obtain⟨_,_,aw⟩:=XX.elem (i:=j) ag;have ab:=iy aw;have av:=iy (HX k o t v s A c xs (ab.sz trivial) ab.tb ab.co);have az:=iy (aL k o t v s A c xs ab.co);obtain⟨ee,aj⟩:=jt (qk el (.mk k o t v s A c xs));obtain⟨sl,ai⟩:=jt (jL (Tx.mk k o t v s A c xs).list);rw[aj]at av;rw[ai]at az;have a_:Hid ((tx el n false ⟨.mk k o t v s A c xs,J,a1⟩)≠0->R=(tx el n false ⟨.mk k o t v s A c xs,J,a1⟩)):=iy fun h=>by
    have h1:=kN (tx el n false) ag ah h;have h2:=aa.trans ((lR (by rw[h1];exact h)).trans h1);exact h2
   have I:Hid ((tx el n false ⟨.mk k o t v s A c xs,J,a1⟩)=jD (iX (decide (0<=J)&&decide (J<(n:Int))) 14) (jD ee (jD (iX (!false||sl) 5) 0))):=by show _=_;rw[kE,<- aj,<- ai];rfl
   have ax:Hid ((tx el n false ⟨.mk k o t v s A c xs,J,a1⟩)=0->iw (tx el n false) (l.take (j+1))=0):=iy fun h=>(kt (tx el n false) ag ah).trans h
   obtain⟨X1,al⟩:∃X,X=(tx el n false ⟨.mk k o t v s A c xs,J,a1⟩):=⟨_,rfl⟩;replace I:=iy (al.trans I);rw[<- al]at a_ ax;by_cases ak:0<=J;rotate_left
   ·have af:=decide_eq_false ak
    replace I:Hid (X1=jD (iX false 14) (jD ee (jD (iX (!false||sl) 5) 0))):=by show _=_;rw[I.out,af];rfl
    obtain⟨g2,aG⟩:=jt (rj.heap.size);obtain⟨W2,aP,ay,aI⟩:∃W,rj.alloc (.cells #[.int .i64 k,.int .i64 o,.int .i64 t,.int .i64 v,.string s,.slice A xs.length c,.int .i64 J,.bool a1] 223)=W/\Hid (∀U:World,ik W U->U.cell? ⟨g2,0,none⟩=some (.int .i64 k)/\U.cell? ⟨g2,1,none⟩=some (.int .i64 o)/\U.cell? ⟨g2,2,none⟩=some (.int .i64 t)/\U.cell? ⟨g2,3,none⟩=some (.int .i64 v)/\U.cell? ⟨g2,4,none⟩=some (.string s)/\U.cell? ⟨g2,5,none⟩=some (.slice A xs.length c)/\U.cell? ⟨g2,6,none⟩=some (.int .i64 J)/\U.cell? ⟨g2,7,none⟩=some (.bool a1)/\Le (g2+1) U/\U.cell? ⟨g,0,none⟩=some (.slice eA el.length ec)/\Le (g+1) U)/\ik rj W:=by
     refine⟨_,rfl,fun U hU=>?_,iR⟩;have y0:=(jC rj 223 #[.int .i64 k,.int .i64 o,.int .i64 t,.int .i64 v,.string s,.slice A xs.length c,.int .i64 J,.bool a1]).after (w':=U);rw[aG]at y0;have q0:=ij hw (ij a6 (ij iR hU));have q1:=ij (a8) (ij iR hU);exact⟨by rw[y0.cell];rfl,by rw[y0.cell];rfl,by rw[y0.cell];rfl,by rw[y0.cell];rfl,by rw[y0.cell];rfl,by rw[y0.cell];rfl,by rw[y0.cell];rfl,by rw[y0.cell];rfl,y0.is_le,(HL U q0).1,(HL U q0).2⟩
    have d2:=ij a6 aI;obtain⟨k0,k1,k2,k3,k4,k5,k6,k7,aM,aB,aA⟩:=ay W2 (iq _);go_wp2_with fail;obtain⟨_,_,_,_,_,_,_,_,_,l0,ll⟩:=ay W2 (iq _);exact Nz (E:=iX false 14) (HM _ 14 iI W2 (ij hw d2)) rfl I a_ d2
   have af:=lp ak;obtain⟨bd,aH⟩:=jt (decide (J<(n:Int)));replace I:Hid (X1=jD (iX bd 14) (jD ee (jD (iX (!false||sl) 5) 0))):=by show _=_;rw[I.out,af,aH];rfl
   obtain⟨g4,aF⟩:=jt (rj.heap.size);obtain⟨W4,aO,a7,au⟩:∃W,rj.alloc (.cells #[.int .i64 k,.int .i64 o,.int .i64 t,.int .i64 v,.string s,.slice A xs.length c,.int .i64 J,.bool a1] 223)=W/\Hid (∀U:World,ik W U->U.cell? ⟨g4,0,none⟩=some (.int .i64 k)/\U.cell? ⟨g4,1,none⟩=some (.int .i64 o)/\U.cell? ⟨g4,2,none⟩=some (.int .i64 t)/\U.cell? ⟨g4,3,none⟩=some (.int .i64 v)/\U.cell? ⟨g4,4,none⟩=some (.string s)/\U.cell? ⟨g4,5,none⟩=some (.slice A xs.length c)/\U.cell? ⟨g4,6,none⟩=some (.int .i64 J)/\U.cell? ⟨g4,7,none⟩=some (.bool a1)/\Le (g4+1) U/\U.cell? ⟨g,0,none⟩=some (.slice eA el.length ec)/\Le (g+1) U)/\ik rj W:=by
    refine⟨_,rfl,fun U hU=>?_,iR⟩;have y0:=(jC rj 223 #[.int .i64 k,.int .i64 o,.int .i64 t,.int .i64 v,.string s,.slice A xs.length c,.int .i64 J,.bool a1]).after (w':=U);rw[aF]at y0;have q0:=ij hw (ij a6 (ij iR hU));have q1:=ij (a8) (ij iR hU);exact⟨by rw[y0.cell];rfl,by rw[y0.cell];rfl,by rw[y0.cell];rfl,by rw[y0.cell];rfl,by rw[y0.cell];rfl,by rw[y0.cell];rfl,by rw[y0.cell];rfl,by rw[y0.cell];rfl,y0.is_le,(HL U q0).1,(HL U q0).2⟩
   have d4:=ij a6 au;obtain⟨k0,k1,k2,k3,k4,k5,k6,k7,a',aB,aA⟩:=a7 W4 (iq _);go_wp2_with fail;obtain⟨_,_,_,_,_,_,_,_,_,l0,ll⟩:=a7 W4 (iq _);refine mP (E:=iX bd 14) (HM bd 14 iI W4 (ij hw d4)) rfl I a_ d4 ?_;clear I;intro w5 I ar;have d5:ik w w5:=ij d4 ar;have b5:ik W4 w5:=ij (iq W4) ar;obtain⟨k0,k1,k2,k3,k4,k5,k6,k7,a',l0,ll⟩:=a7 w5 (b5);go_wp2_with fail;have aQ:=ij hw d5;refine jf 8 kp kp ?_;simp only[sD,rP,uB,sS];repeat (go_big_quiet_step ((go_at_call 79;exact mR (av _ iR))))
   refine wpQuiet_nil ?_;rintro _ ⟨y_,rfl⟩;obtain⟨w6,aC,aq⟩:∃v,w5.more y_=v/\ik w5 v:=⟨_,rfl,iR⟩;rw[aC];have d6:ik w w6:=ij d5 aq;have b6:=ij (b5) aq;obtain⟨k0,k1,k2,k3,k4,k5,k6,k7,a',l0,ll⟩:=a7 w6 (b6);go_wp2_with fail;refine mP (HG ee w6 (ij hw d6)) rfl I a_ d6 ?_;clear I;intro w7 I ao;have d7:ik w w7:=ij d6 ao;have b7:=ij (b6) ao;obtain⟨k0,k1,k2,k3,k4,k5,k6,k7,a',l0,ll⟩:=a7 w7 (b7);go_wp2_with fail;refine mP (E:=iX true 5) (HM true 5 iI w7 (ij hw d7)) rfl I a_ d7 ?_;clear I;intro w8 I an;have d8:ik w w8:=ij d7 an;have b8:=ij (b7) an;obtain⟨k0,k1,k2,k3,k4,k5,k6,k7,a',l0,ll⟩:=a7 w8 (b8);go_wp2;go_roundw
   case rel=>exact⟨j+1,iu,by go_num,iy (ax I),ij (a8) (ij au (b8))⟩
   case measure=>simp only[intOf];omega
  replace aa:=iy (aa.trans (kC (lh (tx el n false) ad ah)));go_wp2;go_end0;exact by have hz:=aa.out;rw[hz];exact zF a6
 |true=>
 go_in;go_wp2_with fail;go_loopw [12] (fun i wr=>∃j:Nat,j<=l.length/\i=.int .i64 (j:Nat)/\Hid (iw (tx el n true) (l.take j)=0)/\ik w wr) (fun i _=>l.length-(intOf i).toNat)
 case atStart=>exact⟨0,iu,rfl,iy (by simp[iw]),iq w⟩
 case round=>
 obtain⟨j,hj,rfl,ah,a8⟩:=hrel;have a6:=ij aK a8;obtain⟨rj,aD⟩:=jt (wr);rw[aD]at a8 a6⊢;obtain⟨l0,ll⟩:=HK rj (a8);by_cases ad:j<l.length
 ·have aE:(j:Int)<(l.length:Int):=iu
  obtain⟨bj,pj,yj,rfl,aJ,ag,ae⟩:=(XX.trs rj (k:=ij hw a6)).part (i:=j) ad;obtain⟨⟨k,o,t,v,s,A,c,xs⟩,J,a1⟩:=yj;obtain⟨⟨y0,y1,y2,y3,y4,y5⟩,y6,y7⟩:(Kf rj bj (pj+j*8) (.mk k o t v s A c xs))/\rj.cell? ⟨bj,pj+j*8+6,none⟩=some (.int .i64 J)/\rj.cell? ⟨bj,pj+j*8+7,none⟩=some (.bool a1):=⟨ae.six,ae.c6,ae.c7⟩;simp only[txs]at y0 y1 y2 y3 y4 y5;obtain⟨_,_,aw⟩:=XX.elem (i:=j) ag;have ab:=iy aw;have av:=iy (HX k o t v s A c xs (ab.sz trivial) ab.tb ab.co);have az:=iy (aL k o t v s A c xs ab.co);obtain⟨ee,aj⟩:=jt (qk el (.mk k o t v s A c xs));obtain⟨sl,ai⟩:=jt (jL (Tx.mk k o t v s A c xs).list);rw[aj]at av;rw[ai]at az;have a_:Hid ((tx el n true ⟨.mk k o t v s A c xs,J,a1⟩)≠0->R=(tx el n true ⟨.mk k o t v s A c xs,J,a1⟩)):=iy fun h=>by
   have h1:=kN (tx el n true) ag ah h;have h2:=aa.trans ((lR (by rw[h1];exact h)).trans h1);exact h2
  have I:Hid ((tx el n true ⟨.mk k o t v s A c xs,J,a1⟩)=jD (iX (decide (0<=J)&&decide (J<(n:Int))) 14) (jD ee (jD (iX (!true||sl) 5) 0))):=by show _=_;rw[kE,<- aj,<- ai];rfl
  have ax:Hid ((tx el n true ⟨.mk k o t v s A c xs,J,a1⟩)=0->iw (tx el n true) (l.take (j+1))=0):=iy fun h=>(kt (tx el n true) ag ah).trans h
  obtain⟨X1,al⟩:∃X,X=(tx el n true ⟨.mk k o t v s A c xs,J,a1⟩):=⟨_,rfl⟩;replace I:=iy (al.trans I);rw[<- al]at a_ ax;by_cases ak:0<=J;rotate_left
  ·have af:=decide_eq_false ak
   replace I:Hid (X1=jD (iX false 14) (jD ee (jD (iX (!true||sl) 5) 0))):=by show _=_;rw[I.out,af];rfl
   obtain⟨g2,aG⟩:=jt (rj.heap.size);obtain⟨W2,aP,ay,aI⟩:∃W,rj.alloc (.cells #[.int .i64 k,.int .i64 o,.int .i64 t,.int .i64 v,.string s,.slice A xs.length c,.int .i64 J,.bool a1] 223)=W/\Hid (∀U:World,ik W U->U.cell? ⟨g2,0,none⟩=some (.int .i64 k)/\U.cell? ⟨g2,1,none⟩=some (.int .i64 o)/\U.cell? ⟨g2,2,none⟩=some (.int .i64 t)/\U.cell? ⟨g2,3,none⟩=some (.int .i64 v)/\U.cell? ⟨g2,4,none⟩=some (.string s)/\U.cell? ⟨g2,5,none⟩=some (.slice A xs.length c)/\U.cell? ⟨g2,6,none⟩=some (.int .i64 J)/\U.cell? ⟨g2,7,none⟩=some (.bool a1)/\Le (g2+1) U/\U.cell? ⟨g,0,none⟩=some (.slice eA el.length ec)/\Le (g+1) U)/\ik rj W:=by
    refine⟨_,rfl,fun U hU=>?_,iR⟩;have y0:=(jC rj 223 #[.int .i64 k,.int .i64 o,.int .i64 t,.int .i64 v,.string s,.slice A xs.length c,.int .i64 J,.bool a1]).after (w':=U);rw[aG]at y0;have q0:=ij hw (ij a6 (ij iR hU));have q1:=ij (a8) (ij iR hU);exact⟨by rw[y0.cell];rfl,by rw[y0.cell];rfl,by rw[y0.cell];rfl,by rw[y0.cell];rfl,by rw[y0.cell];rfl,by rw[y0.cell];rfl,by rw[y0.cell];rfl,by rw[y0.cell];rfl,y0.is_le,(HL U q0).1,(HL U q0).2⟩
   have d2:=ij a6 aI;obtain⟨k0,k1,k2,k3,k4,k5,k6,k7,aM,aB,aA⟩:=ay W2 (iq _);go_wp2_with fail;obtain⟨_,_,_,_,_,_,_,_,_,l0,ll⟩:=ay W2 (iq _);exact Nz (E:=iX false 14) (HM _ 14 iI W2 (ij hw d2)) rfl I a_ d2
  have af:=lp ak;obtain⟨bd,aH⟩:=jt (decide (J<(n:Int)));replace I:Hid (X1=jD (iX bd 14) (jD ee (jD (iX (!true||sl) 5) 0))):=by show _=_;rw[I.out,af,aH];rfl
  obtain⟨g4,aF⟩:=jt (rj.heap.size);obtain⟨W4,aO,a7,au⟩:∃W,rj.alloc (.cells #[.int .i64 k,.int .i64 o,.int .i64 t,.int .i64 v,.string s,.slice A xs.length c,.int .i64 J,.bool a1] 223)=W/\Hid (∀U:World,ik W U->U.cell? ⟨g4,0,none⟩=some (.int .i64 k)/\U.cell? ⟨g4,1,none⟩=some (.int .i64 o)/\U.cell? ⟨g4,2,none⟩=some (.int .i64 t)/\U.cell? ⟨g4,3,none⟩=some (.int .i64 v)/\U.cell? ⟨g4,4,none⟩=some (.string s)/\U.cell? ⟨g4,5,none⟩=some (.slice A xs.length c)/\U.cell? ⟨g4,6,none⟩=some (.int .i64 J)/\U.cell? ⟨g4,7,none⟩=some (.bool a1)/\Le (g4+1) U/\U.cell? ⟨g,0,none⟩=some (.slice eA el.length ec)/\Le (g+1) U)/\ik rj W:=by
   refine⟨_,rfl,fun U hU=>?_,inferInstance⟩;have y0:=(jC rj 223 #[.int .i64 k,.int .i64 o,.int .i64 t,.int .i64 v,.string s,.slice A xs.length c,.int .i64 J,.bool a1]).after (w':=U);rw[aF]at y0;have q0:=ij hw (ij a6 (ij iR hU));exact⟨by rw[y0.cell];rfl,by rw[y0.cell];rfl,by rw[y0.cell];rfl,by rw[y0.cell];rfl,by rw[y0.cell];rfl,by rw[y0.cell];rfl,by rw[y0.cell];rfl,by rw[y0.cell];rfl,y0.is_le,(HL U q0).1,(HL U q0).2⟩
  have d4:=ij a6 au;obtain⟨k0,k1,k2,k3,k4,k5,k6,k7,a',aB,aA⟩:=a7 W4 (iq _);go_wp2_with fail;obtain⟨_,_,_,_,_,_,_,_,_,l0,ll⟩:=a7 W4 (iq _);refine mP (E:=iX bd 14) (HM bd 14 (by decide) W4 (ij hw d4)) rfl I a_ d4 ?_;clear I;intro w5 I ar;have d5:ik w w5:=ij d4 ar;have b5:ik W4 w5:=ij (iq W4) ar;obtain⟨k0,k1,k2,k3,k4,k5,k6,k7,a',l0,ll⟩:=a7 w5 (b5);go_wp2_with fail;have aQ:=ij hw d5;refine jf 8 (by kernel_rfl) (by kernel_rfl) ?_;simp only[sD,rP,uB,sS];repeat (go_big_quiet_step ((go_at_call 79;exact mR (av _ inferInstance))))
  refine wpQuiet_nil ?_;rintro _ ⟨y_,rfl⟩;obtain⟨w6,aC,aq⟩:∃v,w5.more y_=v/\ik w5 v:=⟨_,rfl,iR⟩;rw[aC];have d6:ik w w6:=ij d5 aq;have b6:=ij (b5) aq;obtain⟨k0,k1,k2,k3,k4,k5,k6,k7,a',l0,ll⟩:=a7 w6 (b6);go_wp2_with fail;refine mP (HG ee w6 (ij hw d6)) rfl I a_ d6 ?_;clear I;intro w7 I ao;have d7:ik w w7:=ij d6 ao;have b7:=ij (b6) ao;obtain⟨k0,k1,k2,k3,k4,k5,k6,k7,a',l0,ll⟩:=a7 w7 (b7);go_wp2_with fail;refine (az w7 (ij hw d7)).mono ?_;rintro e w8 ⟨rfl,an⟩;have d8:ik w w8:=ij d7 an;have b8:=ij (b7) an;obtain⟨k0,k1,k2,k3,k4,k5,k6,k7,a',l0,ll⟩:=a7 w8 (b8);go_wp2_with fail;refine mP (E:=iX sl 5) (HM sl 5 iI w8 (ij hw d8)) rfl I a_ d8 ?_;clear I;intro w9 I aR;have b9:=ij (b8) aR;obtain⟨k0,k1,k2,k3,k4,k5,k6,k7,a',l0,ll⟩:=a7 w9 (b9);go_wp2;go_roundw
  case rel=>exact⟨j+1,iu,by go_num,iy (ax I),ij (a8) (ij au (b9))⟩
  case measure=>simp only[intOf];omega
 replace aa:=iy (aa.trans (kC (lh (tx el n true) ad ah)));go_wp2;go_end0;exact by have hz:=aa.out;rw[hz];exact zF a6
end Go.Proofs.YtnigblndonocfaaGreatDoor
