/- A part of the proof. -/
import Derived.Test.YtnigblndonocfaaGreatDoorP3
import Derived.Deep.RegionHeld2
set_option linter.unusedVariables false
set_option linter.unusedSimpArgs false
namespace Go.Proofs.YtnigblndonocfaaGreatDoor
set_option maxRecDepth 100000
set_option maxHeartbeats 6400000
open Go.RowKit Go.BigFrame Go.Proofs.Tryz
theorem jE {P:Program} {ops:Array Oper} {Q:Exit->Act->yM->Prop} {i:Nat} {o:Oper} {K:Act->yM->Prop} {a:Act} {w:yM} (hi:ops[i]?=some o) (hg:o.guard=none) (h:o.wp P a w K Q):wpOp P ops Q i K a w:=by
 unfold wpOp;rw[hi];simp only[];rw[iG (by simp[Region.wanted,hg])];exact .inl h
section
variable {B:yM} {q:Nat} {A:zA} {c:Nat} {L:List Tk} {en:Int} {eA:zA} {ec:Nat} {el:List iW} {w w0 w1:yM} {i:Nat}
structure CX (B:yM) (q:Nat) (A:zA) (c:Nat) (L:List Tk) (en:Int) (eA:zA) (ec:Nat) (el:List iW) (k:Nat):Prop where
 e:∀(w:yM) (i:Nat),Rd B q A c L en eA ec el w i->20*(L-i)+10<=k->Calls prog 71 #[.pointer q] w (pk B q A c L en eA ec el w i (jg el k (L.drop i)) (VX w))
 l:∀(w:yM) (i n:Nat),n<=6->Rd B q A c L en eA ec el w i->20*(L-i)+9<=k+n->Calls prog 116 #[.pointer q,(n:Nat)] w (pk B q A c L en eA ec el w i (jB el k (n:Nat) (L.drop i)) (VX w))
 u:∀(w:yM) (i:Nat),Rd B q A c L en eA ec el w i->20*(L-i)+2<=k->Calls prog 152 #[.pointer q] w (pk B q A c L en eA ec el w i (xu el k (L.drop i)) (VX w))
 p:∀(w:yM) (i:Nat),Rd B q A c L en eA ec el w i->20*(L-i)+1<=k->Calls prog 170 #[.pointer q] w (pk B q A c L en eA ec el w i (kV el k (L.drop i)) (VX w))
theorem LX {k:Nat} (C:CX B q A c L en eA ec el k) (h:Rd B q A c L en eA ec el w i) (hk:20*(L-i)+10<=k+1):Calls prog 71 #[.pointer q] w (pk B q A c L en eA ec el w i (jg el (k+1) (L.drop i)) (VX w)):=by
 obtain⟨X,hX⟩:=jt (jg el (k+1) (L.drop i));rw[hX];obtain⟨i0,aR⟩:=jt (i);rw[aR]at hX h hk⊢;have HX:=iy hX.symm;have aL:Hid (i0<=i0):=js _;have hq:=h.blk.lt;have aS:=h.base;obtain⟨r,hr⟩:=jt (w.heap.size);have a8:r≠q:=by omega
 have b6:q<r:=by omega
 obtain⟨w0,aN,aw0,B0,R0,s0⟩:=Ls h hr a8 #[JX,JX,JX,JX,.string ⟨#[]⟩,()] 73;have HB:=iy B0;have a0:ik (iz q w0) (iz q w0):=iq _;go_in;go_wp2_with fail;try rw[hr]
 try rw[aN]
 have HC:=iy (C.l w0 i0 0 iI R0 iu);have HX:Hid (X=Option.bind (jB el k 0 (L.drop i0)) _):=HX;generalize b8:jB el k 0 (L.drop i0)=Y at HC HX;go_wp2_with fail;refine HC.mono ?_;rintro e w1 ⟨aZ,hY⟩;have aZ:=ij a0 aZ;cases Y with
 |none=>
  obtain⟨a,er,rfl,he⟩:=hY;unfold oD;go_wp2;exact⟨rfl,kf HX (ij (im aw0) aZ) (jz a er he)⟩
 |some y=>
 obtain⟨x1,r1⟩:=y;obtain⟨J,i1,rfl,aO,RZ,hr,hi⟩:=hY;subst hr;have R1:=iy RZ;have a1:=aZ;have ai:=iB (jW aL hi);obtain⟨⟨k1,o1,R,J,s1,A1,c1,o⟩,aj,rfl,D1⟩:=aO;have ak:(Tx.mk k1 o1 R J s1 A1 c1 o).val=.agg #[k1,o1,R,J,s1,(A1,o,c1)]:=rfl;rw[ak];obtain⟨ra,aH⟩:=jt (w1.heap.size);obtain⟨w2,b5,e2,BA,R2,a2,D2,s2⟩:∃v,w1.alloc (.cells #[k1,o1,R,J,s1,(A1,o,c1)] 73)=v/\ik w1 v/\qP v ra (.mk k1 o1 R J s1 A1 c1 o)/\Hid (Rd B q A c L en eA ec el v i1)/\ik (iz q w0) (iz q v)/\Hid (RX (old w0 v) (.mk k1 o1 R J s1 A1 c1 o))/\v=ra+1:=⟨_,rfl,iR,by rw[<- aH];exact jC ..,R1.after iR,ij a1 (im iR),D1.below (jK iR).below,by rw[iH,aH]⟩;have a7:ra≠q:=by have:=R1.blk.lt;omega
 have b7:r<ra:=by have:=lZ a1;omega
 have ay:=iB BA;have aG:=ai;have HC:=iB (tB R2 ⟨#[45,62]⟩);go_wp2_with fail;refine HC.mono ?_;rintro e w3 ⟨z,hz,rfl,RZ,aZ⟩;have a3:=ij a2 aZ;have HZ:=iB hz;have aJ:=aZ;cases z
 ·skip
  have R3:Hid (Rd B q A c L en eA ec el w3 i1):=iB RZ;have HX:=iB (HX.trans (iV (Qa HZ)));have af:=aG;have aT:ik (iz q w2) (iz q w3):=aJ;have HC:=iB (tB R3 ⟨#[102,98,121]⟩);go_wp2_with fail;refine HC.mono ?_;rintro e w4 ⟨z,hz,rfl,RZ,aZ⟩;have a4:=ij a3 aZ;have HZ:=iB hz;have aI:=aZ;cases z
  ·skip
   have R4:Hid (Rd B q A c L en eA ec el w4 i1):=iB RZ;have HX:=iB (HX.trans (iV (Qa HZ)));have ah:=af;have aT:=ij aT aI;have aA:ik (iz q w2) (iz q w4):=aT;have BA:qP w4 ra (.mk k1 o1 R J s1 A1 c1 o):=kq ay a7 aA;obtain⟨m0,m1,m2,m3,m4,m5⟩:=BA.cells;have ml:=jo BA;obtain⟨b2,b1,b0,aY,aX,aV⟩:=jU BA;have I:qP w4 r oE:=lM (HB.after (k:=a4)) a8;obtain⟨n0,n1,n2,n3,n4,n5⟩:=I.cells;have nl:=jo I;obtain⟨aF,aE,aD,aC,aB,az⟩:=jU I;have D4:=iy (D2.below (kj (q:=q) iu aA).below);obtain⟨W,hW,EW,ae,aW,oW,sW⟩:=jY I R4 a8 (ij (im aw0) a4) (lI hr) iu (.mk k1 o1 R J s1 A1 c1 o);have hW:=iy hW;go_wp2_with fail;have hw:=hW.out;simp only[txs]at hw;try rw[hw]
   obtain⟨u0,u1,u2,u3,u4,u5⟩:=EW.cells;simp only[txs]at u0 u1 u2 u3 u4 u5;exact jR (v:=.agg #[k1,o1,R,J,s1,(A1,o,c1)]) (by simp[results,results71,go_sem,u0,u1,u2,u3,u4,u5]) rfl (lN (x:=x1) (show X=some (x1,L.drop i1) from HX) aW ⟨.mk k1 o1 R J s1 A1 c1 o,aj,rfl,((D4.below (oW w0 iu).below)).sub (iS iu W)⟩ ae rfl ah)
  have R4:Hid (Rd B q A c L en eA ec el w4 (i1+1)):=iB RZ;have HX:=iB (HX.trans (iG HZ));rw[tail_drop]at HX;have ah:Hid (i0<=i1+1):=wc af;have b3:=pI HZ;have aT:=ij aT aI;have aP:=R4.le;have HC:Hid (∀U,ik w4 U->Calls prog 71 #[.pointer q] U (pk B q A c L en eA ec el U (i1+1) (jg el k (L.drop (i1+1))) (VX U))):=fun U hU=>C.e U (i1+1) (R4.after hU) (by have:=ai.out;omega)
  have HX:Hid (X=Option.bind (jg el k (L.drop (i1+1))) _):=HX;generalize aU:jg el k (L.drop (i1+1))=Y at HC HX;have BA:=kq ay a7 aT;have HK:Hid (∀U,ik (iz q w4) (iz q U)->(U.cell? ra=k1/\U.cell? (ra,1)=o1/\U.cell? (ra,2)=R/\U.cell? (ra,3)=J/\U.cell? (ra,4)=s1/\U.cell? (ra,5)=(A1,o,c1))):=fun U hU=>Iy (kq BA a7 hU)
  have al:=jo BA;have FR:∀(V:yM) (j i:Nat) (u:Value),(V.setCell (r,j) u).cell? (ra,i)=V.cell? (ra,i):=fun V j i u=>Dj (Below.heap_setCell V _ u ra (by show ra≠r;omega))
  have ax:Hid (∀(V:yM) (u0 u1 u2 u3 u4 u5:Value),(fun U:yM=>U.cell? ra=k1/\U.cell? (ra,1)=o1/\U.cell? (ra,2)=R/\U.cell? (ra,3)=J/\U.cell? (ra,4)=s1/\U.cell? (ra,5)=(A1,o,c1)) V->(fun U:yM=>U.cell? ra=k1/\U.cell? (ra,1)=o1/\U.cell? (ra,2)=R/\U.cell? (ra,3)=J/\U.cell? (ra,4)=s1/\U.cell? (ra,5)=(A1,o,c1)) ((((((V.setCell r u0).setCell (r,1) u1).setCell (r,2) u2).setCell (r,3) u3).setCell (r,4) u4).setCell (r,5) u5)):=fun V u0 u1 u2 u3 u4 u5 h=>by simp only[FR];exact h
  cases Y with
  |none=>
   go_wp2_with fail;refine wp_region_held (S:=fun U:yM=>U.cell? ra=k1/\U.cell? (ra,1)=o1/\U.cell? (ra,2)=R/\U.cell? (ra,3)=J/\U.cell? (ra,4)=s1/\U.cell? (ra,5)=(A1,o,c1)) kp ?_;have ad:(fun U:yM=>U.cell? ra=k1/\U.cell? (ra,1)=o1/\U.cell? (ra,2)=R/\U.cell? (ra,3)=J/\U.cell? (ra,4)=s1/\U.cell? (ra,5)=(A1,o,c1)) w4.drew:=HK _ zc;refine wpAnyH_take (i:=0) (v:=.agg #[k1,o1,R,J,s1,(A1,o,c1)]) rfl kp kp kp (fun _ _ _ h=>h) (Or.inl ⟨by rfl,?_⟩) ad ?_
   ·intro U hU;try dsimp only at hU
    obtain⟨h0,h1,h2,h3,h4,h5⟩:=hU;go_simp
   try simp only[Act.put,sC]
   refine wpAnyH_take (i:=1) (v:=.pointer (some q)) rfl kp kp kp (fun _ _ _ h=>h) (Or.inl ⟨by rfl,?_⟩) ad ?_
   ·intro U hU;try dsimp only at hU
    obtain⟨h0,h1,h2,h3,h4,h5⟩:=hU;go_simp
   try simp only[Act.put,sC]
   refine wpAnyH_all (rs:=[2]) kp (by simp) ?_;intro j hj;simp only[la]at hj;subst hj;refine jE rfl rfl ?_;go_simp;go_at_call 71;refine (HC _ iR).mono ?_;rintro e w9 ⟨aZ,hY⟩;obtain⟨a,er,rfl,he⟩:=hY;unfold oD;exact⟨rfl,kf HX (ij (im aw0) (ij (ij a4 (im iR)) aZ)) (jz a er he)⟩
  |some y=>
  obtain⟨x9,r9⟩:=y;go_wp2_with fail;go_region_held3 (fun U=>U.cell? ra=k1/\U.cell? (ra,1)=o1/\U.cell? (ra,2)=R/\U.cell? (ra,3)=J/\U.cell? (ra,4)=s1/\U.cell? (ra,5)=(A1,o,c1)) (first | exact HK.out _ iR | exact ax.out _ _ _ _ _ _ _ (HK.out _ iR)) (first | (go_at_call 71;(with_reducible refine (HC.out _ iR).mono ?_);rintro e w9 ⟨aZ,hY⟩;obtain⟨v9,i9,rfl,an,R9,ao,aQ⟩:=hY;obtain⟨⟨k9,o9,t9,z9,s9,A9,c9,a6⟩,aa,rfl,D9⟩:=an;have aM:ik (iz q w4) (iz q w9):=ij (im iR) aZ;have l9:Le (ra+1) w9:=⟨by have h1:=al.le;have h2:=lZ aM;omega⟩;rw[show (Tx.mk k9 o9 t9 z9 s9 A9 c9 a6).val=.agg #[k9,o9,t9,z9,s9,(A9,a6,c9)] from rfl];have aK:=R9.blk.is_le;have a9:=ij a4 aM;have I:qP w9 r oE:=lM (HB.out.after (k:=a9)) a8;obtain⟨n0,n1,n2,n3,n4,n5⟩:=I.cells;have nl:=jo I;have aF:=nL I 0;have aE:=nL I 1;have aD:=nL I 2;have aC:=nL I 3;have aB:=nL I 4;have az:=nL I 5;have R9:=iy R9;have D9:=iy D9;have aw:=iy aa;clear aa));obtain⟨g,hg⟩:=jt (w9.heap.size);have aq:w0<=g:=by have h1:=lZ a9;omega
  obtain⟨ag,ab,av,au,a',ar⟩:∃v,w9.alloc (.cells #[k1,o1,R,J,s1,(A1,o,c1),k9,o9,t9,z9,s9,(A9,a6,c9)] 73)=v/\Hid (Rd B q A c L en eA ec el v i9)/\ik (iz q w0) (iz q v)/\ik w9 v/\iP v g 73 #[k1,o1,R,J,s1,(A1,o,c1),k9,o9,t9,z9,s9,(A9,a6,c9)]:=⟨_,rfl,iy (R9.after iR),ij a9 (im iR),iR,by rw[<- hg];exact jC ..⟩;have a_:qP ag r oE:=mZ (w:=w9) I;have E1:=D2.below (kj (q:=q) iu (ij (ij aT aM) (im a'))).below;have E9:=((D9.sub (iS (by have h1:=lZ a4;exact h1) w9))).below (jK a').below;have DY:=xS (ys:=[.mk k1 o1 R J s1 A1 c1 o,.mk k9 o9 t9 z9 s9 A9 c9 a6]) (yV ar aq) (by intro y hy;simp only[la]at hy;rcases hy with rfl | rfl;exact E1;exact E9) (by simp) 7 0 0 0 ⟨#[]⟩ iI;obtain⟨W,hW,EW,ae,aW,oW,sW⟩:=jY a_ av a8 (ij (im aw0) au) (lI hr) iu (.mk 7 0 0 0 ⟨#[]⟩ (some g) 2 [.mk k1 o1 R J s1 A1 c1 o,.mk k9 o9 t9 z9 s9 A9 c9 a6]);simp only[txs,xT,Nat.reduceAdd]at hW;rw[hg,ab,hW];obtain⟨u0,u1,u2,u3,u4,u5⟩:=EW.cells;simp only[txs,xT,Nat.reduceAdd]at u0 u1 u2 u3 u4 u5;go_wp2;exact jR (v:=.agg #[.int .i64 7,JX,JX,JX,.string ⟨#[]⟩,.slice g 2 2]) (by simp[results,results71,go_sem,u0,u1,u2,u3,u4,u5]) rfl (lN (x:=.mk 7 0 0 0 ⟨#[]⟩ [x1,x9]) (show X=some (.mk 7 0 0 0 ⟨#[]⟩ [x1,x9],L.drop i9) from by rw[ao];exact HX) aW ⟨.mk 7 0 0 0 ⟨#[]⟩ (some g) 2 [.mk k1 o1 R J s1 A1 c1 o,.mk k9 o9 t9 z9 s9 A9 c9 a6],by (rw[qp];simp only[mJ,tW];rw[aj,aw.out]),rfl,(DY.below (oW w0.heap.size iu).below).sub (iS iu W)⟩ ae rfl (by have h1:=ah.out;omega))
 have R3:Hid (Rd B q A c L en eA ec el w3 (i1+1)):=iB RZ;have HX:=iy (HX.trans (iG HZ));rw[tail_drop]at HX;have af:Hid (i0<=i1+1):=wc aG;have b4:=pI HZ;have aT:ik (iz q w2) (iz q w3):=aJ;have aP:=R3.le;have HC:Hid (∀U,ik w3 U->Calls prog 71 #[.pointer q] U (pk B q A c L en eA ec el U (i1+1) (jg el k (L.drop (i1+1))) (VX U))):=fun U hU=>C.e U (i1+1) (R3.after hU) (by have:=ai.out;omega)
 have HX:Hid (X=Option.bind (jg el k (L.drop (i1+1))) _):=HX;generalize aU:jg el k (L.drop (i1+1))=Y at HC HX;have BA:=kq ay a7 aT;have HK:Hid (∀U,ik (iz q w3) (iz q U)->(U.cell? ra=k1/\U.cell? (ra,1)=o1/\U.cell? (ra,2)=R/\U.cell? (ra,3)=J/\U.cell? (ra,4)=s1/\U.cell? (ra,5)=(A1,o,c1))):=fun U hU=>Iy (kq BA a7 hU)
 have al:=jo BA;have FR:∀(V:yM) (j i:Nat) (u:Value),(V.setCell (r,j) u).cell? (ra,i)=V.cell? (ra,i):=fun V j i u=>Dj (Below.heap_setCell V _ u ra (by show ra≠r;omega))
 have ax:Hid (∀(V:yM) (u0 u1 u2 u3 u4 u5:Value),(fun U:yM=>U.cell? ra=k1/\U.cell? (ra,1)=o1/\U.cell? (ra,2)=R/\U.cell? (ra,3)=J/\U.cell? (ra,4)=s1/\U.cell? (ra,5)=(A1,o,c1)) V->(fun U:yM=>U.cell? ra=k1/\U.cell? (ra,1)=o1/\U.cell? (ra,2)=R/\U.cell? (ra,3)=J/\U.cell? (ra,4)=s1/\U.cell? (ra,5)=(A1,o,c1)) ((((((V.setCell r u0).setCell (r,1) u1).setCell (r,2) u2).setCell (r,3) u3).setCell (r,4) u4).setCell (r,5) u5)):=fun V u0 u1 u2 u3 u4 u5 h=>by simp only[FR];exact h
 cases Y with
 |none=>
  go_wp2_with fail;refine wp_region_held (S:=fun U:yM=>U.cell? ra=k1/\U.cell? (ra,1)=o1/\U.cell? (ra,2)=R/\U.cell? (ra,3)=J/\U.cell? (ra,4)=s1/\U.cell? (ra,5)=(A1,o,c1)) kp ?_;have ad:(fun U:yM=>U.cell? ra=k1/\U.cell? (ra,1)=o1/\U.cell? (ra,2)=R/\U.cell? (ra,3)=J/\U.cell? (ra,4)=s1/\U.cell? (ra,5)=(A1,o,c1)) w3.drew:=HK _ iR;refine wpAnyH_take (i:=0) (v:=.agg #[k1,o1,R,J,s1,(A1,o,c1)]) rfl kp kp kp (fun _ _ _ h=>h) (Or.inl ⟨by rfl,?_⟩) ad ?_
  ·intro U hU;try dsimp only at hU
   obtain⟨h0,h1,h2,h3,h4,h5⟩:=hU;go_simp
  try simp only[Act.put,sC]
  refine wpAnyH_take (i:=1) (v:=.pointer (some q)) rfl kp kp kp (fun _ _ _ h=>h) (Or.inl ⟨by rfl,?_⟩) ad ?_
  ·intro U hU;try dsimp only at hU
   obtain⟨h0,h1,h2,h3,h4,h5⟩:=hU;go_simp
  try simp only[Act.put,sC]
  refine wpAnyH_all (rs:=[2]) kp (by simp) ?_;intro j hj;simp only[la]at hj;subst hj;refine jE rfl rfl ?_;go_simp;go_at_call 71;refine (HC _ iR).mono ?_;rintro e w9 ⟨aZ,hY⟩;obtain⟨a,er,rfl,he⟩:=hY;unfold oD;exact⟨rfl,kf HX (ij (im aw0) (ij (ij a3 (im iR)) aZ)) (jz a er he)⟩
 |some y=>
 obtain⟨x9,r9⟩:=y;go_wp2_with fail;go_region_held3 (fun U=>U.cell? ra=k1/\U.cell? (ra,1)=o1/\U.cell? (ra,2)=R/\U.cell? (ra,3)=J/\U.cell? (ra,4)=s1/\U.cell? (ra,5)=(A1,o,c1)) (first | exact HK.out _ iR | exact ax.out _ _ _ _ _ _ _ (HK.out _ iR)) (first | (go_at_call 71;(with_reducible refine (HC.out _ iR).mono ?_);rintro e w9 ⟨aZ,hY⟩;obtain⟨v9,i9,rfl,an,R9,ao,aQ⟩:=hY;obtain⟨⟨k9,o9,t9,z9,s9,A9,c9,a6⟩,aa,rfl,D9⟩:=an;have aM:ik (iz q w3) (iz q w9):=ij (im iR) aZ;have l9:Le (ra+1) w9:=⟨by have h1:=al.le;have h2:=lZ aM;omega⟩;rw[show (Tx.mk k9 o9 t9 z9 s9 A9 c9 a6).val=.agg #[k9,o9,t9,z9,s9,(A9,a6,c9)] from rfl];have aK:=R9.blk.is_le;have a9:=ij a3 aM;have I:qP w9 r oE:=lM (HB.out.after (k:=a9)) a8;obtain⟨n0,n1,n2,n3,n4,n5⟩:=I.cells;have nl:=jo I;have aF:=nL I 0;have aE:=nL I 1;have aD:=nL I 2;have aC:=nL I 3;have aB:=nL I 4;have az:=nL I 5;have R9:=iy R9;have D9:=iy D9;have aw:=iy aa;clear aa));obtain⟨g,hg⟩:=jt (w9.heap.size);have aq:w0<=g:=by have h1:=lZ a9;omega
 obtain⟨ag,ab,av,au,a',ar⟩:∃v,w9.alloc (.cells #[k1,o1,R,J,s1,(A1,o,c1),k9,o9,t9,z9,s9,(A9,a6,c9)] 73)=v/\Hid (Rd B q A c L en eA ec el v i9)/\ik (iz q w0) (iz q v)/\ik w9 v/\iP v g 73 #[k1,o1,R,J,s1,(A1,o,c1),k9,o9,t9,z9,s9,(A9,a6,c9)]:=⟨_,rfl,iy (R9.after iR),ij a9 (im iR),iR,by rw[<- hg];exact jC ..⟩;have a_:qP ag r oE:=mZ (w:=w9) I;have E1:=D2.below (kj (q:=q) iu (ij (ij aT aM) (im a'))).below;have E9:=((D9.sub (iS (by have h1:=lZ a3;exact h1) w9))).below (jK a').below;have DY:=xS (ys:=[.mk k1 o1 R J s1 A1 c1 o,.mk k9 o9 t9 z9 s9 A9 c9 a6]) (yV ar aq) (by intro y hy;simp only[la]at hy;rcases hy with rfl | rfl;exact E1;exact E9) (by simp) 6 0 0 0 ⟨#[]⟩ iI;obtain⟨W,hW,EW,ae,aW,oW,sW⟩:=jY a_ av a8 (ij (im aw0) au) (lI hr) iu (.mk 6 0 0 0 ⟨#[]⟩ (some g) 2 [.mk k1 o1 R J s1 A1 c1 o,.mk k9 o9 t9 z9 s9 A9 c9 a6]);simp only[txs,xT,Nat.reduceAdd]at hW;rw[hg,ab,hW];obtain⟨u0,u1,u2,u3,u4,u5⟩:=EW.cells;simp only[txs,xT,Nat.reduceAdd]at u0 u1 u2 u3 u4 u5;go_wp2;exact jR (v:=.agg #[.int .i64 6,JX,JX,JX,.string ⟨#[]⟩,.slice g 2 2]) (by simp[results,results71,go_sem,u0,u1,u2,u3,u4,u5]) rfl (lN (x:=.mk 6 0 0 0 ⟨#[]⟩ [x1,x9]) (show X=some (.mk 6 0 0 0 ⟨#[]⟩ [x1,x9],L.drop i9) from by rw[ao];exact HX) aW ⟨.mk 6 0 0 0 ⟨#[]⟩ (some g) 2 [.mk k1 o1 R J s1 A1 c1 o,.mk k9 o9 t9 z9 s9 A9 c9 a6],by (rw[qp];simp only[mJ,tW];rw[aj,aw.out]),rfl,(DY.below (oW w0.heap.size iu).below).sub (iS iu W)⟩ ae rfl (by have h1:=af.out;omega))
end
section
variable {P:Program} {ops:Array Oper} {Q:Exit->Act->yM->Prop} {md:Region.Mode} {S:yM->Prop} {late:List Nat}
def zZ (md:Region.Mode) (ops:Array Oper) (late:List Nat) (listed:Array Bool) (i:Nat):Bool:=
 late.all fun j=>!listed.getD j false&&(match ops[j]? with
  |some o=>o.after.any fun e=>Region.binds md e&&(e.on==i||late.contains e.on)
  |none=>true)
def p_ (P:Program) (md:Region.Mode) (ops:Array Oper) (Q:Exit->Act->yM->Prop) (S:yM->Prop) (late:List Nat):Nat->Array Bool->Act->yM->Prop
 |0,listed,a,w=>Region.ready md ops listed=[]/\Q .normal a w
 |fuel+1,listed,a,w=>
 (Region.ready md ops listed=[]->Q .normal a w) /\
 ∀i∈Region.ready md ops listed,wpOp P ops Q i (fun a' w'=>(late.contains i=false->S w')/\p_ P md ops Q S late fuel (listed.setIfInBounds i true) a' w') a w
theorem xU:∀(fuel:Nat) (listed:Array Bool) (a:Act) (w:yM),p_ P md ops Q S late fuel listed a w->wpAny P md ops Q fuel listed a w
 |0,_,_,_,h=>h
 |fuel+1,_,_,_,h=>⟨h.1,fun i hi=>wpOp_mono (fun a' w' h'=>xU fuel _ a' w' h'.2) (h.2 i hi)⟩
theorem C6 {ch:List Nat} {listed:Array Bool} {i j:Nat} (hl:zZ md ops ch listed i=true) (hi:listed.getD i true=false) (hj:j∈Region.ready md ops listed):ch.contains j=false:=by
 cases hc:ch.contains j with
 |false=>rfl
 |true=>
 exfalso;have U:=Bk.1 hl j (by simpa using hc);obtain⟨a1,o,ho,J⟩:=mem_ready.1 hj;rw[ho]at U;simp only[mT,Array.any_eq_true',uG,beq_iff_eq]at U;obtain⟨-,e,he,hb,R⟩:=U;have I:=J e he hb;rcases R with R | R
 ·rw[R]at I
  rcases qa i listed.size with h' | h'
  ·simp[h']at hi I;rw[hi]at I;cases I
  simp[FF h']at I
 have h4:=Bk.1 hl e.on (by simpa using R);simp only[mT,IU]at h4;rw[h4.1]at I;cases I
theorem IW {ch:List Nat} {listed:Array Bool} {i j:Nat} (hl:zZ md ops ch listed i=true) (hj:ch.contains j=false):zZ md ops ch (listed.setIfInBounds j true) i=true:=by
 refine Bk.2 fun k I=>?_
 have J:=Bk.1 hl k I;have o:j≠k:=fun e=>by
  subst e;have:ch.contains j=true:=by simpa using I
  rw[this]at hj;cases hj
 rw[getD_set_ne false o];exact J
theorem FN {i:Nat} {oi:Oper} {v:Value} (hi:ops[i]?=some oi) (hsel:∀(j:Nat) (o:Oper) cs b,ops[j]?=some o->o.op≠.select cs b)
  (hQ:∀c a w,Q (.panic c) (a.put oi.dst v) w->Q (.panic c) a w) (ch:List Nat) (hch:late.all (ch.contains ·)=true) (hil:ch.contains i=false) :
  ∀(fuel:Nat) (listed:Array Bool) (a:Act) (w:yM),zZ md ops ch listed i=true ->
   (∀j oj,ops[j]?=some oj->j≠i->listed.getD j true=false->(∀e∈oj.after,Region.binds md e=true->e.on≠i)->oi.apart ops oj=true) ->
   i∈Region.ready md ops listed->YieldsIf P ops S oi v a->S w ->
   p_ P md ops Q S late fuel (listed.setIfInBounds i true) (a.put oi.dst v) w->p_ P md ops Q S late (fuel+1) listed a w:=by
 intro fuel;induction fuel with
 |zero=>
  intro listed a w _ _ hr hy hS H;refine⟨fun h=>(by rw[h]at hr;cases hr),fun j hj=>?_⟩;by_cases I:j=i
  ·subst I;exact hy.wpOp hi hS ⟨fun _=>hS,H⟩
  have:=ready_mono hj I;rw[H.1]at this;cases this
 |succ fuel ih=>
 intro listed a w hl J hr hy hS H;refine⟨fun h=>(by rw[h]at hr;cases hr),fun j hj=>?_⟩;by_cases I:j=i
 ·subst I;exact hy.wpOp hi hS ⟨fun _=>hS,H⟩
 have a6:=(mem_ready.1 hr).1;have aa:=C6 hl a6 hj;have a_:late.contains j=false:=by
  cases hc:late.contains j with
  |false=>rfl
  |true=>
  have:=Bk.1 hch j (by simpa using hc);rw[aa]at this;cases this
 have h1:=H.2 j (ready_mono hj I);obtain⟨U,oj,a1,ad⟩:=mem_ready.1 hj;have a8:∀e∈oj.after,Region.binds md e=true->e.on≠i:=fun e he hb ag=>by
  have h2:=ad e he hb;rw[ag]at h2;rcases qa i listed.size with h' | h'
  ·simp[h']at a6 h2;rw[a6]at h2;cases h2
  simp[FF h']at h2
 have h2:=wpOp_putIf a1 (J j oj a1 I U a8) (fun cs b=>hsel i oi cs b hi) (fun cs b=>hsel j oj cs b a1) hQ hy h1;have R:∀k ok,ops[k]?=some ok->k≠i->(listed.setIfInBounds j true).getD k true=false ->
   (∀e∈ok.after,Region.binds md e=true->e.on≠i)->oi.apart ops ok=true:=fun k ok hk af a7 ae=>by
  refine J k ok hk af ?_ ae;by_cases ab:j=k
  ·subst ab;exact U
  rw[getD_set_ne true ab]at a7;exact a7
 refine wpOp_mono (fun a' w' h3=>⟨fun _=>h3.2.1 a_,ih (listed.setIfInBounds j true) a' w' (IW hl aa) R (ready_mono hr (ls I)) h3.1 (h3.2.1 a_) ?_⟩) h2;rw[Array.setIfInBounds_comm _ _ I];exact h3.2.2
theorem nZ (i:Nat) (ch:List Nat) {oi:Oper} (v:Value) {fuel:Nat} {listed:Array Bool} {a:Act} {w:yM} (hi:ops[i]?=some oi)
  (hs:Region.noSelect ops=true) (hch:late.all (ch.contains ·)=true) (hl:zZ md ops ch listed i=true) (hil:ch.contains i=false) (hf:Region.free md ops listed i=true) (hr:(Region.ready md ops listed).contains i=true)
  (hQ:∀c a w,Q (.panic c) (a.put oi.dst v) w->Q (.panic c) a w) (hy:YieldsIf P ops S oi v a) (hS:S w)
  (h:p_ P md ops Q S late fuel (listed.setIfInBounds i true) (a.put oi.dst v) w):p_ P md ops Q S late (fuel+1) listed a w:=
 FN hi (Region.noSelect_spec hs) hQ ch hch hil fuel listed a w hl (Region.free_spec hi hf) (by simpa using hr) hy hS h
theorem jX {rs:List Nat} {fuel:Nat} {listed:Array Bool} {a:Act} {w:yM} (hr:Region.ready md ops listed=rs) (hne:rs≠[])
  (h:∀i∈rs,wpOp P ops Q i (fun a' w'=>(late.contains i=false->S w')/\p_ P md ops Q S late fuel (listed.setIfInBounds i true) a' w') a w):p_ P md ops Q S late (fuel+1) listed a w:=
 ⟨fun h0=>absurd (hr▸h0) hne,hr▸h⟩
theorem IM {i:Nat} {o:Oper} {fuel:Nat} {listed:Array Bool} {a:Act} {w:yM} (hr:Region.ready md ops listed=[i]) (hi:ops[i]?=some o) (hg:o.guard=none)
  (h:o.wp P a w (fun a' w'=>(late.contains i=false->S w')/\p_ P md ops Q S late fuel (listed.setIfInBounds i true) a' w') Q):p_ P md ops Q S late (fuel+1) listed a w:=
 jX hr (by simp) fun j hj=>by
  simp only[la]at hj;subst hj;exact jE hi hg h
theorem iT {listed:Array Bool} {a:Act} {w:yM} (hr:Region.ready md ops listed=[]) (h:Q .normal a w) :
  ∀fuel,p_ P md ops Q S late fuel listed a w
 |0=>⟨hr,h⟩
 |_+1=>⟨fun _=>h,by rw[hr];simp⟩
theorem jm {id:Nat} {a:Act} {w:yM} (S:yM->Prop) (late:List Nat) (hm:P.follows .mixedOrders=true)
  (h:p_ P .any ops Q S late ops.size (Array.replicate ops.size false) a w.drew):(Code.region id ops true).wp P Q a w:=
 wp_region_any hm (xU _ _ _ _ h)
end
section
variable {B:yM} {q:Nat} {A:zA} {c:Nat} {L:List Tk} {en:Int} {eA:zA} {ec:Nat} {el:List iW} {wz w1 W0:yM} {i i0:Nat} {α β:Type} {Y:Option (α×List Tk)} {V:α->yM->Value->Prop} {F:α×List Tk->Option β} {X:Option β} {P:Program} {f:FuncId} {args:Array Value} {Q:Ending->yM->Prop}
theorem BC (HC:Calls P f args wz (pk B q A c L en eA ec el w1 i Y V)) (HX:Hid (X=Option.bind Y F)) (a:ik W0 (iz q w1)) (le:Hid (i0<=i))
  (hs:∀w2 x v i2,Y=some (x,L.drop i2)->V x w2 v->Hid (Rd B q A c L en eA ec el w2 i2)->Hid (X=F (x,L.drop i2))->Hid (i0<=i2)->i<=i2->ik (iz q w1) (iz q w2)->ik W0 (iz q w2)->Q (.returned v) w2)
  (hn:∀e w2,X=none->ik W0 (iz q w2)->Fl e->Q e w2:=by
   intro _ w2 HX J hf;obtain⟨a,I,rfl,j⟩:=hf;unfold oD;go_wp2_with fail;first | exact⟨rfl,kf HX (ij (im aw0) J) (jz a I j)⟩ | exact⟨rfl,kf rfl (ij (im aw0) J) (jz a I j)⟩ | exact⟨rfl,kf HX J (jz a I j)⟩):Calls P f args wz Q:=by
 refine HC.mono fun e w2 h=>?_
 obtain⟨o,U⟩:=h;cases Y with
 |none=>exact hn e w2 HX.out (ij a o) U
 |some y=>
 obtain⟨x,r⟩:=y;obtain⟨v,i2,rfl,hv,hR,hr,R⟩:=U;subst hr;exact hs w2 x v i2 rfl hv hR HX.out (jW le.out R) R o (ij a o)
theorem td (HC:Calls P f args wz (pk B q A c L en eA ec el w1 i Y V)) (HX:Hid (X=Option.bind Y F)) (a:ik W0 (iz q w1)) (le:Hid (i0<=i))
  (hs:∀w2 x v i2,V x w2 v->Hid (Rd B q A c L en eA ec el w2 i2)->Hid (X=F (x,L.drop i2))->Hid (i0<=i2)->i<=i2->ik (iz q w1) (iz q w2)->ik W0 (iz q w2)->Q (.returned v) w2)
  (hn:∀e w2,X=none->ik W0 (iz q w2)->Fl e->Q e w2:=by
   intro _ w2 HX I J;obtain⟨a,o,rfl,j⟩:=J;unfold oD;go_wp2_with fail;first | exact⟨rfl,kf HX (ij (im aw0) I) (jz a o j)⟩ | exact⟨rfl,kf rfl (ij (im aw0) I) (jz a o j)⟩ | exact⟨rfl,kf HX I (jz a o j)⟩):Calls P f args wz Q:=
 BC HC HX a le (fun w2 x v i2 _=>hs w2 x v i2) hn
end
section
variable {P:Program} {md:Region.Mode} {ops:Array Oper} {Q:Exit->Act->yM->Prop} {S:yM->Prop} {late:List Nat}
theorem wT (i:Nat) (ch:List Nat) (v:Value) {oi:Oper} {fuel:Nat} {listed:Array Bool} {a:Act} {w:yM} (hS:S w)
  (h:p_ P md ops Q S late fuel (listed.setIfInBounds i true) (a.put oi.dst v) w)
  (hi:ops[i]?=some oi:=by rfl) (hs:Region.noSelect ops=true:=by kernel_rfl) (hch:late.all (ch.contains ·)=true:=by kernel_rfl) (hl:zZ md ops ch listed i=true:=by kernel_rfl) (hil:ch.contains i=false:=by kernel_rfl) (hf:Region.free md ops listed i=true:=by kernel_rfl) (hr:(Region.ready md ops listed).contains i=true:=by kernel_rfl)
  (hQ:∀c a w,Q (.panic c) (a.put oi.dst v) w->Q (.panic c) a w:=by exact fun _ _ _ h=>h)
  (hy:YieldsIf P ops S oi v a:=by
   refine Or.inl ⟨by rfl,?_⟩;intro U j;try dsimp only at j
   first | obtain⟨⟨I,o,J,h3,h4,R⟩,g0,g1,g2,g3,g4,g5⟩:=j | obtain⟨I,o,J,h3,h4,R⟩:=j | obtain⟨I,o,J⟩:=j | obtain⟨I,o⟩:=j | skip
   go_simp):p_ P md ops Q S late (fuel+1) listed a w:=
 nZ i ch v hi hs hch hl hil hf hr hQ hy hS h
theorem lH (i:Nat) {o:Oper} {fuel:Nat} {listed:Array Bool} {a:Act} {w:yM}
  (h:o.wp P a w (fun a' w'=>(late.contains i=false->S w')/\p_ P md ops Q S late fuel (listed.setIfInBounds i true) a' w') Q)
  (hr:Region.ready md ops listed=[i]:=by kernel_rfl) (hi:ops[i]?=some o:=by rfl) (hg:o.guard=none:=by rfl):p_ P md ops Q S late (fuel+1) listed a w:=IM hr hi hg h
end
section
variable {B:yM} {q:Nat} {A:zA} {c:Nat} {L:List Tk} {en:Int} {eA:zA} {ec:Nat} {el:List iW} {w1 W0:yM} {i i0:Nat} {α:Type} {X U V:α} {Q:Ending->yM->Prop}
theorem Dx (bs:yB) (R:Rd B q A c L en eA ec el w1 i) (HX:Hid (X=if jq bs (L.drop i)=true then U else V)) (a:ik W0 (iz q w1)) (le:Hid (i0<=i))
  (hn:∀w2,Hid (Rd B q A c L en eA ec el w2 i)->Hid (X=V)->ik (iz q w1) (iz q w2)->ik W0 (iz q w2)->Hid (i0<=i)->Q (.returned (.bool false)) w2)
  (hy:∀w2,Hid (Rd B q A c L en eA ec el w2 (i+1))->Hid (X=U)->ik (iz q w1) (iz q w2)->ik W0 (iz q w2)->Hid (i0<=i+1)->i<L.length->Q (.returned (.bool true)) w2) :
  Calls prog 35 #[.pointer q,bs] w1 Q:=by
 refine (tB R bs).mono fun e w2 h=>?_
 obtain⟨z,o,rfl,I,j⟩:=h;cases z with
 |false=>exact hn w2 I (Hid.out HX |>.trans (iV (by rw[o];exact yE))) j (ij a j) le
 |true=>exact hy w2 I (Hid.out HX |>.trans (iG o)) j (ij a j) (wc le.out) (pI o)
end
section
variable {B:yM} {q:Nat} {A:zA} {c:Nat} {L:List Tk} {en:Int} {eA:zA} {ec:Nat} {el:List iW} {w w0 w1:yM} {i:Nat}
theorem Ps {k:Nat} (C:CX B q A c L en eA ec el k) (h:Rd B q A c L en eA ec el w i) (hk:20*(L-i)+9<=k+1+6):Calls prog 116 #[.pointer q,(6:Nat)] w (pk B q A c L en eA ec el w i (jB el (k+1) (6:Nat) (L.drop i)) (VX w)):=by
 obtain⟨X,hX⟩:=jt (jB el (k+1) (6:Nat) (L.drop i));rw[hX];obtain⟨R,aa⟩:=jt (i);rw[aa]at hX h hk⊢;have HX:=iy hX.symm;have a7:Hid (R<=R):=js _;have hq:=h.blk.lt;have ab:=h.base;obtain⟨r,hr⟩:=jt (w.heap.size);have I:r≠q:=by omega
 have ak:q<r:=by omega
 obtain⟨w0,a_,aw0,B0,R0,s0⟩:=Ls h hr I #[JX,JX,JX,JX,.string ⟨#[]⟩,()] 73;have HB:=iB B0;have a0:ik (iz q w0) (iz q w0):=iq _;go_in;go_wp2_with fail;try rw[hr]
 try rw[a_]
 have HX:Hid (X=xu el k (L.drop R)):=HX;have HC:=iB (C.u w0 R R0 (by omega));generalize al:xu el k (L.drop R)=Y at HC HX;go_wp2_with fail;refine HC.mono ?_;rintro e w1 ⟨aZ,hY⟩;have aZ:=ij a0 aZ;cases Y with
 |none=>
  obtain⟨a,er,rfl,he⟩:=hY;unfold oD;go_wp2;exact⟨rfl,kf HX (ij (im aw0) aZ) (jz a er he)⟩
 |some y=>
 obtain⟨x1,r1⟩:=y;obtain⟨v1,i1,rfl,a',RZ,hr,hi⟩:=hY;subst hr;have R1:=iB RZ;have a1:=aZ;have a6:Hid (R<=i1):=jW a7 hi;obtain⟨⟨k1,o1,t1,U,s1,A1,c1,j⟩,a8,rfl,D1⟩:=a';have o:(Tx.mk k1 o1 t1 U s1 A1 c1 j).val=.agg #[k1,o1,t1,U,s1,(A1,j,c1)]:=rfl;rw[o];have J:qP w1 r oE:=lM (HB.after (k:=a1)) I;exact rx_ J R1 I a1 aw0 hr a6 HX D1 a8
theorem Pu {k:Nat} (C:CX B q A c L en eA ec el k) (h:Rd B q A c L en eA ec el w i) (hk:20*(L-i)+9<=k+1+2):Calls prog 116 #[.pointer q,(2:Nat)] w (pk B q A c L en eA ec el w i (jB el (k+1) (2:Nat) (L.drop i)) (VX w)):=by
 obtain⟨X,hX⟩:=jt (jB el (k+1) (2:Nat) (L.drop i));rw[hX];obtain⟨R,al⟩:=jt (i);rw[al]at hX h hk⊢;have o:=iy hX.symm;have ai:Hid (R<=R):=js _;have hq:=h.blk.lt;have ao:=h.base;obtain⟨r,hr⟩:=jt (w.heap.size);have a6:r≠q:=by omega
 have au:q<r:=by omega
 obtain⟨w0,ak,aw0,B0,R0,s0⟩:=Ls h hr a6 #[JX,JX,JX,JX,.string ⟨#[]⟩,()] 73;have HB:=iy B0;have a0:ik (iz q w0) (iz q w0):=iq _;go_in;go_wp2_with fail;try rw[hr]
 try rw[ak]
 have o:=iy ((show X=if (2:Int)=2 then (if jq ⟨#[110,111,116]⟩ (L.drop R) then (jB el k 2 (L.drop R).tail).bind fun (a,r)=>some (.mk 3 1 0 0 ⟨#[]⟩ [a],r) else jB el k 3 (L.drop R)) else _ from o).trans (iG rfl));go_wp2_with fail;refine Dx ⟨#[110,111,116]⟩ R0 o a0 ai ?_ ?_
 ·clear o;intro w1 R1 o _ a1 a8
  have HC:=iB (C.l w1 R 3 (by decide) R1 (by omega));have o:Hid (X=jB el k ((3:Nat):Int) (L.drop R)):=o;have HC:=iB (C.l w1 R 3 (by decide) R1 (by omega));generalize aq:jB el k ((3:Nat):Int) (L.drop R)=Y at HC o;go_wp2_with fail;refine HC.mono ?_;rintro e w2 ⟨aZ,hY⟩;have aZ:=ij a1 aZ;cases Y with
  |none=>
   obtain⟨a,er,rfl,he⟩:=hY;unfold oD;go_wp2;exact⟨rfl,kf o (ij (im aw0) aZ) (jz a er he)⟩
  |some y=>
  obtain⟨x2,r2⟩:=y;obtain⟨v2,i2,rfl,a',RZ,hr,hi⟩:=hY;subst hr;have R2:=iB RZ;have a2:=aZ;have a7:Hid (R<=i2):=jW a8 hi;obtain⟨⟨k2,o2,t2,U,s2,A2,c2,j⟩,a_,rfl,D2⟩:=a';have J:(Tx.mk k2 o2 t2 U s2 A2 c2 j).val=.agg #[k2,o2,t2,U,s2,(A2,j,c2)]:=rfl;rw[J];have I:qP w2 r oE:=lM (HB.after (k:=a2)) a6;obtain⟨n0,n1,n2,n3,n4,n5⟩:=I.cells;have nl:=jo I;obtain⟨ah,ag,af,ae,ad,ab⟩:=jU I;have D3:=D2.sub (iS (by have h1:=lZ a1;exact h1) w2);exact rx_ I R2 a6 a2 aw0 hr a7 o D3 a_
 clear o;intro w1 R1 o _ a1 a8 ar;rw[tail_drop]at o;have HC:=iy (C.l w1 (R+1) 2 iI R1 iu);have o:Hid (X=Option.bind (jB el k ((2:Nat):Int) (L.drop (R+1))) _):=o;generalize aq:jB el k ((2:Nat):Int) (L.drop (R+1))=Y at HC o;go_wp2_with fail;refine HC.mono ?_;rintro e w2 ⟨aZ,hY⟩;have aZ:=ij a1 aZ;cases Y with
 |none=>
  obtain⟨a,er,rfl,he⟩:=hY;unfold oD;go_wp2;exact⟨rfl,kf o (ij (im aw0) aZ) (jz a er he)⟩
 |some y=>
 obtain⟨x2,r2⟩:=y;obtain⟨v2,i2,rfl,a',RZ,hr,hi⟩:=hY;subst hr;have R2:=iB RZ;have a2:=aZ;have a7:Hid (R<=i2):=jW a8 hi;obtain⟨⟨k2,o2,t2,U,s2,A2,c2,j⟩,a_,rfl,D2⟩:=a';have J:(Tx.mk k2 o2 t2 U s2 A2 c2 j).val=.agg #[k2,o2,t2,U,s2,(A2,j,c2)]:=rfl;rw[J];obtain⟨g,hg⟩:=jt w2.heap.size;have an:w0.heap.size<=g:=by have h1:=lZ a2;omega
 obtain⟨w3,aj,R3,a3,o3,g3⟩:∃v,w2.alloc (.cells #[k2,o2,t2,U,s2,(A2,j,c2)] 73)=v/\Hid (Rd B q A c L en eA ec el v i2)/\ik (iz q w0) (iz q v)/\ik w2 v/\iP v g 73 #[k2,o2,t2,U,s2,(A2,j,c2)]:=⟨_,rfl,iB (R2.after zc),ij a2 (im zc),zc,by rw[<- hg];exact jC ..⟩;have I:qP w3 r oE:=lM (HB.after (k:=a3)) a6;obtain⟨n0,n1,n2,n3,n4,n5⟩:=I.cells;obtain⟨ah,ag,af,ae,ad,ab⟩:=jU I;have E2:=(D2.sub (iS (by have h1:=lZ a1;exact h1) w2)).below (jK o3).below;have DY:=xS (ys:=[.mk k2 o2 t2 U s2 A2 c2 j]) (yV g3 an) (by intro y hy;simp only[la]at hy;subst hy;exact E2) (by simp) 3 1 0 0 ⟨#[]⟩ iI;go_wp2_with fail;try rw[hg]
 try rw[aj]
 exact rx_ I R3 a6 a3 aw0 hr a7 o DY (by (rw[qp];simp only[mJ,tW];rw[a_]))
end
def nw (r n:Nat) (w:yM):yM:=iz r (old n w)
section
variable {q r n m:Nat} {w w':yM}
theorem tS (hq:q<n) (a:ik (iz q w) (iz q w')):ik (nw r n w) (nw r n w'):=im (kj hq a)
theorem Ii (a:ik w w'):ik (nw r n w) (nw r n w'):=im (jK a)
theorem zV:CU (nw r n w) (old n w):=yI r (old n w)
theorem yo (w:yM) (i:Nat) (v:Value):ik (nw r n w) (nw r n (w.setCell (r,i) v)):=by
 unfold nw;refine⟨⟨rfl,rfl,rfl,by rw[iZ,iZ,ku,ku,jc];exact js _,fun b j=>?_⟩⟩;rw[iZ,ku]at j;by_cases o:b=r
 ·subst o
  have J:=tN (q:=b) (old n w) (by rw[ku];exact j);have I:=tN (q:=b) (old n (w.setCell (b,i) v)) (by rw[ku,jc];exact j);rw[J,I]
 rw[km _ o,km _ o];by_cases e:b<n
 ·rw[qZ w e j,qZ _ e (by rw[jc];exact j)]
 rw[lV w (wb e),lV _ (wb e)];exact Below.heap_setCell w _ v b (by show b≠r;exact o)
theorem FE (o:Obj) (hr:w=r):ik (old n w) (nw r n (w.alloc o)):=by
 have a:ik (old n w) (old n (w.alloc o)):=jK zc;refine⟨⟨a.below.os,a.below.tape,a.below.output,by unfold nw;rw[iZ];exact a.below.size,fun b j=>?_⟩⟩;rw[ku]at j;unfold nw;rw[km _ iu];exact a.below.block b (by rw[ku];exact j)
theorem L8 (hm:n<=m) (hr:r<m) (w:yM):CU (old m w) (nw r n w):=by
 refine⟨by unfold nw;rw[iZ,ku,ku];exact js _,fun b o v j=>?_⟩;by_cases e:b<m
 ·exact (C9 w e j).elim
 have I:=wb e;unfold nw;rw[Dj (w:=old m w) (w':=iz r (old n w)) (a:=(b,o)) ((km (q:=r) (old n w) (by show b≠r;omega)).trans ((lV w (jW hm I)).trans (lV w I).symm))];exact j
theorem JB (w:yM) (u0 u1 u2 u3 u4 u5:Value):ik (nw r n w) (nw r n ((((((w.setCell r u0).setCell (r,1) u1).setCell (r,2) u2).setCell (r,3) u3).setCell (r,4) u4).setCell (r,5) u5)):=
 ij (ij (ij (ij (ij (yo _ 0 _) (yo _ 1 _)) (yo _ 2 _)) (yo _ 3 _)) (yo _ 4 _)) (yo _ 5 _)
theorem iP.nw {b:Nat} {t:TypeId} {cs:Array Value} (h:iP w b t cs) (hb:n<=b) (hr:b≠r):iP (nw r n w) b t cs:=BR (yV h hb) hr
end
section
variable {B:yM} {q:Nat} {A:zA} {c:Nat} {L:List Tk} {en:Int} {eA:zA} {ec:Nat} {el:List iW} {w w0 w1:yM} {i:Nat}
theorem CX.lz {k:Nat} (C:CX B q A c L en eA ec el k) (w:yM) (i:Nat) (n:Int) (h0:0<=n) (h6:n<=6) (R:Rd B q A c L en eA ec el w i) (hk:20*(L-i)+9<=k+n.toNat):Calls prog 116 #[.pointer q,n] w (pk B q A c L en eA ec el w i (jB el k n (L.drop i)) (VX w)):=by
 have:=C.l w i n.toNat iu R hk;rwa [Int.toNat_of_nonneg h0]at this
theorem O4 {k n:Nat} (h5:n<=5) (h2:n≠2) (C:∀j≤k,CX B q A c L en eA ec el j) (h:Rd B q A c L en eA ec el w i) (hk:20*(L-i)+9<=k+1+n):Calls prog 116 #[.pointer q,(n:Nat)] w (pk B q A c L en eA ec el w i (jB el (k+1) (n:Nat) (L.drop i)) (VX w)):=by
 have bb:((n:Int)==2)=false:=by rw[beq_eq_false_iff_ne];omega
 have ba:((n:Int)==6)=false:=by rw[beq_eq_false_iff_ne];omega
 have aX:¬((n:Int)=2):=by omega
 have aV:¬((n:Int)=6):=by omega
 obtain⟨X,hX⟩:=jt (jB el (k+1) (n:Nat) (L.drop i));rw[hX];obtain⟨i0,b1⟩:=jt i;rw[b1]at hX h hk⊢;have I:=iB hX.symm;have aK:Hid (i0<=i0):=js _;have hq:=h.blk.lt;have b2:=h.base;obtain⟨r,hr⟩:=jt w.heap.size;have a_:r≠q:=by omega
 have b':q<r:=by omega
 obtain⟨w0,aR,aw0,B0,R0,s0⟩:=Ls h hr a_ #[JX,JX,JX,JX,.string ⟨#[]⟩,()] 73;have HB:=iB B0;have a0:ik (iz q w0) (iz q w0):=iq _;go_in;go_wp2_with fail;try rw[hr]
 try rw[aR]
 have I:=iB (((show X=if (n:Int)=2 then _ else if (n:Int)=6 then _ else (jB el k ((n:Int)+1) (L.drop i0)).bind fun (a,r)=>sK el k n a r from I).trans (iV aX)).trans (iV aV));have HC:=iB ((C k (js k)).lz w0 i0 ((n:Int)+1) (by omega) (by omega) R0 (by omega));have I:Hid (X=Option.bind (jB el k ((n:Int)+1) (L.drop i0)) _):=I;generalize bg:jB el k ((n:Int)+1) (L.drop i0)=Y at HC I;go_wp2_with fail;refine HC.mono ?_;rintro e w1 ⟨aZ,hY⟩;have aZ:=ij a0 aZ;cases Y with
 |none=>
  obtain⟨a,er,rfl,he⟩:=hY;unfold oD;go_wp2;exact⟨rfl,kf I (ij (im aw0) aZ) (jz a er he)⟩
 |some y=>
 obtain⟨x1,r1⟩:=y;obtain⟨v1,i1,rfl,aT,RZ,hr,hi⟩:=hY;subst hr;have R1:=iB RZ;have a1:=aZ;have av:Hid (i0<=i1):=jW aK hi;obtain⟨⟨k1,o1,t1,z1,s1,A1,c1,a8⟩,aO,rfl,D1⟩:=aT;have ah:(Tx.mk k1 o1 t1 z1 s1 A1 c1 a8).val=.agg #[k1,o1,t1,z1,s1,(A1,a8,c1)]:=rfl;rw[ah];have I:Hid (X=sK el k n x1 (L.drop i1)):=I;obtain⟨ra,ai⟩:=jt w1.heap.size;have bf:r<ra:=by have:=lZ a1;omega
 obtain⟨w2,aQ,BA,R2,a2,D2,l2⟩:∃v,w1.alloc (.cells #[k1,o1,t1,z1,s1,(A1,a8,c1)] 73)=v/\Hid (qP v ra (.mk k1 o1 t1 z1 s1 A1 c1 a8))/\Hid (Rd B q A c L en eA ec el v i1)/\ik (iz q w0) (iz q v)/\Hid (RX (nw ra w0 v) (.mk k1 o1 t1 z1 s1 A1 c1 a8))/\ra<v:=⟨_,rfl,by rw[<- ai];exact jC ..,R1.after zc,ij a1 (im zc),D1.below (FE _ ai).below,by rw[iH];omega⟩;have aY:20*(L-i1)+9<=k+1+n:=by have:=av.out;omega
 go_wp2_with fail;try rw[ai]
 try rw[aQ]
 go_loopw [] (fun wr=>∃(i' m:Nat) (x:Ex) (y:Tx),m<=k/\Hid (i0<=i')/\Hid (y.er=x)/\Hid (X=sK el m n x (L.drop i'))/\20*(L-i')+9<=m+1+n/\Hid (Rd B q A c L en eA ec el wr i')/\Hid (qP wr ra y)/\Hid (RX (nw ra w0 wr) y)/\ik (iz q w0) (iz q wr)) (fun wr=>L.length-lO wr q 2)
 ·exact⟨i1,k,x1,_,js k,av,aO,I,aY,R2,BA,D2,a2⟩
 case round=>
 obtain⟨i2,m,x,⟨k2,o2,t2,z2,s2,A2,c2,o⟩,bc,af,ax,I,bd,R2,BA,D2,aw⟩:=hrel;obtain⟨m,rfl⟩:∃j,m=j+1:=⟨m-1,by omega⟩;have d1:Hid (lO wr q 2=i2):=iB (je R2.fields.2.2.1);have I:Hid (X=match Ia n (L.drop i2) with | none=>some (x,L.drop i2) | some R=>(jB el m ((n:Int)+1) (L.drop i2).tail).bind fun (b,r)=>if (n:Int)=3 then some (.mk 3 R 0 0 ⟨#[]⟩ [x,b],r) else sK el m n (.mk 3 R 0 0 ⟨#[]⟩ [x,b]) r):=I;have HC:=iB (Fv R2 (n:Int));have aA:∀R,Ia n (L.drop i2)=some R->i2<L:=fun R ho=>by rcases qa i2 L with h1 | h1;exact h1;rw[Bn h1]at ho;cases ho
 generalize Ia n (L.drop i2)=O at HC I aA;go_wp2_with fail;refine HC.mono ?_;rintro e w3 ⟨a3,hO⟩;have R3:=iB (R2.after a3);have ae:qP w3 ra (.mk k2 o2 t2 z2 s2 A2 c2 o):=mZ (w:=wr) BA;have D3:Hid (RX (nw ra w0 w3) (.mk k2 o2 t2 z2 s2 A2 c2 o)):=iB (D2.below (Ii a3).below);have aw:=ij aw (im (q:=q) a3);cases O with
 |none=>
  obtain⟨c9,hO⟩:=hO;subst hO;have I:Hid (X=some (x,L.drop i2)):=I;obtain⟨m0,m1,m2,m3,m4,m5⟩:=ae.cells;have ml:=jo ae;obtain⟨au,ar,aq,ao,an,ak⟩:=jU ae;simp only[txs]at m0 m1 m2 m3 m4 m5;have a7:qP w3 r oE:=lM (HB.after (k:=aw)) a_;exact rx_ a7 R3 a_ aw aw0 hr af I (D3.sub zV) ax
 |some R=>
 have hO:e=_:=hO;subst hO;have b0:=aA R rfl;have I:Hid (X=(jB el m ((n:Int)+1) (L.drop i2).tail).bind fun (b,r)=>if (n:Int)=3 then some (.mk 3 R 0 0 ⟨#[]⟩ [x,b],r) else sK el m n (.mk 3 R 0 0 ⟨#[]⟩ [x,b]) r):=I;rw[tail_drop]at I;obtain⟨c0,c1,bj,c3,f2,l0⟩:=R3.fields;have b6:=R3.few;have ab:ra≠q:=by omega
 have az:q<w0:=by omega
 obtain⟨w4,aP,R4,a4,B4,D4,s4⟩:∃v,w3.setCell ⟨q,2,none⟩ (.int .i64 ((i2:Int)+1))=v/\Hid (Rd B q A c L en eA ec el v (i2+1))/\ik (iz q w0) (iz q v)/\qP v ra (.mk k2 o2 t2 z2 s2 A2 c2 o)/\Hid (RX (nw ra w0.heap.size v) (.mk k2 o2 t2 z2 s2 A2 c2 o))/\v.heap.size=w3.heap.size:=⟨_,rfl,R3.move (j:=i2+1) b0,by rw[jJ];exact aw,ae.qU (p:=⟨q,2,none⟩) ab _,D3.below (tS (q:=q) az (by rw[jJ];exact iq _)).below,jc ..⟩;go_wp2_with fail;try rw[aP]
 have HC:Hid (∀U,ik w4 U->Calls prog 116 #[.pointer (some q),.int .i64 ((n:Int)+1)] U (pk B q A c L en eA ec el U (i2+1) (jB el m ((n:Int)+1) (L.drop (i2+1))) (VX U.heap.size))):=fun U hU=>(C m (by omega)).lz U (i2+1) ((n:Int)+1) (by omega) (by omega) (R4.after hU) (by omega)
 generalize jB el m ((n:Int)+1) (L.drop (i2+1))=Y at HC I;have HK:Hid (∀U,ik (iz q w4) (iz q U)->(U.cell? ra=k2/\U.cell? (ra,1)=o2/\U.cell? (ra,2)=t2/\U.cell? (ra,3)=z2/\U.cell? (ra,4)=s2/\U.cell? (ra,5)=(A2,o,c2))):=fun U hU=>Iy (kq B4 ab hU)
 have al:=jo B4;have b_:IntKind.i64.wrap ((n:Int)+1)=(n:Int)+1:=IntWalk.i64_in _ (by omega);refine jm (fun U:yM=>U.cell? ra=k2/\U.cell? (ra,1)=o2/\U.cell? (ra,2)=t2/\U.cell? (ra,3)=z2/\U.cell? (ra,4)=s2/\U.cell? (ra,5)=(A2,o,c2)) [7,8] (by kernel_rfl) ?_;have a':(fun U:yM=>U.cell? ra=k2/\U.cell? (ra,1)=o2/\U.cell? (ra,2)=t2/\U.cell? (ra,3)=z2/\U.cell? (ra,4)=s2/\U.cell? (ra,5)=(A2,o,c2)) w4.drew:=HK _ zc;refine wT 0 [7,8] (.int .i64 R) a' ?_;try simp only[Act.put,oF,oB,oq]
 refine wT 1 [6,7,8] (.agg #[k2,o2,t2,z2,s2,(A2,o,c2)]) a' ?_;try simp only[Act.put,oF,oB,oq]
 refine wT 2 [5,6,7,8] (.pointer q) a' ?_;try simp only[Act.put,oF,oB,oq]
 refine wT 3 [4,5,6,7,8] (.int .i64 (n:Nat)) a' ?_;try simp only[Act.put,oF,oB,oq]
 refine wT 4 [5,6,7,8] (.int .i64 ((n:Int)+1)) a' ?_;try simp only[Act.put,oF,oB,oq]
 refine lH 5 ?_;go_simp;go_at_call 116;refine (HC _ zc).mono ?_;rintro e w9 ⟨aZ,hY⟩;have aM:ik (iz q w4) (iz q w9):=ij (im zc) aZ;cases Y with
 |none=>
  obtain⟨a,er,rfl,he⟩:=hY;unfold oD;exact⟨rfl,kf I (ij (im aw0) (ij a4 aM)) (jz a er he)⟩
 |some y=>
 obtain⟨x9,r9⟩:=y;obtain⟨v9,i9,rfl,aS,R9,aU,be⟩:=hY;subst aU;obtain⟨⟨k9,o9,t9,z9,s9,A9,c9,J⟩,aN,rfl,D9⟩:=aS;have ag:(Tx.mk k9 o9 t9 z9 s9 A9 c9 J).val=.agg #[k9,o9,t9,z9,s9,(A9,J,c9)]:=rfl;rw[ag];have l9:Le (ra+1) w9:=⟨by have h1:=al.le;have h2:=lZ aM;omega⟩;have b7:=R9.blk.is_le
 (first | refine⟨HK _ aM,?_⟩ | refine⟨fun _=>HK _ aM,?_⟩)
 obtain⟨g,hg⟩:=jt w9.heap.size;have b9:w4.heap.size<=g:=by have h2:=lZ aM;omega
 have aL:w0.heap.size<=w4:=by have h2:=lZ a4;exact h2
 have b3:ra<w4:=al.le;obtain⟨w10,ay,b5,ad,aD,b4,aa⟩:∃v,w9.alloc (.cells #[k2,o2,t2,z2,s2,(A2,o,c2),k9,o9,t9,z9,s9,(A9,J,c9)] 73)=v/\Hid (Rd B q A c L en eA ec el v i9)/\ik (iz q w4) (iz q v)/\ik w9 v/\iP v g 73 #[k2,o2,t2,z2,s2,(A2,o,c2),k9,o9,t9,z9,s9,(A9,J,c9)]/\qP v ra (.mk k2 o2 t2 z2 s2 A2 c2 o):=⟨_,rfl,iB (R9.after zc),ij aM (im zc),zc,by rw[<- hg];exact jC ..,iP.alloc (kq B4 ab aM) _⟩;have E2:RX (nw ra w0 w10) (.mk k2 o2 t2 z2 s2 A2 c2 o):=D4.below (tS (q:=q) az ad).below;have E9:RX (nw ra w0 w10) (.mk k9 o9 t9 z9 s9 A9 c9 J):=(D9.sub (L8 (n:=w0.heap.size) (by show w0.heap.size<=w4.drew.heap.size;exact aL) (by show ra<w4.drew.heap.size;exact b3) w9)).below (Ii aD).below;have DY:RX (nw ra w0 w10) (.mk 3 R 0 0 ⟨#[]⟩ (some g) 2 [.mk k2 o2 t2 z2 s2 A2 c2 o,.mk k9 o9 t9 z9 s9 A9 c9 J]):=xS (ys:=[.mk k2 o2 t2 z2 s2 A2 c2 o,.mk k9 o9 t9 z9 s9 A9 c9 J]) (iP.nw b4 (by omega) (by omega)) (by intro y hy;simp only[la]at hy;rcases hy with rfl | rfl;exact E2;exact E9) (by simp) 3 R 0 0 ⟨#[]⟩ (by decide);obtain⟨W,hW,EW,a6,aW,oW,sW⟩:=jY (w0:=w0) aa b5 ab (ij a4 ad) (by omega) (by omega) (.mk 3 R 0 0 ⟨#[]⟩ (some g) 2 [.mk k2 o2 t2 z2 s2 A2 c2 o,.mk k9 o9 t9 z9 s9 A9 c9 J]);simp only[txs,xT,Nat.reduceAdd]at hW;have DW:Hid (RX (nw ra w0 W) (.mk 3 R 0 0 ⟨#[]⟩ (some g) 2 [.mk k2 o2 t2 z2 s2 A2 c2 o,.mk k9 o9 t9 z9 s9 A9 c9 J])):=DY.below (by rw[<- hW];exact (JB _ _ _ _ _ _ _).below)
 refine lH 6 ?_;go_simp;try rw[hg]
 try rw[ay]
 (first | refine⟨HK _ ad,?_⟩ | refine⟨fun _=>HK _ ad,?_⟩)
 have b8:Le (ra+1) w10:=aa.is_le;refine lH 7 ?_;go_simp;try refine kL ?_
 obtain⟨m0,m1,m2,m3,m4,m5⟩:=aa.cells;have ml:=jo aa;obtain⟨au,ar,aq,ao,an,ak⟩:=jU aa;simp only[txs]at m0 m1 m2 m3 m4 m5;refine lH 8 ?_;go_simp;try refine kL ?_
 try rw[hW]
 refine iT (by kernel_rfl) ?_ _;have aB:Hid ((.mk 3 R 0 0 ⟨#[]⟩ (some g) 2 [.mk k2 o2 t2 z2 s2 A2 c2 o,.mk k9 o9 t9 z9 s9 A9 c9 J]:Tx).er=.mk 3 R 0 0 ⟨#[]⟩ [x,x9]):=by (show _=_;rw[qp];simp only[mJ,tW];rw[ax.out,aN])
 have EW:=iB EW;have a6:=iB a6;have aC:Hid (X=if (n:Int)=3 then some (.mk 3 R 0 0 ⟨#[]⟩ [x,x9],L.drop i9) else sK el m n (.mk 3 R 0 0 ⟨#[]⟩ [x,x9]) (L.drop i9)):=I;by_cases h3:(n:Int)=3
 ·skip
  have I:=iB (aC.trans (iG h3));have bh:((n:Int)==3)=true:=by rw[h3];rfl
  have h3:=iB h3;have aj:=EW.out;obtain⟨m0,m1,m2,m3,m4,m5⟩:=aj.cells;have ml:=jo aj;obtain⟨au,ar,aq,ao,an,ak⟩:=jU aj;simp only[txs,xT,Nat.reduceAdd]at m0 m1 m2 m3 m4 m5;have a7:qP W r oE:=lM (HB.after (k:=aW)) a_;obtain⟨n0,n1,n2,n3,n4,n5⟩:=a7.cells;obtain⟨aJ,aI,aH,aG,aF,aE⟩:=jU a7;obtain⟨W,hW,EW,a6,aW,oW,sW⟩:=jY a7 a6 a_ (ij (im aw0) aW) (lI hr) iu (.mk 3 R 0 0 ⟨#[]⟩ (some g) 2 [.mk k2 o2 t2 z2 s2 A2 c2 o,.mk k9 o9 t9 z9 s9 A9 c9 J]);simp only[txs,xT,Nat.reduceAdd]at hW;go_wp2_with fail;try rw[hW]
  obtain⟨u0,u1,u2,u3,u4,u5⟩:=EW.cells;simp only[txs,xT,Nat.reduceAdd]at u0 u1 u2 u3 u4 u5;exact jR (v:=.agg #[.int .i64 3,R,JX,JX,.string ⟨#[]⟩,.slice g 2 2]) (by simp[results,results116,go_sem,u0,u1,u2,u3,u4,u5]) rfl (lN (x:=.mk 3 R 0 0 ⟨#[]⟩ [x,x9]) (show X=some (.mk 3 R 0 0 ⟨#[]⟩ [x,x9],L.drop i9) from I.out) aW ⟨.mk 3 R 0 0 ⟨#[]⟩ (some g) 2 [.mk k2 o2 t2 z2 s2 A2 c2 o,.mk k9 o9 t9 z9 s9 A9 c9 J],aB.out,rfl,(((DW.out.sub zV)).below (oW w0 iu).below).sub (iS iu W)⟩ a6 rfl (by have:=af.out;omega))
 have I:=iy (aC.trans (iV h3));go_wp2;go_roundw
 case rel=>exact⟨i9,m,_,_,iu,iy (by have:=af.out;omega),aB,I,iu,a6,EW,DW,aW⟩
 case measure=>(rw[je a6.out.fields.2.2.1,d1.out];have:=a6.le;omega)
theorem I8 {k n:Nat} (h6:n<=6) (C:∀j≤k,CX B q A c L en eA ec el j) (h:Rd B q A c L en eA ec el w i) (hk:20*(L-i)+9<=k+1+n):Calls prog 116 #[.pointer q,(n:Nat)] w (pk B q A c L en eA ec el w i (jB el (k+1) (n:Nat) (L.drop i)) (VX w)):=by
 by_cases o:n=2
 ·subst o;exact Pu (C k (js k)) h hk
 by_cases h6:n=6
 ·subst h6;exact Ps (C k (js k)) h hk
 exact O4 iu o C h hk
theorem IK {k:Nat} (C:∀j≤k,CX B q A c L en eA ec el j) (h:Rd B q A c L en eA ec el w i) (hk:20*(L-i)+2<=k+1):Calls prog 152 #[.pointer q] w (pk B q A c L en eA ec el w i (xu el (k+1) (L.drop i)) (VX w)):=by
 obtain⟨X,hX⟩:=jt (xu el (k+1) (L.drop i));rw[hX];obtain⟨i0,bF⟩:=jt (i);rw[bF]at hX h hk⊢;have I:=iy hX.symm;have bt:Hid (i0<=i0):=js _;have hq:=h.blk.lt;have bG:=h.base;obtain⟨r,hr⟩:=jt (w.heap.size);have ad:r≠q:=by omega
 have bO:q<r:=by omega
 obtain⟨w0,bA,aw0,B0,R0,s0⟩:=Ls h hr ad #[JX,JX,JX,JX,.string ⟨#[]⟩,()] 73;have HB:=iy B0;have a0:ik (iz q w0) (iz q w0):=iq _;go_in;go_wp2_with fail;try rw[hr]
 try rw[bA]
 have I:Hid (X=if rI (L.drop i0) then (kV el k (L.drop i0)).bind fun (e,r)=>mO el k e r else if jq ⟨#[45]⟩ (L.drop i0) then (xu el k (L.drop i0).tail).bind fun (a,r)=>some (.mk 3 2 0 0 ⟨#[]⟩ [a],r) else if jq ⟨#[112,114,101]⟩ (L.drop i0) then (xu el k (L.drop i0).tail).bind fun (a,r)=>some (.mk 5 0 0 0 ⟨#[]⟩ [a],r) else (kV el k (L.drop i0)).bind fun (e,r)=>mO el k e r):=I;have HC:=iy (ze R0);obtain⟨z,hz⟩:=jt (rI (L.drop i0));rw[hz]at HC;have HZ:=iy hz;go_wp2_with fail;refine HC.mono ?_;rintro e w1 ⟨rfl,aN⟩;have R1:=iy (R0.after aN);have a1:=ij a0 (im (q:=q) aN);have bj:=bt;cases z
 ·skip
  have I:=iy (I.trans (iV (Qa HZ)));go_wp2_with fail;refine Dx ⟨#[45]⟩ R1 I a1 bj ?_ ?_
  ·clear I;intro w2 R2 I _ a2 az
   go_wp2_with fail;refine Dx ⟨#[112,114,101]⟩ R2 I a2 az ?_ ?_
   ·clear I;intro w3 R3 I _ a3 aB
    go_wp2_with fail;refine BC ((C k (js k)).p w3 i0 R3 (by omega)) I a3 aB ?_;clear I;intro w4 x4 v4 i4 bR b9 R4 I aP bE bJ a4;obtain⟨⟨kP,oP,tP,zP,sP,AP,cP,a_⟩,b6,rfl,DP⟩:=b9;have ar:(Tx.mk kP oP tP zP sP AP cP a_).val=.agg #[kP,oP,tP,zP,sP,(AP,a_,cP)]:=rfl;rw[ar];have I:Hid (X=mO el k x4 (L.drop i4)):=I;obtain⟨ra,av⟩:=jt w4.heap.size;have bH:r<ra:=by have:=lZ a4;omega
    have DP:=DP.sub (iS (by have h1:=lZ a3;exact h1) w4);obtain⟨vL,b8,BA,RL,aL,DL,lL⟩:∃v,w4.alloc (.cells #[kP,oP,tP,zP,sP,(AP,a_,cP)] 73)=v/\Hid (qP v ra (.mk kP oP tP zP sP AP cP a_))/\Hid (Rd B q A c L en eA ec el v i4)/\ik (iz q w0) (iz q v)/\Hid (RX (nw ra w0 v) (.mk kP oP tP zP sP AP cP a_))/\ra<v:=⟨_,rfl,by rw[<- av];exact jC ..,R4.after zc,ij a4 (im zc),DP.below (FE _ av).below,by rw[iH];omega⟩;have b_:L-i4+1<=k:=by have:=aP.out;omega
    go_wp2_with fail;try rw[av]
    try rw[b8]
    go_loopw [] (fun wr=>∃(i' m:Nat) (x:Ex) (y:Tx),Hid (i0<=i')/\Hid (y.er=x)/\Hid (X=mO el m x (L.drop i'))/\L.length-i'+1<=m/\Hid (Rd B q A c L en eA ec el wr i')/\Hid (qP wr ra y)/\Hid (RX (nw ra w0 wr) y)/\ik (iz q w0) (iz q wr)) (fun wr=>L.length-lO wr q 2)
    ·exact⟨i4,k,x4,_,aP,b6,I,b_,RL,BA,DL,aL⟩
    case round=>
    obtain⟨iL,m,x,⟨kL,oL,tL,zL,sL,AL,cL,J⟩,aq,aE,I,bD,RL,BA,DL,aw⟩:=hrel;obtain⟨m,rfl⟩:∃j,m=j+1:=⟨m-1,by omega⟩;have d1:Hid (lO wr q 2=iL):=iB (je RL.fields.2.2.1);have ay:ra≠q:=by omega
    have aI:q<w0:=by omega
    have I:Hid (X=if jq ⟨#[119,104,101,110]⟩ (L.drop iL) then (mD el (L.drop iL).tail).bind fun (o,r)=>mO el m (.mk 8 0 o.t o.tag o.name [x]) r else some (x,L.drop iL)):=I;have bg:=RL;have bd:=aw;have aD:=aq;have aR:ik (iz q wr) (iz q wr):=iq _;go_wp2_with fail;refine Dx ⟨#[119,104,101,110]⟩ bg I bd aD ?_ ?_
    ·clear I;intro a8 al I a' ae ai
     have aR:ik (iz q wr) (iz q a8):=a';have a6:qP a8 ra (.mk kL oL tL zL sL AL cL J):=kq BA ay aR;have D3:RX (nw ra w0 a8) (.mk kL oL tL zL sL AL cL J):=DL.below (tS (q:=q) aI aR).below;have I:Hid (X=some (x,L.drop iL)):=I;obtain⟨m0,m1,m2,m3,m4,m5⟩:=a6.cells;have ml:=jo a6;obtain⟨b5,b3,b2,b1,b0,aZ⟩:=jU a6;simp only[txs]at m0 m1 m2 m3 m4 m5;have U:qP a8 r oE:=lM (HB.after (k:=ae)) ad;exact rx_ U al ad ae aw0 hr aq I (D3.sub zV) aE
    clear I;intro a8 al I a' ae ai ah;rw[tail_drop]at I;have aR:ik (iz q wr) (iz q a8):=a';have bk:=al.le;go_wp2_with fail;refine BC (qW al) I ae ai ?_;clear I;intro ao aa bl ab bL aH bf I aC ak aJ bK;obtain⟨rfl,aj⟩:=aH;have I:Hid (X=mO el m (.mk 8 0 aa.t aa.tag aa.name [x]) (L.drop ab)):=I;obtain⟨xn,xt,xg⟩:=aa;simp only[]at I aj;obtain⟨b4,ax⟩:=jt (ao.heap.size);have bw:w0.heap.size<=wr:=by have h2:=lZ aw;exact h2
    have aO:=BA.out;have bI:ra<wr:=aO.is_le.le;have aX:ik (iz q wr) (iz q ao):=by have:=aJ;exact ij aR this
    have bu:wr<=b4:=by have h2:=lZ aX;omega
    obtain⟨an,aF,be,aK,bc,af⟩:∃v,ao.alloc (.cells #[xn,xt,xg] 178)=v/\Hid (Rd B q A c L en eA ec el v ab)/\ik (iz q wr) (iz q v)/\v=b4+1/\iP v b4 178 #[xn,xt,xg]:=⟨_,rfl,iB (bf.after zc),ij aX (im zc),by rw[iH,ax],by rw[<- ax];exact jC ..⟩;have a6:qP an ra (.mk kL oL tL zL sL AL cL J):=kq aO ay aK;obtain⟨g,hg⟩:=jt (b4+1);obtain⟨aA,aG,bh,aM,bs,bb,ag⟩:∃v,an.alloc (.cells #[kL,oL,tL,zL,sL,(AL,J,cL)] 73)=v/\Hid (Rd B q A c L en eA ec el v ab)/\ik (iz q wr) (iz q v)/\ik an v/\iP v g 73 #[kL,oL,tL,zL,sL,(AL,J,cL)]/\qP v ra (.mk kL oL tL zL sL AL cL J):=⟨_,rfl,iB (be.after zc),ij aK (im zc),zc,by rw[<- hg,<- bc];exact jC ..,iP.alloc a6 _⟩;have E2:RX (nw ra w0 aA) (.mk kL oL tL zL sL AL cL J):=DL.below (tS (q:=q) aI aM).below;have DY:RX (nw ra w0 aA) (.mk 8 0 xt xg xn (some ⟨g,0,none⟩) 1 [.mk kL oL tL zL sL AL cL J]):=xS (ys:=[.mk kL oL tL zL sL AL cL J]) (iP.nw bb (by omega) (by omega)) (by intro y hy;simp only[la]at hy;subst hy;exact E2) (by simp) 8 0 xt xg xn aj;obtain⟨W,hW,EW,R,aW,oW,sW⟩:=jY (w0:=w0) ag bh ay (ij aw aM) iu iu (.mk 8 0 xt xg xn (some ⟨g,0,none⟩) 1 [.mk kL oL tL zL sL AL cL J]);simp only[txs,xT,Nat.reduceAdd]at hW;have DW:Hid (RX (nw ra w0 W) (.mk 8 0 xt xg xn (some ⟨g,0,none⟩) 1 [.mk kL oL tL zL sL AL cL J])):=DY.below (by rw[<- hW];exact (JB _ _ _ _ _ _ _).below)
    have ba:Hid ((.mk 8 0 xt xg xn (some g) 1 [.mk kL oL tL zL sL AL cL J]:Tx).er=.mk 8 0 xt xg xn [x]):=by (show _=_;rw[qp];simp only[mJ,tW];rw[aE.out])
    have EW:=iy EW;have R:=iy R;obtain⟨m0,m1,m2,m3,m4,m5⟩:=a6.cells;have ml:=jo a6;obtain⟨b5,b3,b2,b1,b0,aZ⟩:=jU a6;simp only[txs]at m0 m1 m2 m3 m4 m5;obtain⟨p0,p1,p2,p3,p4,p5⟩:=ag.cells;have pl:=jo ag;obtain⟨br,bq,bp,bo,bn,bm⟩:=jU ag;simp only[txs]at p0 p1 p2 p3 p4 p5;have q0:=(af.cell 0).trans rfl;have q1:=(af.cell 1).trans rfl;have q2:=(af.cell 2).trans rfl;have lq:=af.is_le;have hW:=iy hW;go_wp2_with fail;try rw[ax]
    try rw[aF]
    try rw[hg]
    try rw[aG]
    try rw[hW.out]
    go_roundw
    case rel=>exact⟨ab,m,_,_,iy (by have h1:=aq.out;have h2:=aC.out;omega),ba,I,by have h2:=ak;have h3:=ah;omega,R,EW,DW,aW⟩
    case measure=>(rw[je R.out.fields.2.2.1,d1.out];have h1:=ak;have h2:=ah;have:=R.le;omega)
   clear I;intro w3 R3 I _ a3 aB bM;rw[tail_drop]at I;have bk:=R3.le;go_wp2_with fail;refine td ((C k (js k)).u w3 (i0+1) R3 iu) I a3 aB ?_;clear I;intro w4 x4 v4 i4 b9 R4 I aP bE bJ a4;obtain⟨⟨k9,o9,t9,z9,s9,A9,c9,a7⟩,b7,rfl,D9⟩:=b9;have au:(Tx.mk k9 o9 t9 z9 s9 A9 c9 a7).val=.agg #[k9,o9,t9,z9,s9,(A9,a7,c9)]:=rfl;rw[au];obtain⟨g,hg⟩:=jt (w4.heap.size);have b':w0<=g:=by have h1:=lZ a4;omega
   obtain⟨w5,bx,R5,a5,o5,g5⟩:∃v,w4.alloc (.cells #[k9,o9,t9,z9,s9,(A9,a7,c9)] 73)=v/\Hid (Rd B q A c L en eA ec el v i4)/\ik (iz q w0) (iz q v)/\ik w4 v/\iP v g 73 #[k9,o9,t9,z9,s9,(A9,a7,c9)]:=⟨_,rfl,iy (R4.after iR),ij a4 (im iR),iR,by rw[<- hg];exact jC ..⟩;have U:qP w5 r oE:=lM (HB.after (k:=a5)) ad;obtain⟨n0,n1,n2,n3,n4,n5⟩:=U.cells;have nl:=jo U;obtain⟨aY,aV,aU,aT,aS,aQ⟩:=jU U;have E2:=(D9.sub (iS (by have h1:=lZ a3;exact h1) w4)).below (jK o5).below;have DY:=xS (ys:=[.mk k9 o9 t9 z9 s9 A9 c9 a7]) (yV g5 b') (by intro y hy;simp only[la]at hy;subst hy;exact E2) (by simp) 5 0 0 0 ⟨#[]⟩ iI;go_wp2_with fail;try rw[hg]
   try rw[bx]
   exact rx_ U R5 ad a5 aw0 hr aP I DY (by (rw[qp];simp only[mJ,tW];rw[b7]))
  clear I;intro w2 R2 I _ a2 az bN;rw[tail_drop]at I;have bk:=R2.le;go_wp2_with fail;refine td ((C k (js k)).u w2 (i0+1) R2 iu) I a2 az ?_;clear I;intro w3 x3 v3 i3 bB R3 I aB bP bS a3;obtain⟨⟨k9,o9,t9,z9,s9,A9,c9,a7⟩,b7,rfl,D9⟩:=bB;have au:(Tx.mk k9 o9 t9 z9 s9 A9 c9 a7).val=.agg #[k9,o9,t9,z9,s9,(A9,a7,c9)]:=rfl;rw[au];obtain⟨g,hg⟩:=jt (w3.heap.size);have b':w0<=g:=by have h1:=lZ a3;omega
  obtain⟨w4,bz,R4,a4,o4,g4⟩:∃v,w3.alloc (.cells #[k9,o9,t9,z9,s9,(A9,a7,c9)] 73)=v/\Hid (Rd B q A c L en eA ec el v i3)/\ik (iz q w0) (iz q v)/\ik w3 v/\iP v g 73 #[k9,o9,t9,z9,s9,(A9,a7,c9)]:=⟨_,rfl,iy (R3.after iR),ij a3 (im iR),iR,by rw[<- hg];exact jC ..⟩;have U:qP w4 r oE:=lM (HB.after (k:=a4)) ad;obtain⟨n0,n1,n2,n3,n4,n5⟩:=U.cells;have nl:=jo U;obtain⟨aY,aV,aU,aT,aS,aQ⟩:=jU U;have E2:=(D9.sub (iS (by have h1:=lZ a2;exact h1) w3)).below (jK o4).below;have DY:=xS (ys:=[.mk k9 o9 t9 z9 s9 A9 c9 a7]) (yV g4 b') (by intro y hy;simp only[la]at hy;subst hy;exact E2) (by simp) 3 2 0 0 ⟨#[]⟩ iI;go_wp2_with fail;try rw[hg]
  try rw[bz]
  exact rx_ U R4 ad a4 aw0 hr aB I DY (by (rw[qp];simp only[mJ,tW];rw[b7]))
 have I:=iy (I.trans (iG HZ));go_wp2_with fail;refine td ((C k (js k)).p w1 i0 R1 iu) I a1 bj ?_;clear I;intro w2 x2 v2 i2 bC R2 I az bQ bT a2;obtain⟨⟨kP,oP,tP,zP,sP,AP,cP,a_⟩,b6,rfl,DP⟩:=bC;have ar:(Tx.mk kP oP tP zP sP AP cP a_).val=.agg #[kP,oP,tP,zP,sP,(AP,a_,cP)]:=rfl;rw[ar];have I:Hid (X=mO el k x2 (L.drop i2)):=I;obtain⟨ra,av⟩:=jt (w2.heap.size);have bH:r<ra:=by have:=lZ a2;omega
 have DP:=DP.sub (iS (by have h1:=lZ a1;exact h1) w2);obtain⟨vL,b8,BA,RL,aL,DL,lL⟩:∃v,w2.alloc (.cells #[kP,oP,tP,zP,sP,(AP,a_,cP)] 73)=v/\Hid (qP v ra (.mk kP oP tP zP sP AP cP a_))/\Hid (Rd B q A c L en eA ec el v i2)/\ik (iz q w0) (iz q v)/\Hid (RX (nw ra w0 v) (.mk kP oP tP zP sP AP cP a_))/\ra<v:=⟨_,rfl,by rw[<- av];exact jC ..,R2.after iR,ij a2 (im iR),DP.below (FE _ av).below,by rw[iH];omega⟩;have b_:L-i2+1<=k:=by have:=az.out;omega
 go_wp2_with fail;try rw[av]
 try rw[b8]
 go_loopw [] (fun wr=>∃(i' m:Nat) (x:Ex) (y:Tx),Hid (i0<=i')/\Hid (y.er=x)/\Hid (X=mO el m x (L.drop i'))/\L.length-i'+1<=m/\Hid (Rd B q A c L en eA ec el wr i')/\Hid (qP wr ra y)/\Hid (RX (nw ra w0 wr) y)/\ik (iz q w0) (iz q wr)) (fun wr=>L.length-lO wr q 2)
 ·exact⟨i2,k,x2,_,az,b6,I,b_,RL,BA,DL,aL⟩
 case round=>
 obtain⟨iL,m,x,⟨kL,oL,tL,zL,sL,AL,cL,J⟩,aq,aE,I,bD,RL,BA,DL,aw⟩:=hrel;obtain⟨m,rfl⟩:∃j,m=j+1:=⟨m-1,iu⟩;have d1:Hid (lO wr q 2=iL):=iy (je RL.fields.2.2.1);have ay:ra≠q:=iu;have aI:q<w0:=iu;have I:Hid (X=if jq ⟨#[119,104,101,110]⟩ (L.drop iL) then (mD el (L.drop iL).tail).bind fun (o,r)=>mO el m (.mk 8 0 o.t o.tag o.name [x]) r else some (x,L.drop iL)):=I;have bg:=RL;have bd:=aw;have aD:=aq;have aR:ik (iz q wr) (iz q wr):=iq _;go_wp2_with fail;refine Dx ⟨#[119,104,101,110]⟩ bg I bd aD ?_ ?_
 ·clear I;intro a8 al I a' ae ai
  have aR:ik (iz q wr) (iz q a8):=a';have a6:qP a8 ra (.mk kL oL tL zL sL AL cL J):=kq BA ay aR;have D3:RX (nw ra w0 a8) (.mk kL oL tL zL sL AL cL J):=DL.below (tS (q:=q) aI aR).below;have I:Hid (X=some (x,L.drop iL)):=I;obtain⟨m0,m1,m2,m3,m4,m5⟩:=a6.cells;have ml:=jo a6;obtain⟨b5,b3,b2,b1,b0,aZ⟩:=jU a6;simp only[txs]at m0 m1 m2 m3 m4 m5;have U:qP a8 r oE:=lM (HB.after (k:=ae)) ad;exact rx_ U al ad ae aw0 hr aq I (D3.sub zV) aE
 clear I;intro a8 al I a' ae ai ah;rw[tail_drop]at I;have aR:ik (iz q wr) (iz q a8):=a';go_wp2_with fail;refine td (qW al) I ae ai ?_;clear I;intro ao aa bl ab aH bf I aC ak aJ bK;obtain⟨rfl,aj⟩:=aH;have I:Hid (X=mO el m (.mk 8 0 aa.t aa.tag aa.name [x]) (L.drop ab)):=I;obtain⟨xn,xt,xg⟩:=aa;simp only[]at I aj;obtain⟨b4,ax⟩:=jt (ao.heap.size);have bw:w0.heap.size<=wr:=by have h2:=lZ aw;exact h2
 have aO:=BA.out;have bI:ra<wr:=aO.is_le.le;have aX:ik (iz q wr) (iz q ao):=by have:=aJ;exact ij aR this
 have bu:wr<=b4:=by have h2:=lZ aX;omega
 obtain⟨an,aF,be,aK,bc,af⟩:∃v,ao.alloc (.cells #[xn,xt,xg] 178)=v/\Hid (Rd B q A c L en eA ec el v ab)/\ik (iz q wr) (iz q v)/\v=b4+1/\iP v b4 178 #[xn,xt,xg]:=⟨_,rfl,iy (bf.after iR),ij aX (im iR),by rw[iH,ax],by rw[<- ax];exact jC ..⟩;have a6:qP an ra (.mk kL oL tL zL sL AL cL J):=kq aO ay aK;obtain⟨g,hg⟩:=jt (b4+1);obtain⟨aA,aG,bh,aM,bs,bb,ag⟩:∃v,an.alloc (.cells #[kL,oL,tL,zL,sL,(AL,J,cL)] 73)=v/\Hid (Rd B q A c L en eA ec el v ab)/\ik (iz q wr) (iz q v)/\ik an v/\iP v g 73 #[kL,oL,tL,zL,sL,(AL,J,cL)]/\qP v ra (.mk kL oL tL zL sL AL cL J):=⟨_,rfl,iy (be.after iR),ij aK (im iR),iR,by rw[<- hg,<- bc];exact jC ..,iP.alloc a6 _⟩;have E2:RX (nw ra w0 aA) (.mk kL oL tL zL sL AL cL J):=DL.below (tS (q:=q) aI aM).below;have DY:RX (nw ra w0 aA) (.mk 8 0 xt xg xn (some g) 1 [.mk kL oL tL zL sL AL cL J]):=xS (ys:=[.mk kL oL tL zL sL AL cL J]) (iP.nw bb iu iu) (by intro y hy;simp only[la]at hy;subst hy;exact E2) (by simp) 8 0 xt xg xn aj;obtain⟨W,hW,EW,R,aW,oW,sW⟩:=jY (w0:=w0) ag bh ay (ij aw aM) iu iu (.mk 8 0 xt xg xn (some g) 1 [.mk kL oL tL zL sL AL cL J]);simp only[txs,xT,Nat.reduceAdd]at hW;have DW:Hid (RX (nw ra w0 W) (.mk 8 0 xt xg xn (some g) 1 [.mk kL oL tL zL sL AL cL J])):=DY.below (by rw[<- hW];exact (JB _ _ _ _ _ _ _).below);have ba:Hid ((.mk 8 0 xt xg xn (some g) 1 [.mk kL oL tL zL sL AL cL J]:Tx).er=.mk 8 0 xt xg xn [x]):=by (show _=_;rw[qp];simp only[mJ,tW];rw[aE.out])
 have EW:=iy EW;have R:=iB R;obtain⟨m0,m1,m2,m3,m4,m5⟩:=a6.cells;have ml:=jo a6;obtain⟨b5,b3,b2,b1,b0,aZ⟩:=jU a6;simp only[txs]at m0 m1 m2 m3 m4 m5;obtain⟨p0,p1,p2,p3,p4,p5⟩:=ag.cells;have pl:=jo ag;obtain⟨br,bq,bp,bo,bn,bm⟩:=jU ag;simp only[txs]at p0 p1 p2 p3 p4 p5;have q0:=(af.cell 0).trans rfl;have q1:=(af.cell 1).trans rfl;have q2:=(af.cell 2).trans rfl;have lq:=af.is_le;have hW:=iB hW;go_wp2_with fail;try rw[ax]
 try rw[aF]
 try rw[hg]
 try rw[aG]
 try rw[hW.out]
 go_roundw
 case rel=>exact⟨ab,m,_,_,iB (by have h1:=aq.out;have h2:=aC.out;omega),ba,I,by have h2:=ak;have h3:=ah;omega,R,EW,DW,aW⟩
 case measure=>(rw[je R.out.fields.2.2.1,d1.out];have h1:=ak;have h2:=ah;have:=R.le;omega)
def BZ (w:yM) (z:Bool) (e:Ending) (w':yM):Prop:=ik w w'/\((z=true/\e=.returned (.tuple #[]))\/(z=false/\Fl e))
theorem K2 (h:Rd B q A c L en eA ec el w i) (t v:Int) (kn:Bool) (htf:(jq ⟨#[116,114,117,101]⟩ (L.drop i)||jq ⟨#[102,97,108,115,101]⟩ (L.drop i))=true):Calls prog 188 #[.pointer q,t,v,kn] w (BZ w (lk el t v kn (L.drop i))):=by
 have J:Hid (lk el t v kn (L.drop i)=!((kn&&!(t==1))||!(jq ⟨#[116,114,117,101]⟩ (L.drop i)==(v==1))||(!kn&&!jq ⟨#[116,114,117,101]⟩ (L.drop i)))):=by
  show _=_
  unfold lk;rw[iG htf]
 have H1:Hid (∀U,ik w U->Calls prog 30 #[.pointer (some q),.string ⟨#[116,114,117,101]⟩] U fun e w'=>e=.returned (.bool (jq ⟨#[116,114,117,101]⟩ (L.drop i)))/\ik U w'):=fun U hU=>nK (h.after hU) _
 have H2:Hid (∀U,ik w U->Calls prog 30 #[.pointer (some q),.string ⟨#[102,97,108,115,101]⟩] U fun e w'=>e=.returned (.bool (jq ⟨#[102,97,108,115,101]⟩ (L.drop i)))/\ik U w'):=fun U hU=>nK (h.after hU) _
 generalize jq ⟨#[116,114,117,101]⟩ (L.drop i)=z1 at H1 J htf;generalize jq ⟨#[102,97,108,115,101]⟩ (L.drop i)=z2 at H2 htf;generalize lk el t v kn (L.drop i)=X at J;obtain⟨zt,R⟩:=jt ((t==1));obtain⟨zv,a6⟩:=jt ((v==1));rw[R,a6]at J;have a7:(t != 1)=!zt:=by rw[<- R];rfl
 have hb:=iy h.le;have H:=iB h;have I:z1=false->z2=true:=by intro e;rw[e]at htf;simpa using htf
 cases z1
 ·obtain rfl:=I rfl
  cases kn<;>cases zt<;>cases zv <;>
  ·go_in
   go_wp2_with fail;refine (H1 _ zc).mono ?_;rintro e w1 ⟨rfl,a1⟩;go_wp2_with fail;refine (H2 _ a1).mono ?_;rintro e w2 ⟨rfl,a2⟩;have a2:=ij a1 a2;go_wp2_with fail;refine (H1 _ a2).mono ?_;rintro e w3 ⟨rfl,j⟩;have j:=ij a2 j;have R3:=H.after j;obtain⟨c0,c1,c2,c3,f2,l0⟩:=R3.fields;have HF:=iB (nj R3 i (by omega) 5);go_wp2_with fail;first
   |(go_end0
     exact⟨j,.inl ⟨by rw[J.out];rfl,rfl⟩⟩)
   |(refine HF.mono ?_
     rintro e w4 ⟨⟨a,rfl⟩,a4⟩;have o:=jz a 5 iI;unfold oD at o⊢;go_wp2;exact⟨rfl,ij j a4,.inr ⟨by rw[J.out];rfl,o⟩⟩)
 ·clear I
  cases kn<;>cases zt<;>cases zv <;>
  ·go_in
   go_wp2_with fail;refine (H1 _ iR).mono ?_;rintro e w1 ⟨rfl,a1⟩;go_wp2_with fail;refine (H1 _ a1).mono ?_;rintro e w3 ⟨rfl,j⟩;have j:=ij a1 j;have R3:=H.after j;obtain⟨c0,c1,c2,c3,f2,l0⟩:=R3.fields;have HF:=iy (nj R3 i iu 5);go_wp2_with fail;first
   |(go_end0
     exact⟨j,.inl ⟨by rw[J.out];rfl,rfl⟩⟩)
   |(refine HF.mono ?_
     rintro e w4 ⟨⟨a,rfl⟩,a4⟩;have o:=jz a 5 iI;unfold oD at o⊢;go_wp2;exact⟨rfl,ij j a4,.inr ⟨by rw[J.out];rfl,o⟩⟩)
theorem Lv (h:Rd B q A c L en eA ec el w i) (t v:Int) (kn:Bool) (htf:(jq ⟨#[116,114,117,101]⟩ (L.drop i)||jq ⟨#[102,97,108,115,101]⟩ (L.drop i))=false):Calls prog 188 #[.pointer q,t,v,kn] w (BZ w (lk el t v kn (L.drop i))):=by
 have I:Hid (lk el t v kn (L.drop i)=(ju 1 (L.drop i)&&(match qh el (Cb (L.drop i)) with
  |some (u,x)=>!((kn&&(!(u==t)||!(x==v)))||(!kn&&!(x==0)))
  |none=>!kn))):=by
  show _=_
  unfold lk;rw[iV (by rw[htf];exact yE)];rfl
 have H1:Hid (∀U,ik w U->Calls prog 30 #[.pointer (some q),.string ⟨#[116,114,117,101]⟩] U fun e w'=>e=.returned (.bool (jq ⟨#[116,114,117,101]⟩ (L.drop i)))/\ik U w'):=fun U j=>nK (h.after j) _
 have H2:Hid (∀U,ik w U->Calls prog 30 #[.pointer (some q),.string ⟨#[102,97,108,115,101]⟩] U fun e w'=>e=.returned (.bool (jq ⟨#[102,97,108,115,101]⟩ (L.drop i)))/\ik U w'):=fun U j=>nK (h.after j) _
 have H3:Hid (∀U,ik w U->Calls prog 34 #[.pointer (some q),.int .i64 1] U fun e w'=>e=.returned (.bool (ju 1 (L.drop i)))/\ik U w'):=fun U j=>qv (h.after j) _
 rw[Bool.or_eq_false_iff]at htf;rw[htf.1]at H1;rw[htf.2]at H2;have a':ju 1 (L.drop i)=true->i<L:=rX;generalize ju 1 (L.drop i)=zk at H3 I a';obtain⟨b1,b2,b3,b4⟩:=h.bounds;cases zk
 ·have I:Hid (lk el t v kn (L.drop i)=false):=I
  generalize lk el t v kn (L.drop i)=X at I;have H:=iy h;go_in;go_wp2_with fail;refine (H1 _ iR).mono ?_;rintro e w1 ⟨rfl,a1⟩;go_wp2_with fail;refine (H2 _ a1).mono ?_;rintro e w2 ⟨rfl,a2⟩;have a2:=ij a1 a2;go_wp2_with fail;refine (H3 _ a2).mono ?_;rintro e w3 ⟨rfl,o⟩;have o:=ij a2 o;have R3:=H.after o;obtain⟨c0,c1,c2,c3,f2,l0⟩:=R3.fields;have HF:=iB (nj R3 i (by omega) 5);go_wp2_with fail;refine HF.mono ?_;rintro e w4 ⟨⟨a,rfl⟩,a4⟩;have R:=jz a 5 (by decide);unfold oD at R⊢;go_wp2;exact⟨rfl,ij o a4,.inr ⟨I,R⟩⟩
 have hi:=a' rfl;have ag:(i:Int)<(L:Int):=iu;obtain⟨tk,a_⟩:∃t,L[i]?=some t:=⟨_,qn hi⟩;have aa:Cb (L.drop i)=tk.text:=by rw[oU a_];rfl
 rw[aa]at I;have H4:Hid (∀U,ik w U->Calls prog 176 #[.pointer (some q),tk.text] U (Sm U (qh el tk.text))):=fun U j=>ED (h.after j) _
 have HT:=iy a_;generalize lk el t v kn (L.drop i)=X at I;have H:=iy h;obtain⟨V1,V2,V3,hV,hF⟩:∃(u x:Int) (ok:Bool),Hid (∀U,ik w U->Calls prog 176 #[.pointer (some q),tk.text] U fun e w'=>e=.returned (.tuple #[u,x,ok])/\ik U w')/\Hid (X=!((kn&&(!ok||!(u==t)||!(x==v)))||(ok&&!kn&&!(x==0)))):=by
  revert I H4;cases qh el tk.text with
  |none=>
   intro H4 I;refine⟨0,0,false,fun U j=>(H4 U j).mono fun e w' h=>⟨h.2,h.1⟩,?_⟩;show _=_
   rw[I.out];cases kn<;>rfl
  |some p=>
  obtain⟨u,x⟩:=p;intro H4 I;refine⟨u,x,true,fun U j=>(H4 U j).mono fun e w' h=>⟨h.2,h.1⟩,?_⟩;show _=_
  rw[I.out];cases kn<;>simp
 obtain⟨zu,a7⟩:=jt ((V1==t));obtain⟨zx,a6⟩:=jt ((V2==v));obtain⟨z0,a8⟩:=jt ((V2==0));rw[a7,a6,a8]at hF;have ae:(V1 != t)=!zu:=by rw[<- a7];rfl
 have ad:(V2 != v)=!zx:=by rw[<- a6];rfl
 have af:(V2 != 0)=!z0:=by rw[<- a8];rfl
 obtain⟨zr,J⟩:=jt ((!((kn&&(!V3||!zu||!zx))||(V3&&!kn&&!z0))));rw[J]at hF;go_in;go_wp2_with fail;refine (H1 _ zc).mono ?_;rintro e w1 ⟨rfl,a1⟩;go_wp2_with fail;refine (H2 _ a1).mono ?_;rintro e w2 ⟨rfl,a2⟩;have a2:=ij a1 a2;go_wp2_with fail;refine (H3 _ a2).mono ?_;rintro e w3 ⟨rfl,o⟩;have o:=ij a2 o;have R3:=H.after o;obtain⟨c0,c1,c2,c3,f2,l0⟩:=R3.fields;obtain⟨b,p,kd,t',n,rfl,hl,hy,ht,hn,t0,t1,t2⟩:=R3.at_ hi;have ab:t'=tk.text:=by have:=sI (HT.symm.trans hy);rw[this]
 rw[ab]at t1;have HF:Hid (∀U,ik w3 U->Calls prog 37 #[.pointer (some q),(i:Nat),.int .i64 5] U fun e w'=>(∃a:Int,e=oD a 5)/\ik U w'):=fun U j=>nj (H.after (ij o j)) i (by omega) 5
 have hV:Hid (∀U,ik w3 U->Calls prog 176 #[.pointer (some q),tk.text] U fun e w'=>e=.returned (.tuple #[V1,V2,V3])/\ik U w'):=fun U j=>hV U (ij o j)
 go_wp2_with fail;refine iE (by kernel_rfl) (by kernel_rfl) ?_;repeat (go_big_quiet_step ((go_at_call 176;exact mR ((hV _ zc).mono fun e w' h=>⟨h.1,jP _ _ (h:=h.2)⟩))))
 refine wpQuiet_nil ?_;rintro _ ⟨y_,rfl⟩;go_wp2_with fail;all_goals first
 |(refine (HF _ zc).mono ?_
   rintro e w4 ⟨⟨a,rfl⟩,a4⟩;have R:=jz a 5 (by decide);unfold oD at R⊢;go_wp2;exact⟨rfl,ij (ij (w2:=w3.more y_) o zc) a4,.inr ⟨by (rw[hF.out,<- J];clear J hF hV HF;simp_all),R⟩⟩)
 |(go_end0
   exact⟨ij (w2:=w3.more y_) o iR,.inl ⟨by (rw[hF.out,<- J];clear J hF hV HF;simp_all),rfl⟩⟩)
theorem vt (h:Rd B q A c L en eA ec el w i) (t v:Int) (kn:Bool):Calls prog 188 #[.pointer q,t,v,kn] w (BZ w (lk el t v kn (L.drop i))):=by
 cases hz:(jq ⟨#[116,114,117,101]⟩ (L.drop i)||jq ⟨#[102,97,108,115,101]⟩ (L.drop i)) with
 |true=>exact K2 h t v kn hz
 |false=>exact Lv h t v kn hz
end
def kK (S:Nat->Bool) (w:yM):yM:={ w with heap:=w.heap.mapIdx fun i o=>if S i then .cells #[] 0 (0,0) else o }
section
variable {q n m:Nat} {S S':Nat->Bool} {w w':yM}
theorem pt (S:Nat->Bool) (w:yM):(kK S w).heap.size=w.heap.size:=by simp[kK]
theorem xk (w:yM) {b:Nat} (h:S b=false):(kK S w).heap[b]?=w.heap[b]?:=by
 unfold kK;simp only[Array.getElem?_mapIdx];cases w.heap[b]? with
 |none=>rfl
 |some o=>simp[h]
theorem CY (w:yM) {b:Nat} (h:S b=true) (hb:b<w):(kK S w).heap[b]?=some (.cells #[] 0 (0,0)):=by
 unfold kK;simp only[Array.getElem?_mapIdx,Array.getElem?_eq_getElem hb,Option.map_some,iG h]
theorem IZ (w:yM) {b o:Nat} {v:Value} (h:S b=true) (hc:(kK S w).cell? (b,o)=some v):False:=by
 have j:=World.block_lt_of_cell? (kK S w) ⟨b,o,none⟩ hc;rw[pt]at j;rw[cell_of_row (kK S w) b o #[] 0 (0,0) (CY w h j)]at hc;simp at hc
theorem wF (w:yM) {b o:Nat} (h:S b=false):(kK S w).cell? (b,o)=w.cell? (b,o):=
 Dj (w:=w) (w':=kK S w) (a:=(b,o)) (xk w h)
theorem Ov (S:Nat->Bool) (w:yM):CU (kK S w) w:=by
 refine⟨lI (pt S w),fun b o v h=>?_⟩;cases e:S b with
 |true=>exact (IZ w e h).elim
 |false=>rwa [wF w e]at h
theorem rp (h:∀b,S b=true->S' b=true) (w:yM):CU (kK S' w) (kK S w):=by
 refine⟨by rw[pt,pt];exact js _,fun b o v j=>?_⟩;cases e:S' b with
 |true=>exact (IZ w e j).elim
 |false=>
 have I:S b=false:=by
  cases hs:S b with
  |false=>rfl
  |true=>rw[h b hs]at e;cases e
 rw[wF w e]at j;rwa [wF w I]
theorem nO (w:yM) (h:∀b,S b=true->b<n):CU (old n w) (kK S w):=by
 refine⟨by rw[ku,pt];exact js _,fun b o v j=>?_⟩;by_cases e:b<n
 ·exact (C9 w e j).elim
 have I:S b=false:=by
  cases hs:S b with
  |false=>rfl
  |true=>exact absurd (h b hs) e
 rw[wF w I];exact (vk n w).cell _ _ _ j
theorem sZ (w:yM) (h:∀b,b<n->S b=true):CU (kK S w) (old n w):=by
 refine⟨by rw[ku,pt];exact js _,fun b o v I=>?_⟩;cases e:S b with
 |true=>exact (IZ w e I).elim
 |false=>
 have J:n<=b:=by
  rcases qa b n with j | j
  ·rw[h b j]at e;cases e
  exact j
 rw[wF w e]at I;rwa [Dj (w:=w) (w':=old n w) (a:=(b,o)) (lV w J)]
theorem vx (os:w'.os=w.os) (tape:w'.tape=w.tape) (output:w'.output=w.output) (size:w.heap.size<=w') (h:∀b,b<w.heap.size->S b=S' b/\(S b=false->w'.heap[b]?=w.heap[b]?)):ik (kK S w) (kK S' w'):=by
 refine⟨⟨os,tape,output,by rw[pt,pt];exact size,fun b j=>?_⟩⟩;rw[pt]at j;obtain⟨o,I⟩:=h b j;cases e:S b with
 |true=>rw[CY w e j,CY w' (by rw[<- o];exact e) (rO j size)]
 |false=>rw[xk w e,xk w' (by rw[<- o];exact e)];exact I e
theorem oS (a:ik w w'):ik (kK S w) (kK S w'):=
 vx a.below.os a.below.tape a.below.output a.below.size fun b hb=>⟨rfl,fun _=>a.below.block b hb⟩
theorem j_ (hq:S q=true) (a:ik (iz q w) (iz q w')):ik (kK S w) (kK S w'):=by
 have o:=a.below.size;rw[iZ,iZ]at o;refine vx a.below.os a.below.tape a.below.output o fun b I=>⟨rfl,fun e=>?_⟩
 have j:b≠q:=by rintro rfl;rw[hq]at e;cases e
 have:=a.below.block b (by rw[iZ];exact I);rwa [km w' j,km w j]at this
theorem kJ {r:Nat} (h:S r=true) (w:yM) (i:Nat) (v:Value):ik (kK S w) (kK S (w.setCell (r,i) v)):=
 vx rfl rfl rfl (by rw[jc];exact js _) fun b hb=>⟨rfl,fun e=>Below.heap_setCell w _ v b (by show b≠r;rintro rfl;rw[h]at e;cases e)⟩
theorem xo {row:Option Nat} (h:w.grownBy w' row) (hr:∀g,row=some g->S g=true):ik (kK S w) (kK S w'):=
 vx h.os h.tape h.output h.size fun b hb=>⟨rfl,fun e=>h.block b hb (by rintro rfl;rw[hr b rfl]at e;cases e)⟩
theorem zn {r i:Nat} (h:S r=true) (w:yM) (u0 u1 u2 u3 u4 u5:Value):ik (kK S w) (kK S ((((((w.setCell (r,i) u0).setCell (r,i+1) u1).setCell (r,i+2) u2).setCell (r,i+3) u3).setCell (r,i+4) u4).setCell (r,i+5) u5)):=
 ij (ij (ij (ij (ij (kJ h _ _ _) (kJ h _ _ _)) (kJ h _ _ _)) (kJ h _ _ _)) (kJ h _ _ _)) (kJ h _ _ _)
end
def rS (ys:List Tx):zO:=ys.flatMap jj
theorem AD:∀(ys:List Tx) (k:Nat) (y:Tx),k<ys->(((((((rS ys).set (k*6) (.int .i64 y.kind)).set (k*6+1) (.int .i64 y.op)).set (k*6+2) (.int .i64 y.ty)).set (k*6+3) (.int .i64 y.va)).set (k*6+4) (.string y.name)).set (k*6+5) (.slice y.ad y.args y.cap))=rS (ys.set k y)
 |[],k,y,h=>by simp at h
 |a::ys,0,y,h=>by
  simp only[rS,pZ,jj,lP,sb,zH,t_,oB,oq]
 |a::ys,k+1,y,h=>by
  have ih:=AD ys k y (by simpa using h);have e:∀j,(k+1)*6+j=(k*6+j)+1+1+1+1+1+1:=fun j=>by omega
  have e0:(k+1)*6=(k*6)+1+1+1+1+1+1:=iu;simp only[rS]at ih⊢;simp only[e,e0,pZ,jj,lP,sb,oq];rw[ih]
theorem BY:∀(ys:List Tx) (k j:Nat) (y:Tx) (v:Value),ys[k]?=some y->(jj y)[j]?=some v->(rS ys)[k*6+j]?=some v
 |[],k,j,y,v,h,_=>by simp at h
 |a::ys,0,j,y,v,h,hv=>by
  simp at h;subst h;rw[rS,pZ,zH,t_,wk (rq.1 hv).1];exact hv
 |a::ys,k+1,j,y,v,h,hv=>by
  have ih:=BY ys k j y v (by simpa using h) hv;rw[rS,pZ,xK (by show 6<=_;omega)];show (rS ys)[(k+1)*6+j-6]?=_
  rw[show (k+1)*6+j-6=k*6+j by omega];exact ih
def pR (w:yM) (g:Nat) (ys:List Tx):Prop:=iP w g 73 (rS ys).toArray
section
variable {w:yM} {g:Nat} {ys:List Tx}
theorem pR.cells (h:pR w g ys) {k:Nat} (hk:k<ys):∃y:Tx,w.cell? (g,k*6)=y.kind/\w.cell? (g,k*6+1)=y.op/\w.cell? (g,k*6+2)=y.ty/\w.cell? (g,k*6+3)=y.va/\w.cell? (g,k*6+4)=y.name/\w.cell? (g,k*6+5)=(y.ad,y.args,y.cap):=by
 have o:=qn hk;have e:∀j v,(jj ys[k])[j]?=some v->w.cell? ⟨g,k*6+j,none⟩=some v:=fun j v I=>by
  rw[uJ h,<- Array.getElem?_toList];exact BY ys k j _ v o I
 exact⟨ys[k],e 0 _ rfl,e 1 _ rfl,e 2 _ rfl,e 3 _ rfl,e 4 _ rfl,e 5 _ rfl⟩
theorem pR.store (h:pR w g ys) {k:Nat} (hk:k<ys) (y:Tx):pR ((((((w.setCell (g,k*6) (.int .i64 y.kind)).setCell (g,k*6+1) (.int .i64 y.op)).setCell (g,k*6+2) (.int .i64 y.ty)).setCell (g,k*6+3) (.int .i64 y.va)).setCell (g,k*6+4) (.string y.name)).setCell (g,k*6+5) (.slice y.ad y.args y.cap)) g (ys.set k y):=by
 have j:=(((((Hg h (k*6) (.int .i64 y.kind)).jx (k*6+1) (.int .i64 y.op)).jx (k*6+2) (.int .i64 y.ty)).jx (k*6+3) (.int .i64 y.va)).jx (k*6+4) (.string y.name)).jx (k*6+5) (.slice y.ad y.args y.cap);simp only[oF]at j;rw[AD ys k y hk]at j;exact j
theorem pR.rx (h:pR w g ys) (hr:∀y∈ys,RX w y) (hl:ys.length<=65536) (k o t v:Int) (s:yB) (hs:s.size<=65536):RX w (.mk k o t v s (some g) ys.length ys):=xS h hr hl k o t v s hs
end
theorem pU (ys:List Tx):(rS ys).length=ys.length*6:=by
 induction ys with
 |nil=>rfl
 |cons a ys ih=>rw[rS,pZ,mo];show 6+(rS ys).length=_;rw[ih,py];omega
theorem I9 (n:Nat):(madeCells (Value.cells (.agg #[JX,JX,JX,JX,ByteArray.empty,()])) (n*6)).toList=rS (List.replicate n oE):=by
 apply List.ext_getElem?;intro i;rcases qa i (n*6) with I | I
 ·have J:i / 6<n:=iu
  have o:i % 6<6:=Nat.mod_lt _ (by decide);have e:i=i / 6*6+i % 6:=iu;have h1:(List.replicate n oE)[i / 6]?=some oE:=by simp[J]
  have U:(jj oE)[i % 6]?=some ((jj oE)[i % 6]'o):=qn o;rw[e,BY _ _ _ _ _ h1 U,<- e];have R:(madeCells (Value.cells (.agg #[JX,JX,JX,JX,ByteArray.empty,()])) (n*6)).toList[i]?=some ((#[Value.int .i64 0,JX,JX,JX,ByteArray.empty,()]:Array Value)[i % 6]!):=by
   simp[madeCells,Value.cells,I]
  rw[R];generalize i % 6=j at o⊢
  match j,o with
  |0,_=>rfl
  |1,_=>rfl
  |2,_=>rfl
  |3,_=>rfl
  |4,_=>rfl
  |5,_=>rfl
 rw[LH (by rw[Array.length_toList,size_madeCells];exact I),LH (by rw[pU,IV];exact I)]
theorem pR.KT {w:yM} {g n B:Nat} {z:Value} (hz:z=.agg #[JX,JX,JX,JX,ByteArray.empty,()]) (h:w.ownsRow B 73 6 (.slice g n n) n (madeCells z.cells (n*6)).toList):pR w g (List.replicate n oE):=by
 subst hz;rw[I9]at h;rcases h.2 with⟨h1,_⟩ | ⟨g',cap,cur,hv,_,hh,_,_,hsz,htk⟩
 ·cases h1
 injection hv with e1 e2 e3
 injection e1 with e1
 injection e1 with e1
 subst e1;subst e3;have:cur=(rS (List.replicate n oE)).toArray:=by
  apply Array.toList_inj.1;have o:cur.toList=n*6:=by simpa using hsz
  first
  |(rw[<- htk,Dn (by omega)])
  |(have j:=htk;simp at j;rw[Dn (by omega)]at j;simpa using j)
 unfold pR;rw[<- this];exact hh
section
variable {B:yM} {q:Nat} {A:zA} {c:Nat} {L:List Tk} {en:Int} {eA:zA} {ec:Nat} {el:List iW} {w w0 w1:yM} {i:Nat}
def Q_ (el:List iW) (k:Nat) (s:yB) (ts:List Tk):Option (Ex×List Tk):=(iF [⟨#[40]⟩] ts).bind fun (_,r)=>if lk el 0 (if jq ⟨#[116,114,117,101]⟩ r then 1 else 0) false r then (l_ el r).bind fun (tv,r)=>(iF [⟨#[45,62]⟩] r).bind fun (_,r)=>(jg el k r).bind fun (x,r)=>(iF [⟨#[41]⟩] r).bind fun (_,r)=>we el k s tv.1 (jV el tv.1) [x] r else none
def Cv (t:Int) (l:List Ex) (ys:List Tx):Prop:=∀j x,l[j]?=some x->∃y:Tx,ys[if t=1 then 1-j else j]?=some y/\y.er=x
theorem Cv.done {t:Int} {l:List Ex} {ys:List Tx} (h:Cv t l ys) (hl:l.length=ys) (h2:t=1->ys.length=2):ys.map Tx.er=if t=1 then l.reverse else l:=by
 by_cases o:t=1
 ·rw[iG o]
  have h2:=h2 o
  match ys,l,h2,hl with
  |[y0,y1],[x0,x1],_,_=>
  obtain⟨a,J,rfl⟩:=h 0 x0 rfl;obtain⟨b,I,rfl⟩:=h 1 x1 rfl;rw[iG o]at J I;simp at J I;subst J I;rfl
 rw[iV o];apply List.ext_getElem?;intro j;rw[JL];cases hx:l[j]? with
 |none=>
  rw[List.getElem?_eq_none_iff]at hx;rw[LH iu];rfl
 |some x=>
 obtain⟨y,R,U⟩:=h j x hx;rw[iV o]at R;rw[R,Option.map_some,U]
theorem Cv.add {t:Int} {l:List Ex} {ys:List Tx} {k wn:Nat} {x:Ex} {y:Tx} (h:Cv t l ys) (hk:l=k) (hw:wn=if t=1 then 1-k else k) (hlt:wn<ys) (h2:t=1->k<=1) (hy:y.er=x):Cv t (l++[x]) (ys.set wn y):=by
 intro j z o;rcases Nat.lt_trichotomy j k with R | R | R
 ·rw[wk iu]at o
  obtain⟨u,U,hr⟩:=h j z o;refine⟨u,?_,hr⟩;have J:wn≠if t=1 then 1-j else j:=by
   by_cases I:t=1
   ·have:=h2 I
    rw[iG I]at hw⊢;omega
   rw[iV I]at hw⊢;omega
  rw[List.getElem?_set_ne J];exact U
 ·subst R
  rw[xK iu,hk,Nat.sub_self]at o;simp at o;refine⟨y,?_,hy.trans o⟩;rw[<- hw,List.getElem?_set_self hlt]
 rw[LH (by rw[mo];simp;omega)]at o;cases o
theorem DJ {s:yB}:∀{l:List iW} {j:Nat} {t v:Int},AB s l j=some (t,v)->∃(i:Nat) (u:iW),l[i]?=some u/\t=3+(((j+i:Nat)):Int)/\0<=v/\v=Lib.idxOfS u.tags.l s
 |[],j,t,v,h=>by cases h
 |u::l,j,t,v,h=>by
  rw[AB]at h;by_cases hc:0<=Lib.idxOfS u.tags.l s
  ·rw[iG hc]at h
   injection h with h
   injection h with h1 h2
   exact⟨0,u,rfl,by rw[<- h1];simp,by rw[<- h2];exact hc,h2.symm⟩
  rw[iV hc]at h;obtain⟨i,u',h1,h2,h3,h4⟩:=DJ h;exact⟨i+1,u',h1,by rw[h2];omega,h3,h4⟩
theorem Eh {s:yB} {el:List iW} {t v:Int} (htag:∀u∈el,u.tags.l.length<=16) (h:qh el s=some (t,v)):3<=t/\t<3+el/\1<=jV el t/\jV el t<=16:=by
 obtain⟨i,u,j,h2,U,R⟩:=DJ h;have J:=(rq.1 j).1;have I:=DX u.tags.l s;have o:=htag u (om j);have e:jV el t=u.tags.l.length:=by
  unfold jV;rw[iV (by omega),iV (by omega),iG (by omega),show (t-3).toNat=i by omega,j]
 rw[e];refine⟨by omega,by omega,?_,o⟩;omega
theorem vu {el:List iW} {ts r:List Tk} {t v:Int} (htag:∀u∈el,u.tags.l.length<=16) (h:l_ el ts=some ((t,v),r)):1<=t/\t<3+el/\1<=jV el t/\jV el t<=16/\(t=1->jV el t=2)/\(jq ⟨#[116,114,117,101]⟩ ts=true->t=1)/\(jq ⟨#[116,114,117,101]⟩ ts=false->jq ⟨#[102,97,108,115,101]⟩ ts=false->t≠1):=by
 unfold l_ at h;cases h1:jq ⟨#[116,114,117,101]⟩ ts with
 |true=>
  rw[h1,iG rfl]at h;injection h with h
  injection h with h h3
  injection h with h h4
  subst h;exact⟨iI,iu,(by show (1:Nat)<=2;decide),(by show (2:Nat)<=16;decide),fun _=>rfl,fun _=>rfl,fun e=>by cases e⟩
 |false=>
 rw[h1,iV iI]at h;cases h2:jq ⟨#[102,97,108,115,101]⟩ ts with
 |true=>
  rw[h2,iG rfl]at h;injection h with h
  injection h with h h3
  injection h with h h4
  subst h;exact⟨iI,iu,(by show (1:Nat)<=2;decide),(by show (2:Nat)<=16;decide),fun _=>rfl,(fun e=>by cases e),fun _ e=>by cases e⟩
 |false=>
 rw[h2,iV iI]at h;cases hi:pV ts with
 |none=>rw[hi]at h;cases h
 |some p=>
 obtain⟨s,J⟩:=p;rw[hi]at h;simp only[]at h;cases ht:qh el s with
 |none=>rw[ht]at h;cases h
 |some tv=>
 rw[ht]at h;injection h with h
 injection h with h h3
 subst h;obtain⟨R,I,o,j⟩:=Eh htag ht;exact⟨iu,I,o,j,fun e=>by omega,(fun e=>by cases e),fun _ _=>by omega⟩
theorem lT {s:yB} {ts:List Tk} (h:jq s ts=true):ts.length=ts.tail+1:=by
 cases ts with
 |nil=>cases h
 |cons t l=>rfl
theorem rW {el:List iW} {ts r:List Tk} {tv:Int×Int} (h:l_ el ts=some (tv,r)):ts.length=r+1:=by
 unfold l_ at h;cases h1:jq ⟨#[116,114,117,101]⟩ ts with
 |true=>
  rw[h1,iG rfl]at h;injection h with h
  injection h with h h3
  rw[<- h3];exact lT h1
 |false=>
 rw[h1,iV iI]at h;cases h2:jq ⟨#[102,97,108,115,101]⟩ ts with
 |true=>
  rw[h2,iG rfl]at h;injection h with h
  injection h with h h3
  rw[<- h3];exact lT h2
 |false=>
 rw[h2,iV iI]at h;cases hi:pV ts with
 |none=>rw[hi]at h;cases h
 |some p=>
 obtain⟨s,j⟩:=p;rw[hi]at h;simp only[]at h;cases ht:qh el s with
 |none=>rw[ht]at h;cases h
 |some tv=>
 rw[ht]at h;injection h with h
 injection h with h h3
 subst h3;exact mm hi
theorem Sl {t:Int} {n:Nat} (h1:1<=t) (h2:t<3+(n:Int)) (h3:n<=1000):0<=t/\t<=2000:=iu
end
end Go.Proofs.YtnigblndonocfaaGreatDoor
