/- A part of the proof. -/
import Derived.Test.YtnigblndonocfaaGreatDoorPEx
import Derived.Deep.RegionHeld3
import Derived.Deep.RegionHeld2
set_option linter.unusedVariables false
set_option linter.unusedSimpArgs false
namespace Go.Proofs.YtnigblndonocfaaGreatDoor
set_option maxRecDepth 100000
set_option maxHeartbeats 3200000
open Go.Proofs.Tryz
open Go.RowKit Go.BigFrame
section
theorem jE {P:Program} {ops:Array Oper} {Q:Exit->Act->World->Prop} {i:Nat} {o:Oper} {K:Act->World->Prop} {a:Act} {w:World} (hi:ops[i]?=some o) (hg:o.guard=none) (h:o.wp P a w K Q):wpOp P ops Q i K a w:=by
 unfold wpOp;rw[hi];simp only[];rw[iG (by simp[Region.wanted,hg])];exact .inl h
section
variable {B:World} {q:Nat} {A:Option Addr} {c:Nat} {L:List Tk} {en:Int} {eA:Option Addr} {ec:Nat} {el:List iW} {w w0 w1:World} {i:Nat}
structure CX (B:World) (q:Nat) (A:Option Addr) (c:Nat) (L:List Tk) (en:Int) (eA:Option Addr) (ec:Nat) (el:List iW) (k:Nat):Prop where
 e:∀(w:World) (i:Nat),Rd B q A c L en eA ec el w i->20*(L.length-i)+10<=k->Calls prog 71 #[.pointer (some q)] w (pk B q A c L en eA ec el w i (jg el k (L.drop i)) (VX w.heap.size))
 l:∀(w:World) (i n:Nat),n<=6->Rd B q A c L en eA ec el w i->20*(L.length-i)+9<=k+n->Calls prog 116 #[.pointer (some q),.int .i64 (n:Nat)] w (pk B q A c L en eA ec el w i (jB el k (n:Nat) (L.drop i)) (VX w.heap.size))
 u:∀(w:World) (i:Nat),Rd B q A c L en eA ec el w i->20*(L.length-i)+2<=k->Calls prog 152 #[.pointer (some q)] w (pk B q A c L en eA ec el w i (xu el k (L.drop i)) (VX w.heap.size))
 p:∀(w:World) (i:Nat),Rd B q A c L en eA ec el w i->20*(L.length-i)+1<=k->Calls prog 170 #[.pointer (some q)] w (pk B q A c L en eA ec el w i (kV el k (L.drop i)) (VX w.heap.size))
theorem LX {k:Nat} (C:CX B q A c L en eA ec el k) (h:Rd B q A c L en eA ec el w i) (hk:20*(L.length-i)+10<=k+1):Calls prog 71 #[.pointer (some q)] w (pk B q A c L en eA ec el w i (jg el (k+1) (L.drop i)) (VX w.heap.size)):=by
 obtain⟨X,hX⟩:=jt (jg el (k+1) (L.drop i));rw[hX];obtain⟨i0,aR⟩:=jt (i);rw[aR]at hX h hk⊢;have HX:=iy hX.symm;have aL:Hid (i0<=i0):=js _;have hq:=h.blk.lt;have aS:=h.base;obtain⟨r,hr⟩:=jt (w.heap.size);have a8:r≠q:=by omega
 have b6:q<r:=by omega
 obtain⟨w0,aN,aw0,B0,R0,s0⟩:=Ls h hr a8 #[.int .i64 0,.int .i64 0,.int .i64 0,.int .i64 0,.string ⟨#[]⟩,.slice none 0 0] 73;have HB:=iy B0;have a0:ik (iz q w0) (iz q w0):=iq _;go_in;go_wp2_with fail;try rw[hr]
 try rw[aN]
 have HC:=iy (C.l w0 i0 0 iI R0 iu);have HX:Hid (X=Option.bind (jB el k 0 (L.drop i0)) _):=HX;generalize b8:jB el k 0 (L.drop i0)=Y at HC HX;go_wp2_with fail;refine HC.mono ?_;rintro e w1 ⟨aZ,hY⟩;have aZ:=ij a0 aZ;cases Y with
 |none=>
  obtain⟨a,er,rfl,he⟩:=hY;unfold oD;go_wp2;exact⟨rfl,kf HX (ij (im aw0) aZ) (jz a er he)⟩
 |some y=>
 obtain⟨x1,r1⟩:=y;obtain⟨J,i1,rfl,aO,RZ,hr,hi⟩:=hY;subst hr;have R1:=iy RZ;have a1:=aZ;have ai:=iB (jW aL hi);obtain⟨⟨k1,o1,R,J,s1,A1,c1,o⟩,aj,rfl,D1⟩:=aO;have ak:(Tx.mk k1 o1 R J s1 A1 c1 o).val=.agg #[k1,o1,R,J,s1,.slice A1 o.length c1]:=rfl;rw[ak];obtain⟨ra,aH⟩:=jt (w1.heap.size);obtain⟨w2,b5,e2,BA,R2,a2,D2,s2⟩:∃v,w1.alloc (.cells #[k1,o1,R,J,s1,.slice A1 o.length c1] 73)=v/\ik w1 v/\qP v ra (.mk k1 o1 R J s1 A1 c1 o)/\Hid (Rd B q A c L en eA ec el v i1)/\ik (iz q w0) (iz q v)/\Hid (RX (old w0.heap.size v) (.mk k1 o1 R J s1 A1 c1 o))/\v.heap.size=ra+1:=⟨_,rfl,iR,by rw[<- aH];exact jC ..,R1.after iR,ij a1 (im iR),D1.below (jK iR).below,by rw[iH,aH]⟩;have a7:ra≠q:=by have:=R1.blk.lt;omega
 have b7:r<ra:=by have:=lZ a1;omega
 have ay:=iB BA;have aG:=ai;have HC:=iB (tB R2 ⟨#[45,62]⟩);go_wp2_with fail;refine HC.mono ?_;rintro e w3 ⟨z,hz,rfl,RZ,aZ⟩;have a3:=ij a2 aZ;have HZ:=iB hz;have aJ:=aZ;cases z
 ·skip
  have R3:Hid (Rd B q A c L en eA ec el w3 i1):=iB RZ;have HX:=iB (HX.trans (iV (Qa HZ)));have af:=aG;have aT:ik (iz q w2) (iz q w3):=aJ;have HC:=iB (tB R3 ⟨#[102,98,121]⟩);go_wp2_with fail;refine HC.mono ?_;rintro e w4 ⟨z,hz,rfl,RZ,aZ⟩;have a4:=ij a3 aZ;have HZ:=iB hz;have aI:=aZ;cases z
  ·skip
   have R4:Hid (Rd B q A c L en eA ec el w4 i1):=iB RZ;have HX:=iB (HX.trans (iV (Qa HZ)));have ah:=af;have aT:=ij aT aI;have aA:ik (iz q w2) (iz q w4):=aT;have BA:qP w4 ra (.mk k1 o1 R J s1 A1 c1 o):=kq ay a7 aA;obtain⟨m0,m1,m2,m3,m4,m5⟩:=BA.cells;have ml:=jo BA;obtain⟨b2,b1,b0,aY,aX,aV⟩:=jU BA;have I:qP w4 r oE:=lM (HB.after (k:=a4)) a8;obtain⟨n0,n1,n2,n3,n4,n5⟩:=I.cells;have nl:=jo I;obtain⟨aF,aE,aD,aC,aB,az⟩:=jU I;have D4:=iy (D2.below (kj (q:=q) iu aA).below);obtain⟨W,hW,EW,ae,aW,oW,sW⟩:=jY I R4 a8 (ij (im aw0) a4) (lI hr) iu (.mk k1 o1 R J s1 A1 c1 o);have hW:=iy hW;go_wp2_with fail;have hw:=hW.out;simp only[txs]at hw;try rw[hw]
   obtain⟨u0,u1,u2,u3,u4,u5⟩:=EW.cells;simp only[txs]at u0 u1 u2 u3 u4 u5;exact jR (v:=.agg #[k1,o1,R,J,s1,.slice A1 o.length c1]) (by simp[results,results71,go_sem,u0,u1,u2,u3,u4,u5]) rfl (lN (x:=x1) (show X=some (x1,L.drop i1) from HX) aW ⟨.mk k1 o1 R J s1 A1 c1 o,aj,rfl,((D4.below (oW w0.heap.size iu).below)).sub (iS iu W)⟩ ae rfl ah)
  have R4:Hid (Rd B q A c L en eA ec el w4 (i1+1)):=iB RZ;have HX:=iB (HX.trans (iG HZ));rw[tail_drop]at HX;have ah:Hid (i0<=i1+1):=wc af;have b3:=pI HZ;have aT:=ij aT aI;have aP:=R4.le;have HC:Hid (∀U,ik w4 U->Calls prog 71 #[.pointer (some q)] U (pk B q A c L en eA ec el U (i1+1) (jg el k (L.drop (i1+1))) (VX U.heap.size))):=fun U hU=>C.e U (i1+1) (R4.after hU) (by have:=ai.out;omega)
  have HX:Hid (X=Option.bind (jg el k (L.drop (i1+1))) _):=HX;generalize aU:jg el k (L.drop (i1+1))=Y at HC HX;have BA:=kq ay a7 aT;have HK:Hid (∀U,ik (iz q w4) (iz q U)->(U.cell? ra=some (.int .i64 k1)/\U.cell? ⟨ra,1,none⟩=some (.int .i64 o1)/\U.cell? ⟨ra,2,none⟩=some (.int .i64 R)/\U.cell? ⟨ra,3,none⟩=some (.int .i64 J)/\U.cell? ⟨ra,4,none⟩=some (.string s1)/\U.cell? ⟨ra,5,none⟩=some (.slice A1 o.length c1))):=fun U hU=>Iy (kq BA a7 hU)
  have al:=jo BA;have FR:∀(V:World) (j i:Nat) (u:Value),(V.setCell ⟨r,j,none⟩ u).cell? ⟨ra,i,none⟩=V.cell? ⟨ra,i,none⟩:=fun V j i u=>Dj (Below.heap_setCell V _ u ra (by show ra≠r;omega))
  have ax:Hid (∀(V:World) (u0 u1 u2 u3 u4 u5:Value),(fun U:World=>U.cell? ra=some (.int .i64 k1)/\U.cell? ⟨ra,1,none⟩=some (.int .i64 o1)/\U.cell? ⟨ra,2,none⟩=some (.int .i64 R)/\U.cell? ⟨ra,3,none⟩=some (.int .i64 J)/\U.cell? ⟨ra,4,none⟩=some (.string s1)/\U.cell? ⟨ra,5,none⟩=some (.slice A1 o.length c1)) V->(fun U:World=>U.cell? ra=some (.int .i64 k1)/\U.cell? ⟨ra,1,none⟩=some (.int .i64 o1)/\U.cell? ⟨ra,2,none⟩=some (.int .i64 R)/\U.cell? ⟨ra,3,none⟩=some (.int .i64 J)/\U.cell? ⟨ra,4,none⟩=some (.string s1)/\U.cell? ⟨ra,5,none⟩=some (.slice A1 o.length c1)) ((((((V.setCell r u0).setCell ⟨r,1,none⟩ u1).setCell ⟨r,2,none⟩ u2).setCell ⟨r,3,none⟩ u3).setCell ⟨r,4,none⟩ u4).setCell ⟨r,5,none⟩ u5)):=fun V u0 u1 u2 u3 u4 u5 h=>by simp only[FR];exact h
  cases Y with
  |none=>
   go_wp2_with fail;refine wp_region_held (S:=fun U:World=>U.cell? ra=some (.int .i64 k1)/\U.cell? ⟨ra,1,none⟩=some (.int .i64 o1)/\U.cell? ⟨ra,2,none⟩=some (.int .i64 R)/\U.cell? ⟨ra,3,none⟩=some (.int .i64 J)/\U.cell? ⟨ra,4,none⟩=some (.string s1)/\U.cell? ⟨ra,5,none⟩=some (.slice A1 o.length c1)) kp ?_;have ad:(fun U:World=>U.cell? ra=some (.int .i64 k1)/\U.cell? ⟨ra,1,none⟩=some (.int .i64 o1)/\U.cell? ⟨ra,2,none⟩=some (.int .i64 R)/\U.cell? ⟨ra,3,none⟩=some (.int .i64 J)/\U.cell? ⟨ra,4,none⟩=some (.string s1)/\U.cell? ⟨ra,5,none⟩=some (.slice A1 o.length c1)) w4.drew:=HK _ inferInstance;refine wpAnyH_take (i:=0) (v:=.agg #[k1,o1,R,J,s1,.slice A1 o.length c1]) rfl kp kp kp (fun _ _ _ h=>h) (Or.inl ⟨by rfl,?_⟩) ad ?_
   ·intro U hU;try dsimp only at hU
    obtain⟨h0,h1,h2,h3,h4,h5⟩:=hU;go_simp
   try simp only[Act.put,sC]
   refine wpAnyH_take (i:=1) (v:=.pointer (some q)) rfl kp kp kp (fun _ _ _ h=>h) (Or.inl ⟨by rfl,?_⟩) ad ?_
   ·intro U hU;try dsimp only at hU
    obtain⟨h0,h1,h2,h3,h4,h5⟩:=hU;go_simp
   try simp only[Act.put,sC]
   refine wpAnyH_all (rs:=[2]) kp (by simp) ?_;intro j hj;simp only[la]at hj;subst hj;refine jE rfl rfl ?_;go_simp;go_at_call 71;refine (HC _ iR).mono ?_;rintro e w9 ⟨aZ,hY⟩;obtain⟨a,er,rfl,he⟩:=hY;unfold oD;exact⟨rfl,kf HX (ij (im aw0) (ij (ij a4 (im iR)) aZ)) (jz a er he)⟩
  |some y=>
  obtain⟨x9,r9⟩:=y;go_wp2_with fail;go_region_held3 (fun U=>U.cell? ra=some (.int .i64 k1)/\U.cell? ⟨ra,1,none⟩=some (.int .i64 o1)/\U.cell? ⟨ra,2,none⟩=some (.int .i64 R)/\U.cell? ⟨ra,3,none⟩=some (.int .i64 J)/\U.cell? ⟨ra,4,none⟩=some (.string s1)/\U.cell? ⟨ra,5,none⟩=some (.slice A1 o.length c1)) (first | exact HK.out _ iR | exact ax.out _ _ _ _ _ _ _ (HK.out _ iR)) (first | (go_at_call 71;(with_reducible refine (HC.out _ iR).mono ?_);rintro e w9 ⟨aZ,hY⟩;obtain⟨v9,i9,rfl,an,R9,ao,aQ⟩:=hY;obtain⟨⟨k9,o9,t9,z9,s9,A9,c9,a6⟩,aa,rfl,D9⟩:=an;have aM:ik (iz q w4) (iz q w9):=ij (im iR) aZ;have l9:Le (ra+1) w9:=⟨by have h1:=al.le;have h2:=lZ aM;omega⟩;rw[show (Tx.mk k9 o9 t9 z9 s9 A9 c9 a6).val=.agg #[k9,o9,t9,z9,s9,.slice A9 a6.length c9] from rfl];have aK:=R9.blk.is_le;have a9:=ij a4 aM;have I:qP w9 r oE:=lM (HB.out.after (k:=a9)) a8;obtain⟨n0,n1,n2,n3,n4,n5⟩:=I.cells;have nl:=jo I;have aF:=nL I 0;have aE:=nL I 1;have aD:=nL I 2;have aC:=nL I 3;have aB:=nL I 4;have az:=nL I 5;have R9:=iy R9;have D9:=iy D9;have aw:=iy aa;clear aa));obtain⟨g,hg⟩:=jt (w9.heap.size);have aq:w0.heap.size<=g:=by have h1:=lZ a9;omega
  obtain⟨ag,ab,av,au,a',ar⟩:∃v,w9.alloc (.cells #[k1,o1,R,J,s1,.slice A1 o.length c1,k9,o9,t9,z9,s9,.slice A9 a6.length c9] 73)=v/\Hid (Rd B q A c L en eA ec el v i9)/\ik (iz q w0) (iz q v)/\ik w9 v/\iP v g 73 #[k1,o1,R,J,s1,.slice A1 o.length c1,k9,o9,t9,z9,s9,.slice A9 a6.length c9]:=⟨_,rfl,iy (R9.after iR),ij a9 (im iR),iR,by rw[<- hg];exact jC ..⟩;have a_:qP ag r oE:=mZ (w:=w9) I;have E1:=D2.below (kj (q:=q) iu (ij (ij aT aM) (im a'))).below;have E9:=((D9.sub (iS (by have h1:=lZ a4;exact h1) w9))).below (jK a').below;have DY:=xS (ys:=[.mk k1 o1 R J s1 A1 c1 o,.mk k9 o9 t9 z9 s9 A9 c9 a6]) (yV ar aq) (by intro y hy;simp only[la]at hy;rcases hy with rfl | rfl;exact E1;exact E9) (by simp) 7 0 0 0 ⟨#[]⟩ iI;obtain⟨W,hW,EW,ae,aW,oW,sW⟩:=jY a_ av a8 (ij (im aw0) au) (lI hr) iu (.mk 7 0 0 0 ⟨#[]⟩ (some ⟨g,0,none⟩) 2 [.mk k1 o1 R J s1 A1 c1 o,.mk k9 o9 t9 z9 s9 A9 c9 a6]);simp only[txs,xT,Nat.reduceAdd]at hW;rw[hg,ab,hW];obtain⟨u0,u1,u2,u3,u4,u5⟩:=EW.cells;simp only[txs,xT,Nat.reduceAdd]at u0 u1 u2 u3 u4 u5;go_wp2;exact jR (v:=.agg #[.int .i64 7,.int .i64 0,.int .i64 0,.int .i64 0,.string ⟨#[]⟩,.slice (some g) 2 2]) (by simp[results,results71,go_sem,u0,u1,u2,u3,u4,u5]) rfl (lN (x:=.mk 7 0 0 0 ⟨#[]⟩ [x1,x9]) (show X=some (.mk 7 0 0 0 ⟨#[]⟩ [x1,x9],L.drop i9) from by rw[ao];exact HX) aW ⟨.mk 7 0 0 0 ⟨#[]⟩ (some ⟨g,0,none⟩) 2 [.mk k1 o1 R J s1 A1 c1 o,.mk k9 o9 t9 z9 s9 A9 c9 a6],by (rw[qp];simp only[mJ,tW];rw[aj,aw.out]),rfl,(DY.below (oW w0.heap.size iu).below).sub (iS iu W)⟩ ae rfl (by have h1:=ah.out;omega))
 have R3:Hid (Rd B q A c L en eA ec el w3 (i1+1)):=iB RZ;have HX:=iy (HX.trans (iG HZ));rw[tail_drop]at HX;have af:Hid (i0<=i1+1):=wc aG;have b4:=pI HZ;have aT:ik (iz q w2) (iz q w3):=aJ;have aP:=R3.le;have HC:Hid (∀U,ik w3 U->Calls prog 71 #[.pointer (some q)] U (pk B q A c L en eA ec el U (i1+1) (jg el k (L.drop (i1+1))) (VX U.heap.size))):=fun U hU=>C.e U (i1+1) (R3.after hU) (by have:=ai.out;omega)
 have HX:Hid (X=Option.bind (jg el k (L.drop (i1+1))) _):=HX;generalize aU:jg el k (L.drop (i1+1))=Y at HC HX;have BA:=kq ay a7 aT;have HK:Hid (∀U,ik (iz q w3) (iz q U)->(U.cell? ra=some (.int .i64 k1)/\U.cell? ⟨ra,1,none⟩=some (.int .i64 o1)/\U.cell? ⟨ra,2,none⟩=some (.int .i64 R)/\U.cell? ⟨ra,3,none⟩=some (.int .i64 J)/\U.cell? ⟨ra,4,none⟩=some (.string s1)/\U.cell? ⟨ra,5,none⟩=some (.slice A1 o.length c1))):=fun U hU=>Iy (kq BA a7 hU)
 have al:=jo BA;have FR:∀(V:World) (j i:Nat) (u:Value),(V.setCell ⟨r,j,none⟩ u).cell? ⟨ra,i,none⟩=V.cell? ⟨ra,i,none⟩:=fun V j i u=>Dj (Below.heap_setCell V _ u ra (by show ra≠r;omega))
 have ax:Hid (∀(V:World) (u0 u1 u2 u3 u4 u5:Value),(fun U:World=>U.cell? ra=some (.int .i64 k1)/\U.cell? ⟨ra,1,none⟩=some (.int .i64 o1)/\U.cell? ⟨ra,2,none⟩=some (.int .i64 R)/\U.cell? ⟨ra,3,none⟩=some (.int .i64 J)/\U.cell? ⟨ra,4,none⟩=some (.string s1)/\U.cell? ⟨ra,5,none⟩=some (.slice A1 o.length c1)) V->(fun U:World=>U.cell? ra=some (.int .i64 k1)/\U.cell? ⟨ra,1,none⟩=some (.int .i64 o1)/\U.cell? ⟨ra,2,none⟩=some (.int .i64 R)/\U.cell? ⟨ra,3,none⟩=some (.int .i64 J)/\U.cell? ⟨ra,4,none⟩=some (.string s1)/\U.cell? ⟨ra,5,none⟩=some (.slice A1 o.length c1)) ((((((V.setCell r u0).setCell ⟨r,1,none⟩ u1).setCell ⟨r,2,none⟩ u2).setCell ⟨r,3,none⟩ u3).setCell ⟨r,4,none⟩ u4).setCell ⟨r,5,none⟩ u5)):=fun V u0 u1 u2 u3 u4 u5 h=>by simp only[FR];exact h
 cases Y with
 |none=>
  go_wp2_with fail;refine wp_region_held (S:=fun U:World=>U.cell? ra=some (.int .i64 k1)/\U.cell? ⟨ra,1,none⟩=some (.int .i64 o1)/\U.cell? ⟨ra,2,none⟩=some (.int .i64 R)/\U.cell? ⟨ra,3,none⟩=some (.int .i64 J)/\U.cell? ⟨ra,4,none⟩=some (.string s1)/\U.cell? ⟨ra,5,none⟩=some (.slice A1 o.length c1)) kp ?_;have ad:(fun U:World=>U.cell? ra=some (.int .i64 k1)/\U.cell? ⟨ra,1,none⟩=some (.int .i64 o1)/\U.cell? ⟨ra,2,none⟩=some (.int .i64 R)/\U.cell? ⟨ra,3,none⟩=some (.int .i64 J)/\U.cell? ⟨ra,4,none⟩=some (.string s1)/\U.cell? ⟨ra,5,none⟩=some (.slice A1 o.length c1)) w3.drew:=HK _ iR;refine wpAnyH_take (i:=0) (v:=.agg #[k1,o1,R,J,s1,.slice A1 o.length c1]) rfl kp kp kp (fun _ _ _ h=>h) (Or.inl ⟨by rfl,?_⟩) ad ?_
  ·intro U hU;try dsimp only at hU
   obtain⟨h0,h1,h2,h3,h4,h5⟩:=hU;go_simp
  try simp only[Act.put,sC]
  refine wpAnyH_take (i:=1) (v:=.pointer (some q)) rfl kp kp kp (fun _ _ _ h=>h) (Or.inl ⟨by rfl,?_⟩) ad ?_
  ·intro U hU;try dsimp only at hU
   obtain⟨h0,h1,h2,h3,h4,h5⟩:=hU;go_simp
  try simp only[Act.put,sC]
  refine wpAnyH_all (rs:=[2]) kp (by simp) ?_;intro j hj;simp only[la]at hj;subst hj;refine jE rfl rfl ?_;go_simp;go_at_call 71;refine (HC _ iR).mono ?_;rintro e w9 ⟨aZ,hY⟩;obtain⟨a,er,rfl,he⟩:=hY;unfold oD;exact⟨rfl,kf HX (ij (im aw0) (ij (ij a3 (im iR)) aZ)) (jz a er he)⟩
 |some y=>
 obtain⟨x9,r9⟩:=y;go_wp2_with fail;go_region_held3 (fun U=>U.cell? ra=some (.int .i64 k1)/\U.cell? ⟨ra,1,none⟩=some (.int .i64 o1)/\U.cell? ⟨ra,2,none⟩=some (.int .i64 R)/\U.cell? ⟨ra,3,none⟩=some (.int .i64 J)/\U.cell? ⟨ra,4,none⟩=some (.string s1)/\U.cell? ⟨ra,5,none⟩=some (.slice A1 o.length c1)) (first | exact HK.out _ iR | exact ax.out _ _ _ _ _ _ _ (HK.out _ iR)) (first | (go_at_call 71;(with_reducible refine (HC.out _ iR).mono ?_);rintro e w9 ⟨aZ,hY⟩;obtain⟨v9,i9,rfl,an,R9,ao,aQ⟩:=hY;obtain⟨⟨k9,o9,t9,z9,s9,A9,c9,a6⟩,aa,rfl,D9⟩:=an;have aM:ik (iz q w3) (iz q w9):=ij (im iR) aZ;have l9:Le (ra+1) w9:=⟨by have h1:=al.le;have h2:=lZ aM;omega⟩;rw[show (Tx.mk k9 o9 t9 z9 s9 A9 c9 a6).val=.agg #[k9,o9,t9,z9,s9,.slice A9 a6.length c9] from rfl];have aK:=R9.blk.is_le;have a9:=ij a3 aM;have I:qP w9 r oE:=lM (HB.out.after (k:=a9)) a8;obtain⟨n0,n1,n2,n3,n4,n5⟩:=I.cells;have nl:=jo I;have aF:=nL I 0;have aE:=nL I 1;have aD:=nL I 2;have aC:=nL I 3;have aB:=nL I 4;have az:=nL I 5;have R9:=iy R9;have D9:=iy D9;have aw:=iy aa;clear aa));obtain⟨g,hg⟩:=jt (w9.heap.size);have aq:w0.heap.size<=g:=by have h1:=lZ a9;omega
 obtain⟨ag,ab,av,au,a',ar⟩:∃v,w9.alloc (.cells #[k1,o1,R,J,s1,.slice A1 o.length c1,k9,o9,t9,z9,s9,.slice A9 a6.length c9] 73)=v/\Hid (Rd B q A c L en eA ec el v i9)/\ik (iz q w0) (iz q v)/\ik w9 v/\iP v g 73 #[k1,o1,R,J,s1,.slice A1 o.length c1,k9,o9,t9,z9,s9,.slice A9 a6.length c9]:=⟨_,rfl,iy (R9.after iR),ij a9 (im iR),iR,by rw[<- hg];exact jC ..⟩;have a_:qP ag r oE:=mZ (w:=w9) I;have E1:=D2.below (kj (q:=q) iu (ij (ij aT aM) (im a'))).below;have E9:=((D9.sub (iS (by have h1:=lZ a3;exact h1) w9))).below (jK a').below;have DY:=xS (ys:=[.mk k1 o1 R J s1 A1 c1 o,.mk k9 o9 t9 z9 s9 A9 c9 a6]) (yV ar aq) (by intro y hy;simp only[la]at hy;rcases hy with rfl | rfl;exact E1;exact E9) (by simp) 6 0 0 0 ⟨#[]⟩ iI;obtain⟨W,hW,EW,ae,aW,oW,sW⟩:=jY a_ av a8 (ij (im aw0) au) (lI hr) iu (.mk 6 0 0 0 ⟨#[]⟩ (some ⟨g,0,none⟩) 2 [.mk k1 o1 R J s1 A1 c1 o,.mk k9 o9 t9 z9 s9 A9 c9 a6]);simp only[txs,xT,Nat.reduceAdd]at hW;rw[hg,ab,hW];obtain⟨u0,u1,u2,u3,u4,u5⟩:=EW.cells;simp only[txs,xT,Nat.reduceAdd]at u0 u1 u2 u3 u4 u5;go_wp2;exact jR (v:=.agg #[.int .i64 6,.int .i64 0,.int .i64 0,.int .i64 0,.string ⟨#[]⟩,.slice (some g) 2 2]) (by simp[results,results71,go_sem,u0,u1,u2,u3,u4,u5]) rfl (lN (x:=.mk 6 0 0 0 ⟨#[]⟩ [x1,x9]) (show X=some (.mk 6 0 0 0 ⟨#[]⟩ [x1,x9],L.drop i9) from by rw[ao];exact HX) aW ⟨.mk 6 0 0 0 ⟨#[]⟩ (some ⟨g,0,none⟩) 2 [.mk k1 o1 R J s1 A1 c1 o,.mk k9 o9 t9 z9 s9 A9 c9 a6],by (rw[qp];simp only[mJ,tW];rw[aj,aw.out]),rfl,(DY.below (oW w0.heap.size iu).below).sub (iS iu W)⟩ ae rfl (by have h1:=af.out;omega))
end
end
section
section
variable {P:Program} {ops:Array Oper} {Q:Exit->Act->World->Prop} {md:Region.Mode} {S:World->Prop} {late:List Nat}
def zZ (md:Region.Mode) (ops:Array Oper) (late:List Nat) (listed:Array Bool) (i:Nat):Bool:=
 late.all fun j=>!listed.getD j false&&(match ops[j]? with
  |some o=>o.after.any fun e=>Region.binds md e&&(e.on==i||late.contains e.on)
  |none=>true)
def p_ (P:Program) (md:Region.Mode) (ops:Array Oper) (Q:Exit->Act->World->Prop) (S:World->Prop) (late:List Nat):Nat->Array Bool->Act->World->Prop
 |0,listed,a,w=>Region.ready md ops listed=[]/\Q .normal a w
 |fuel+1,listed,a,w=>
 (Region.ready md ops listed=[]->Q .normal a w) /\
 ∀i∈Region.ready md ops listed,wpOp P ops Q i (fun a' w'=>(late.contains i=false->S w')/\p_ P md ops Q S late fuel (listed.setIfInBounds i true) a' w') a w
theorem xU:∀(fuel:Nat) (listed:Array Bool) (a:Act) (w:World),p_ P md ops Q S late fuel listed a w->wpAny P md ops Q fuel listed a w
 |0,_,_,_,h=>h
 |fuel+1,_,_,_,h=>⟨h.1,fun i hi=>wpOp_mono (fun a' w' h'=>xU fuel _ a' w' h'.2) (h.2 i hi)⟩
theorem C6 {ch:List Nat} {listed:Array Bool} {i j:Nat} (hl:zZ md ops ch listed i=true) (hi:listed.getD i true=false) (hj:j∈Region.ready md ops listed):ch.contains j=false:=by
 cases hc:ch.contains j with
 |false=>rfl
 |true=>
 exfalso;have U:=Bk.1 hl j (by simpa using hc);obtain⟨a1,o,ho,J⟩:=mem_ready.1 hj;rw[ho]at U;simp only[mT,Array.any_eq_true',uG,beq_iff_eq]at U;obtain⟨-,e,he,hb,R⟩:=U;have I:=J e he hb;rcases R with R | R
 ·rw[R]at I
  rcases qa i listed.size with h' | h'
  ·simp[h']at hi I;rw[hi]at I;cases I
  simp[FF h']at I
 have h4:=Bk.1 hl e.on (by simpa using R);simp only[mT,IU]at h4;rw[h4.1]at I;cases I
theorem IW {ch:List Nat} {listed:Array Bool} {i j:Nat} (hl:zZ md ops ch listed i=true) (hj:ch.contains j=false):zZ md ops ch (listed.setIfInBounds j true) i=true:=by
 refine Bk.2 fun k I=>?_
 have J:=Bk.1 hl k I;have o:j≠k:=fun e=>by
  subst e;have:ch.contains j=true:=by simpa using I
  rw[this]at hj;cases hj
 rw[getD_set_ne false o];exact J
theorem FN {i:Nat} {oi:Oper} {v:Value} (hi:ops[i]?=some oi) (hsel:∀(j:Nat) (o:Oper) cs b,ops[j]?=some o->o.op≠.select cs b)
  (hQ:∀c a w,Q (.panic c) (a.put oi.dst v) w->Q (.panic c) a w) (ch:List Nat) (hch:late.all (ch.contains ·)=true) (hil:ch.contains i=false) :
  ∀(fuel:Nat) (listed:Array Bool) (a:Act) (w:World),zZ md ops ch listed i=true ->
   (∀j oj,ops[j]?=some oj->j≠i->listed.getD j true=false->(∀e∈oj.after,Region.binds md e=true->e.on≠i)->oi.apart ops oj=true) ->
   i∈Region.ready md ops listed->YieldsIf P ops S oi v a->S w ->
   p_ P md ops Q S late fuel (listed.setIfInBounds i true) (a.put oi.dst v) w->p_ P md ops Q S late (fuel+1) listed a w:=by
 intro fuel;induction fuel with
 |zero=>
  intro listed a w _ _ hr hy hS H;refine⟨fun h=>(by rw[h]at hr;cases hr),fun j hj=>?_⟩;by_cases I:j=i
  ·subst I;exact hy.wpOp hi hS ⟨fun _=>hS,H⟩
  have:=ready_mono hj I;rw[H.1]at this;cases this
 |succ fuel ih=>
 intro listed a w hl J hr hy hS H;refine⟨fun h=>(by rw[h]at hr;cases hr),fun j hj=>?_⟩;by_cases I:j=i
 ·subst I;exact hy.wpOp hi hS ⟨fun _=>hS,H⟩
 have a6:=(mem_ready.1 hr).1;have aa:=C6 hl a6 hj;have a_:late.contains j=false:=by
  cases hc:late.contains j with
  |false=>rfl
  |true=>
  have:=Bk.1 hch j (by simpa using hc);rw[aa]at this;cases this
 have h1:=H.2 j (ready_mono hj I);obtain⟨U,oj,a1,ad⟩:=mem_ready.1 hj;have a8:∀e∈oj.after,Region.binds md e=true->e.on≠i:=fun e he hb ag=>by
  have h2:=ad e he hb;rw[ag]at h2;rcases qa i listed.size with h' | h'
  ·simp[h']at a6 h2;rw[a6]at h2;cases h2
  simp[FF h']at h2
 have h2:=wpOp_putIf a1 (J j oj a1 I U a8) (fun cs b=>hsel i oi cs b hi) (fun cs b=>hsel j oj cs b a1) hQ hy h1;have R:∀k ok,ops[k]?=some ok->k≠i->(listed.setIfInBounds j true).getD k true=false ->
   (∀e∈ok.after,Region.binds md e=true->e.on≠i)->oi.apart ops ok=true:=fun k ok hk af a7 ae=>by
  refine J k ok hk af ?_ ae;by_cases ab:j=k
  ·subst ab;exact U
  rw[getD_set_ne true ab]at a7;exact a7
 refine wpOp_mono (fun a' w' h3=>⟨fun _=>h3.2.1 a_,ih (listed.setIfInBounds j true) a' w' (IW hl aa) R (ready_mono hr (ls I)) h3.1 (h3.2.1 a_) ?_⟩) h2;rw[Array.setIfInBounds_comm _ _ I];exact h3.2.2
theorem nZ (i:Nat) (ch:List Nat) {oi:Oper} (v:Value) {fuel:Nat} {listed:Array Bool} {a:Act} {w:World} (hi:ops[i]?=some oi)
  (hs:Region.noSelect ops=true) (hch:late.all (ch.contains ·)=true) (hl:zZ md ops ch listed i=true) (hil:ch.contains i=false) (hf:Region.free md ops listed i=true) (hr:(Region.ready md ops listed).contains i=true)
  (hQ:∀c a w,Q (.panic c) (a.put oi.dst v) w->Q (.panic c) a w) (hy:YieldsIf P ops S oi v a) (hS:S w)
  (h:p_ P md ops Q S late fuel (listed.setIfInBounds i true) (a.put oi.dst v) w):p_ P md ops Q S late (fuel+1) listed a w:=
 FN hi (Region.noSelect_spec hs) hQ ch hch hil fuel listed a w hl (Region.free_spec hi hf) (by simpa using hr) hy hS h
theorem jX {rs:List Nat} {fuel:Nat} {listed:Array Bool} {a:Act} {w:World} (hr:Region.ready md ops listed=rs) (hne:rs≠[])
  (h:∀i∈rs,wpOp P ops Q i (fun a' w'=>(late.contains i=false->S w')/\p_ P md ops Q S late fuel (listed.setIfInBounds i true) a' w') a w):p_ P md ops Q S late (fuel+1) listed a w:=
 ⟨fun h0=>absurd (hr▸h0) hne,hr▸h⟩
theorem IM {i:Nat} {o:Oper} {fuel:Nat} {listed:Array Bool} {a:Act} {w:World} (hr:Region.ready md ops listed=[i]) (hi:ops[i]?=some o) (hg:o.guard=none)
  (h:o.wp P a w (fun a' w'=>(late.contains i=false->S w')/\p_ P md ops Q S late fuel (listed.setIfInBounds i true) a' w') Q):p_ P md ops Q S late (fuel+1) listed a w:=
 jX hr (by simp) fun j hj=>by
  simp only[la]at hj;subst hj;exact jE hi hg h
theorem iT {listed:Array Bool} {a:Act} {w:World} (hr:Region.ready md ops listed=[]) (h:Q .normal a w) :
  ∀fuel,p_ P md ops Q S late fuel listed a w
 |0=>⟨hr,h⟩
 |_+1=>⟨fun _=>h,by rw[hr];simp⟩
theorem jm {id:Nat} {a:Act} {w:World} (S:World->Prop) (late:List Nat) (hm:P.follows .mixedOrders=true)
  (h:p_ P .any ops Q S late ops.size (Array.replicate ops.size false) a w.drew):(Code.region id ops true).wp P Q a w:=
 wp_region_any hm (xU _ _ _ _ h)
end
end
section
section
variable {B:World} {q:Nat} {A:Option Addr} {c:Nat} {L:List Tk} {en:Int} {eA:Option Addr} {ec:Nat} {el:List iW} {wz w1 W0:World} {i i0:Nat} {α β:Type} {Y:Option (α×List Tk)} {V:α->World->Value->Prop} {F:α×List Tk->Option β} {X:Option β} {P:Program} {f:FuncId} {args:Array Value} {Q:Ending->World->Prop}
theorem BC (HC:Calls P f args wz (pk B q A c L en eA ec el w1 i Y V)) (HX:Hid (X=Option.bind Y F)) (a:ik W0 (iz q w1)) (le:Hid (i0<=i))
  (hs:∀w2 x v i2,Y=some (x,L.drop i2)->V x w2 v->Hid (Rd B q A c L en eA ec el w2 i2)->Hid (X=F (x,L.drop i2))->Hid (i0<=i2)->i<=i2->ik (iz q w1) (iz q w2)->ik W0 (iz q w2)->Q (.returned v) w2)
  (hn:∀e w2,X=none->ik W0 (iz q w2)->Fl e->Q e w2:=by
   intro _ w2 HX J hf;obtain⟨a,I,rfl,j⟩:=hf;unfold oD;go_wp2_with fail;first | exact⟨rfl,kf HX (ij (im aw0) J) (jz a I j)⟩ | exact⟨rfl,kf rfl (ij (im aw0) J) (jz a I j)⟩ | exact⟨rfl,kf HX J (jz a I j)⟩):Calls P f args wz Q:=by
 refine HC.mono fun e w2 h=>?_
 obtain⟨o,U⟩:=h;cases Y with
 |none=>exact hn e w2 HX.out (ij a o) U
 |some y=>
 obtain⟨x,r⟩:=y;obtain⟨v,i2,rfl,hv,hR,hr,R⟩:=U;subst hr;exact hs w2 x v i2 rfl hv hR HX.out (jW le.out R) R o (ij a o)
theorem td (HC:Calls P f args wz (pk B q A c L en eA ec el w1 i Y V)) (HX:Hid (X=Option.bind Y F)) (a:ik W0 (iz q w1)) (le:Hid (i0<=i))
  (hs:∀w2 x v i2,V x w2 v->Hid (Rd B q A c L en eA ec el w2 i2)->Hid (X=F (x,L.drop i2))->Hid (i0<=i2)->i<=i2->ik (iz q w1) (iz q w2)->ik W0 (iz q w2)->Q (.returned v) w2)
  (hn:∀e w2,X=none->ik W0 (iz q w2)->Fl e->Q e w2:=by
   intro _ w2 HX I J;obtain⟨a,o,rfl,j⟩:=J;unfold oD;go_wp2_with fail;first | exact⟨rfl,kf HX (ij (im aw0) I) (jz a o j)⟩ | exact⟨rfl,kf rfl (ij (im aw0) I) (jz a o j)⟩ | exact⟨rfl,kf HX I (jz a o j)⟩):Calls P f args wz Q:=
 BC HC HX a le (fun w2 x v i2 _=>hs w2 x v i2) hn
end
end
section
section
variable {P:Program} {md:Region.Mode} {ops:Array Oper} {Q:Exit->Act->World->Prop} {S:World->Prop} {late:List Nat}
theorem wT (i:Nat) (ch:List Nat) (v:Value) {oi:Oper} {fuel:Nat} {listed:Array Bool} {a:Act} {w:World} (hS:S w)
  (h:p_ P md ops Q S late fuel (listed.setIfInBounds i true) (a.put oi.dst v) w)
  (hi:ops[i]?=some oi:=by rfl) (hs:Region.noSelect ops=true:=by kernel_rfl) (hch:late.all (ch.contains ·)=true:=by kernel_rfl) (hl:zZ md ops ch listed i=true:=by kernel_rfl) (hil:ch.contains i=false:=by kernel_rfl) (hf:Region.free md ops listed i=true:=by kernel_rfl) (hr:(Region.ready md ops listed).contains i=true:=by kernel_rfl)
  (hQ:∀c a w,Q (.panic c) (a.put oi.dst v) w->Q (.panic c) a w:=by exact fun _ _ _ h=>h)
  (hy:YieldsIf P ops S oi v a:=by
   refine Or.inl ⟨by rfl,?_⟩;intro U j;try dsimp only at j
   first | obtain⟨⟨I,o,J,h3,h4,R⟩,g0,g1,g2,g3,g4,g5⟩:=j | obtain⟨I,o,J,h3,h4,R⟩:=j | obtain⟨I,o,J⟩:=j | obtain⟨I,o⟩:=j | skip
   go_simp):p_ P md ops Q S late (fuel+1) listed a w:=
 nZ i ch v hi hs hch hl hil hf hr hQ hy hS h
theorem lH (i:Nat) {o:Oper} {fuel:Nat} {listed:Array Bool} {a:Act} {w:World}
  (h:o.wp P a w (fun a' w'=>(late.contains i=false->S w')/\p_ P md ops Q S late fuel (listed.setIfInBounds i true) a' w') Q)
  (hr:Region.ready md ops listed=[i]:=by kernel_rfl) (hi:ops[i]?=some o:=by rfl) (hg:o.guard=none:=by rfl):p_ P md ops Q S late (fuel+1) listed a w:=IM hr hi hg h
end
section
variable {B:World} {q:Nat} {A:Option Addr} {c:Nat} {L:List Tk} {en:Int} {eA:Option Addr} {ec:Nat} {el:List iW} {w1 W0:World} {i i0:Nat} {α:Type} {X U V:α} {Q:Ending->World->Prop}
theorem Dx (bs:ByteArray) (R:Rd B q A c L en eA ec el w1 i) (HX:Hid (X=if jq bs (L.drop i)=true then U else V)) (a:ik W0 (iz q w1)) (le:Hid (i0<=i))
  (hn:∀w2,Hid (Rd B q A c L en eA ec el w2 i)->Hid (X=V)->ik (iz q w1) (iz q w2)->ik W0 (iz q w2)->Hid (i0<=i)->Q (.returned (.bool false)) w2)
  (hy:∀w2,Hid (Rd B q A c L en eA ec el w2 (i+1))->Hid (X=U)->ik (iz q w1) (iz q w2)->ik W0 (iz q w2)->Hid (i0<=i+1)->i<L.length->Q (.returned (.bool true)) w2) :
  Calls prog 35 #[.pointer (some q),bs] w1 Q:=by
 refine (tB R bs).mono fun e w2 h=>?_
 obtain⟨z,o,rfl,I,j⟩:=h;cases z with
 |false=>exact hn w2 I (Hid.out HX |>.trans (iV (by rw[o];exact yE))) j (ij a j) le
 |true=>exact hy w2 I (Hid.out HX |>.trans (iG o)) j (ij a j) (wc le.out) (pI o)
end
end
section
section
variable {B:World} {q:Nat} {A:Option Addr} {c:Nat} {L:List Tk} {en:Int} {eA:Option Addr} {ec:Nat} {el:List iW} {w w0 w1:World} {i:Nat}
theorem Ps {k:Nat} (C:CX B q A c L en eA ec el k) (h:Rd B q A c L en eA ec el w i) (hk:20*(L.length-i)+9<=k+1+6):Calls prog 116 #[.pointer (some q),.int .i64 (6:Nat)] w (pk B q A c L en eA ec el w i (jB el (k+1) (6:Nat) (L.drop i)) (VX w.heap.size)):=by
 obtain⟨X,hX⟩:=jt (jB el (k+1) (6:Nat) (L.drop i));rw[hX];obtain⟨R,aa⟩:=jt (i);rw[aa]at hX h hk⊢;have HX:=iy hX.symm;have a7:Hid (R<=R):=js _;have hq:=h.blk.lt;have ab:=h.base;obtain⟨r,hr⟩:=jt (w.heap.size);have I:r≠q:=by omega
 have ak:q<r:=by omega
 obtain⟨w0,a_,aw0,B0,R0,s0⟩:=Ls h hr I #[.int .i64 0,.int .i64 0,.int .i64 0,.int .i64 0,.string ⟨#[]⟩,.slice none 0 0] 73;have HB:=iB B0;have a0:ik (iz q w0) (iz q w0):=iq _;go_in;go_wp2_with fail;try rw[hr]
 try rw[a_]
 have HX:Hid (X=xu el k (L.drop R)):=HX;have HC:=iB (C.u w0 R R0 (by omega));generalize al:xu el k (L.drop R)=Y at HC HX;go_wp2_with fail;refine HC.mono ?_;rintro e w1 ⟨aZ,hY⟩;have aZ:=ij a0 aZ;cases Y with
 |none=>
  obtain⟨a,er,rfl,he⟩:=hY;unfold oD;go_wp2;exact⟨rfl,kf HX (ij (im aw0) aZ) (jz a er he)⟩
 |some y=>
 obtain⟨x1,r1⟩:=y;obtain⟨v1,i1,rfl,a',RZ,hr,hi⟩:=hY;subst hr;have R1:=iB RZ;have a1:=aZ;have a6:Hid (R<=i1):=jW a7 hi;obtain⟨⟨k1,o1,t1,U,s1,A1,c1,j⟩,a8,rfl,D1⟩:=a';have o:(Tx.mk k1 o1 t1 U s1 A1 c1 j).val=.agg #[k1,o1,t1,U,s1,.slice A1 j.length c1]:=rfl;rw[o];have J:qP w1 r oE:=lM (HB.after (k:=a1)) I;obtain⟨n0,n1,n2,n3,n4,n5⟩:=J.cells;obtain⟨aj,ai,ah,ag,af,ae⟩:=jU J;obtain⟨W,hW,EW,ad,aW,oW,sW⟩:=jY J R1 I (ij (im aw0) a1) (lI hr) iu (.mk k1 o1 t1 U s1 A1 c1 j);simp only[txs]at hW;go_wp2_with fail;try rw[hW]
 obtain⟨u0,u1,u2,u3,u4,u5⟩:=EW.cells;simp only[txs]at u0 u1 u2 u3 u4 u5;exact jR (v:=.agg #[k1,o1,t1,U,s1,.slice A1 j.length c1]) (by simp[results,results116,go_sem,u0,u1,u2,u3,u4,u5]) rfl (lN (x:=x1) (show X=some (x1,L.drop i1) from HX) aW ⟨.mk k1 o1 t1 U s1 A1 c1 j,a8,rfl,((D1).below (oW w0.heap.size iu).below).sub (iS iu W)⟩ ad rfl (a6))
theorem Pu {k:Nat} (C:CX B q A c L en eA ec el k) (h:Rd B q A c L en eA ec el w i) (hk:20*(L.length-i)+9<=k+1+2):Calls prog 116 #[.pointer (some q),.int .i64 (2:Nat)] w (pk B q A c L en eA ec el w i (jB el (k+1) (2:Nat) (L.drop i)) (VX w.heap.size)):=by
 obtain⟨X,hX⟩:=jt (jB el (k+1) (2:Nat) (L.drop i));rw[hX];obtain⟨R,al⟩:=jt (i);rw[al]at hX h hk⊢;have o:=iy hX.symm;have ai:Hid (R<=R):=js _;have hq:=h.blk.lt;have ao:=h.base;obtain⟨r,hr⟩:=jt (w.heap.size);have a6:r≠q:=by omega
 have au:q<r:=by omega
 obtain⟨w0,ak,aw0,B0,R0,s0⟩:=Ls h hr a6 #[.int .i64 0,.int .i64 0,.int .i64 0,.int .i64 0,.string ⟨#[]⟩,.slice none 0 0] 73;have HB:=iy B0;have a0:ik (iz q w0) (iz q w0):=iq _;go_in;go_wp2_with fail;try rw[hr]
 try rw[ak]
 have o:=iy ((show X=if (2:Int)=2 then (if jq ⟨#[110,111,116]⟩ (L.drop R) then (jB el k 2 (L.drop R).tail).bind fun (a,r)=>some (.mk 3 1 0 0 ⟨#[]⟩ [a],r) else jB el k 3 (L.drop R)) else _ from o).trans (iG rfl));go_wp2_with fail;refine Dx ⟨#[110,111,116]⟩ R0 o a0 ai ?_ ?_
 ·clear o;intro w1 R1 o _ a1 a8
  have HC:=iB (C.l w1 R 3 (by decide) R1 (by omega));have o:Hid (X=jB el k ((3:Nat):Int) (L.drop R)):=o;have HC:=iB (C.l w1 R 3 (by decide) R1 (by omega));generalize aq:jB el k ((3:Nat):Int) (L.drop R)=Y at HC o;go_wp2_with fail;refine HC.mono ?_;rintro e w2 ⟨aZ,hY⟩;have aZ:=ij a1 aZ;cases Y with
  |none=>
   obtain⟨a,er,rfl,he⟩:=hY;unfold oD;go_wp2;exact⟨rfl,kf o (ij (im aw0) aZ) (jz a er he)⟩
  |some y=>
  obtain⟨x2,r2⟩:=y;obtain⟨v2,i2,rfl,a',RZ,hr,hi⟩:=hY;subst hr;have R2:=iB RZ;have a2:=aZ;have a7:Hid (R<=i2):=jW a8 hi;obtain⟨⟨k2,o2,t2,U,s2,A2,c2,j⟩,a_,rfl,D2⟩:=a';have J:(Tx.mk k2 o2 t2 U s2 A2 c2 j).val=.agg #[k2,o2,t2,U,s2,.slice A2 j.length c2]:=rfl;rw[J];have I:qP w2 r oE:=lM (HB.after (k:=a2)) a6;obtain⟨n0,n1,n2,n3,n4,n5⟩:=I.cells;have nl:=jo I;obtain⟨ah,ag,af,ae,ad,ab⟩:=jU I;have D3:=D2.sub (iS (by have h1:=lZ a1;exact h1) w2);obtain⟨W,hW,EW,aa,aW,oW,sW⟩:=jY I R2 a6 (ij (im aw0) a2) (lI hr) iu (.mk k2 o2 t2 U s2 A2 c2 j);simp only[txs]at hW;go_wp2_with fail;try rw[hW]
  obtain⟨u0,u1,u2,u3,u4,u5⟩:=EW.cells;simp only[txs]at u0 u1 u2 u3 u4 u5;exact jR (v:=.agg #[k2,o2,t2,U,s2,.slice A2 j.length c2]) (by simp[results,results116,go_sem,u0,u1,u2,u3,u4,u5]) rfl (lN (x:=x2) (show X=some (x2,L.drop i2) from o) aW ⟨.mk k2 o2 t2 U s2 A2 c2 j,a_,rfl,((D3).below (oW w0.heap.size iu).below).sub (iS iu W)⟩ aa rfl (a7))
 clear o;intro w1 R1 o _ a1 a8 ar;rw[tail_drop]at o;have HC:=iy (C.l w1 (R+1) 2 iI R1 iu);have o:Hid (X=Option.bind (jB el k ((2:Nat):Int) (L.drop (R+1))) _):=o;generalize aq:jB el k ((2:Nat):Int) (L.drop (R+1))=Y at HC o;go_wp2_with fail;refine HC.mono ?_;rintro e w2 ⟨aZ,hY⟩;have aZ:=ij a1 aZ;cases Y with
 |none=>
  obtain⟨a,er,rfl,he⟩:=hY;unfold oD;go_wp2;exact⟨rfl,kf o (ij (im aw0) aZ) (jz a er he)⟩
 |some y=>
 obtain⟨x2,r2⟩:=y;obtain⟨v2,i2,rfl,a',RZ,hr,hi⟩:=hY;subst hr;have R2:=iB RZ;have a2:=aZ;have a7:Hid (R<=i2):=jW a8 hi;obtain⟨⟨k2,o2,t2,U,s2,A2,c2,j⟩,a_,rfl,D2⟩:=a';have J:(Tx.mk k2 o2 t2 U s2 A2 c2 j).val=.agg #[k2,o2,t2,U,s2,.slice A2 j.length c2]:=rfl;rw[J];obtain⟨g,hg⟩:∃g,w2.heap.size=g:=⟨_,rfl⟩;have an:w0.heap.size<=g:=by have h1:=lZ a2;omega
 obtain⟨w3,aj,R3,a3,o3,g3⟩:∃v,w2.alloc (.cells #[k2,o2,t2,U,s2,.slice A2 j.length c2] 73)=v/\Hid (Rd B q A c L en eA ec el v i2)/\ik (iz q w0) (iz q v)/\ik w2 v/\iP v g 73 #[k2,o2,t2,U,s2,.slice A2 j.length c2]:=⟨_,rfl,iB (R2.after inferInstance),ij a2 (im inferInstance),inferInstance,by rw[<- hg];exact jC ..⟩;have I:qP w3 r oE:=lM (HB.after (k:=a3)) a6;obtain⟨n0,n1,n2,n3,n4,n5⟩:=I.cells;obtain⟨ah,ag,af,ae,ad,ab⟩:=jU I;have E2:=(D2.sub (iS (by have h1:=lZ a1;exact h1) w2)).below (jK o3).below;have DY:=xS (ys:=[.mk k2 o2 t2 U s2 A2 c2 j]) (yV g3 an) (by intro y hy;simp only[la]at hy;subst hy;exact E2) (by simp) 3 1 0 0 ⟨#[]⟩ iI;go_wp2_with fail;try rw[hg]
 try rw[aj]
 obtain⟨W,hW,EW,aa,aW,oW,sW⟩:=jY I R3 a6 (ij (im aw0) a3) (lI hr) iu (.mk 3 1 0 0 ⟨#[]⟩ (some ⟨g,0,none⟩) 1 [.mk k2 o2 t2 U s2 A2 c2 j]);simp only[txs,xT,Nat.reduceAdd]at hW;go_wp2_with fail;try rw[hW]
 obtain⟨u0,u1,u2,u3,u4,u5⟩:=EW.cells;simp only[txs,xT,Nat.reduceAdd]at u0 u1 u2 u3 u4 u5;exact jR (v:=.agg #[.int .i64 3,.int .i64 1,.int .i64 0,.int .i64 0,.string ⟨#[]⟩,.slice (some g) 1 1]) (by simp[results,results116,go_sem,u0,u1,u2,u3,u4,u5]) rfl (lN (x:=.mk 3 1 0 0 ⟨#[]⟩ [x2]) (show X=some (.mk 3 1 0 0 ⟨#[]⟩ [x2],L.drop i2) from o) aW ⟨.mk 3 1 0 0 ⟨#[]⟩ (some ⟨g,0,none⟩) 1 [.mk k2 o2 t2 U s2 A2 c2 j],by (rw[qp];simp only[mJ,tW];rw[a_]),rfl,((DY).below (oW w0.heap.size iu).below).sub (iS iu W)⟩ aa rfl (a7))
end
end
section
def nw (r n:Nat) (w:World):World:=iz r (old n w)
section
variable {q r n m:Nat} {w w':World}
theorem tS (hq:q<n) (a:ik (iz q w) (iz q w')):ik (nw r n w) (nw r n w'):=im (kj hq a)
theorem Ii (a:ik w w'):ik (nw r n w) (nw r n w'):=im (jK a)
theorem zV:CU (nw r n w) (old n w):=yI r (old n w)
theorem yo (w:World) (i:Nat) (v:Value):ik (nw r n w) (nw r n (w.setCell ⟨r,i,none⟩ v)):=by
 unfold nw;refine⟨⟨rfl,rfl,rfl,by rw[iZ,iZ,ku,ku,jc];exact js _,fun b j=>?_⟩⟩;rw[iZ,ku]at j;by_cases o:b=r
 ·subst o
  have J:=tN (q:=b) (old n w) (by rw[ku];exact j);have I:=tN (q:=b) (old n (w.setCell ⟨b,i,none⟩ v)) (by rw[ku,jc];exact j);rw[J,I]
 rw[km _ o,km _ o];by_cases e:b<n
 ·rw[qZ w e j,qZ _ e (by rw[jc];exact j)]
 rw[lV w (wb e),lV _ (wb e)];exact Below.heap_setCell w _ v b (by show b≠r;exact o)
theorem FE (o:Obj) (hr:w.heap.size=r):ik (old n w) (nw r n (w.alloc o)):=by
 have a:ik (old n w) (old n (w.alloc o)):=jK inferInstance;refine⟨⟨a.below.os,a.below.tape,a.below.output,by unfold nw;rw[iZ];exact a.below.size,fun b j=>?_⟩⟩;rw[ku]at j;unfold nw;rw[km _ iu];exact a.below.block b (by rw[ku];exact j)
theorem L8 (hm:n<=m) (hr:r<m) (w:World):CU (old m w) (nw r n w):=by
 refine⟨by unfold nw;rw[iZ,ku,ku];exact js _,fun b o v j=>?_⟩;by_cases e:b<m
 ·exact (C9 w e j).elim
 have I:=wb e;unfold nw;rw[Dj (w:=old m w) (w':=iz r (old n w)) (a:=⟨b,o,none⟩) ((km (q:=r) (old n w) (by show b≠r;omega)).trans ((lV w (jW hm I)).trans (lV w I).symm))];exact j
theorem JB (w:World) (u0 u1 u2 u3 u4 u5:Value):ik (nw r n w) (nw r n ((((((w.setCell r u0).setCell ⟨r,1,none⟩ u1).setCell ⟨r,2,none⟩ u2).setCell ⟨r,3,none⟩ u3).setCell ⟨r,4,none⟩ u4).setCell ⟨r,5,none⟩ u5)):=
 ij (ij (ij (ij (ij (yo _ 0 _) (yo _ 1 _)) (yo _ 2 _)) (yo _ 3 _)) (yo _ 4 _)) (yo _ 5 _)
theorem iP.nw {b:Nat} {t:TypeId} {cs:Array Value} (h:iP w b t cs) (hb:n<=b) (hr:b≠r):iP (nw r n w) b t cs:=BR (yV h hb) hr
end
end
end Go.Proofs.YtnigblndonocfaaGreatDoor
