/- A part of the proof. -/
import Derived.Test.YtnigblndonocfaaGreatDoorPNw
set_option linter.unusedVariables false
set_option linter.unusedSimpArgs false
namespace Go.Proofs.YtnigblndonocfaaGreatDoor
set_option maxRecDepth 100000
set_option maxHeartbeats 3200000
open Go.Proofs.Tryz
open Go.RowKit Go.BigFrame
section
section
variable {B:World} {q:Nat} {A:Option Addr} {c:Nat} {L:List Tk} {en:Int} {eA:Option Addr} {ec:Nat} {el:List iW} {w w0 w1:World} {i:Nat}
theorem CX.lz {k:Nat} (C:CX B q A c L en eA ec el k) (w:World) (i:Nat) (n:Int) (h0:0<=n) (h6:n<=6) (R:Rd B q A c L en eA ec el w i) (hk:20*(L.length-i)+9<=k+n.toNat):Calls prog 116 #[.pointer (some q),n] w (pk B q A c L en eA ec el w i (jB el k n (L.drop i)) (VX w.heap.size)):=by
 have:=C.l w i n.toNat iu R hk;rwa [Int.toNat_of_nonneg h0]at this
theorem O4 {k n:Nat} (h5:n<=5) (h2:n≠2) (C:∀j≤k,CX B q A c L en eA ec el j) (h:Rd B q A c L en eA ec el w i) (hk:20*(L.length-i)+9<=k+1+n):Calls prog 116 #[.pointer (some q),.int .i64 (n:Nat)] w (pk B q A c L en eA ec el w i (jB el (k+1) (n:Nat) (L.drop i)) (VX w.heap.size)):=by
 have bb:((n:Int)==2)=false:=by rw[beq_eq_false_iff_ne];omega
 have ba:((n:Int)==6)=false:=by rw[beq_eq_false_iff_ne];omega
 have aX:¬((n:Int)=2):=by omega
 have aV:¬((n:Int)=6):=by omega
 obtain⟨X,hX⟩:∃X,jB el (k+1) (n:Nat) (L.drop i)=X:=⟨_,rfl⟩;rw[hX];obtain⟨i0,b1⟩:∃j,i=j:=⟨_,rfl⟩;rw[b1]at hX h hk⊢;have I:=iB hX.symm;have aK:Hid (i0<=i0):=js _;have hq:=h.blk.lt;have b2:=h.base;obtain⟨r,hr⟩:∃r,w.heap.size=r:=⟨_,rfl⟩;have a_:r≠q:=by omega
 have b':q<r:=by omega
 obtain⟨w0,aR,aw0,B0,R0,s0⟩:=Ls h hr a_ #[.int .i64 0,.int .i64 0,.int .i64 0,.int .i64 0,.string ⟨#[]⟩,.slice none 0 0] 73;have HB:=iB B0;have a0:ik (iz q w0) (iz q w0):=iq _;go_in;go_wp2_with fail;try rw[hr]
 try rw[aR]
 have I:=iB (((show X=if (n:Int)=2 then _ else if (n:Int)=6 then _ else (jB el k ((n:Int)+1) (L.drop i0)).bind fun (a,r)=>sK el k n a r from I).trans (iV aX)).trans (iV aV));have HC:=iB ((C k (js k)).lz w0 i0 ((n:Int)+1) (by omega) (by omega) R0 (by omega));have I:Hid (X=Option.bind (jB el k ((n:Int)+1) (L.drop i0)) _):=I;generalize bg:jB el k ((n:Int)+1) (L.drop i0)=Y at HC I;go_wp2_with fail;refine HC.mono ?_;rintro e w1 ⟨aZ,hY⟩;have aZ:=ij a0 aZ;cases Y with
 |none=>
  obtain⟨a,er,rfl,he⟩:=hY;unfold oD;go_wp2;exact⟨rfl,kf I (ij (im aw0) aZ) (jz a er he)⟩
 |some y=>
 obtain⟨x1,r1⟩:=y;obtain⟨v1,i1,rfl,aT,RZ,hr,hi⟩:=hY;subst hr;have R1:=iB RZ;have a1:=aZ;have av:Hid (i0<=i1):=jW aK hi;obtain⟨⟨k1,o1,t1,z1,s1,A1,c1,a8⟩,aO,rfl,D1⟩:=aT;have ah:(Tx.mk k1 o1 t1 z1 s1 A1 c1 a8).val=.agg #[k1,o1,t1,z1,s1,.slice A1 a8.length c1]:=rfl;rw[ah];have I:Hid (X=sK el k n x1 (L.drop i1)):=I;obtain⟨ra,ai⟩:∃ra,w1.heap.size=ra:=⟨_,rfl⟩;have bf:r<ra:=by have:=lZ a1;omega
 obtain⟨w2,aQ,BA,R2,a2,D2,l2⟩:∃v,w1.alloc (.cells #[k1,o1,t1,z1,s1,.slice A1 a8.length c1] 73)=v/\Hid (qP v ra (.mk k1 o1 t1 z1 s1 A1 c1 a8))/\Hid (Rd B q A c L en eA ec el v i1)/\ik (iz q w0) (iz q v)/\Hid (RX (nw ra w0.heap.size v) (.mk k1 o1 t1 z1 s1 A1 c1 a8))/\ra<v.heap.size:=⟨_,rfl,by rw[<- ai];exact jC ..,R1.after inferInstance,ij a1 (im inferInstance),D1.below (FE _ ai).below,by rw[iH];omega⟩;have aY:20*(L.length-i1)+9<=k+1+n:=by have:=av.out;omega
 go_wp2_with fail;try rw[ai]
 try rw[aQ]
 go_loopw [] (fun wr=>∃(i' m:Nat) (x:Ex) (y:Tx),m<=k/\Hid (i0<=i')/\Hid (y.er=x)/\Hid (X=sK el m n x (L.drop i'))/\20*(L.length-i')+9<=m+1+n/\Hid (Rd B q A c L en eA ec el wr i')/\Hid (qP wr ra y)/\Hid (RX (nw ra w0.heap.size wr) y)/\ik (iz q w0) (iz q wr)) (fun wr=>L.length-lO wr q 2)
 case atStart=>exact⟨i1,k,x1,_,js k,av,aO,I,aY,R2,BA,D2,a2⟩
 case round=>
 obtain⟨i2,m,x,⟨k2,o2,t2,z2,s2,A2,c2,o⟩,bc,af,ax,I,bd,R2,BA,D2,aw⟩:=hrel;obtain⟨m,rfl⟩:∃j,m=j+1:=⟨m-1,by omega⟩;have d1:Hid (lO wr q 2=i2):=iB (je R2.fields.2.2.1);have I:Hid (X=match Ia n (L.drop i2) with | none=>some (x,L.drop i2) | some R=>(jB el m ((n:Int)+1) (L.drop i2).tail).bind fun (b,r)=>if (n:Int)=3 then some (.mk 3 R 0 0 ⟨#[]⟩ [x,b],r) else sK el m n (.mk 3 R 0 0 ⟨#[]⟩ [x,b]) r):=I;have HC:=iB (Fv R2 (n:Int));have aA:∀R,Ia n (L.drop i2)=some R->i2<L.length:=fun R ho=>by rcases qa i2 L.length with h1 | h1;exact h1;rw[Bn h1]at ho;cases ho
 generalize Ia n (L.drop i2)=O at HC I aA;go_wp2_with fail;refine HC.mono ?_;rintro e w3 ⟨a3,hO⟩;have R3:=iB (R2.after a3);have ae:qP w3 ra (.mk k2 o2 t2 z2 s2 A2 c2 o):=mZ (w:=wr) BA;have D3:Hid (RX (nw ra w0.heap.size w3) (.mk k2 o2 t2 z2 s2 A2 c2 o)):=iB (D2.below (Ii a3).below);have aw:=ij aw (im (q:=q) a3);cases O with
 |none=>
  obtain⟨c9,hO⟩:=hO;subst hO;have I:Hid (X=some (x,L.drop i2)):=I;obtain⟨m0,m1,m2,m3,m4,m5⟩:=ae.cells;have ml:=jo ae;obtain⟨au,ar,aq,ao,an,ak⟩:=jU ae;simp only[txs]at m0 m1 m2 m3 m4 m5;have a7:qP w3 r oE:=lM (HB.after (k:=aw)) a_;obtain⟨n0,n1,n2,n3,n4,n5⟩:=a7.cells;have nl:=jo a7;obtain⟨aJ,aI,aH,aG,aF,aE⟩:=jU a7;obtain⟨W,hW,EW,a6,aW,oW,sW⟩:=jY a7 R3 a_ (ij (im aw0) aw) (lI hr) (by omega) (.mk k2 o2 t2 z2 s2 A2 c2 o);simp only[txs]at hW;go_wp2_with fail;try rw[hW]
  obtain⟨u0,u1,u2,u3,u4,u5⟩:=EW.cells;simp only[txs]at u0 u1 u2 u3 u4 u5;exact jR (v:=.agg #[k2,o2,t2,z2,s2,.slice A2 o.length c2]) (by simp[results,results116,go_sem,u0,u1,u2,u3,u4,u5]) rfl (lN (x:=x) (show X=some (x,L.drop i2) from I) aW ⟨.mk k2 o2 t2 z2 s2 A2 c2 o,ax,rfl,(((D3.sub zV)).below (oW w0.heap.size (by omega)).below).sub (iS (by omega) W)⟩ a6 rfl (af))
 |some R=>
 have hO:e=_:=hO;subst hO;have b0:=aA R rfl;have I:Hid (X=(jB el m ((n:Int)+1) (L.drop i2).tail).bind fun (b,r)=>if (n:Int)=3 then some (.mk 3 R 0 0 ⟨#[]⟩ [x,b],r) else sK el m n (.mk 3 R 0 0 ⟨#[]⟩ [x,b]) r):=I;rw[tail_drop]at I;obtain⟨c0,c1,bj,c3,f2,l0⟩:=R3.fields;have b6:=R3.few;have ab:ra≠q:=by omega
 have az:q<w0.heap.size:=by omega
 obtain⟨w4,aP,R4,a4,B4,D4,s4⟩:∃v,w3.setCell ⟨q,2,none⟩ (.int .i64 ((i2:Int)+1))=v/\Hid (Rd B q A c L en eA ec el v (i2+1))/\ik (iz q w0) (iz q v)/\qP v ra (.mk k2 o2 t2 z2 s2 A2 c2 o)/\Hid (RX (nw ra w0.heap.size v) (.mk k2 o2 t2 z2 s2 A2 c2 o))/\v.heap.size=w3.heap.size:=⟨_,rfl,R3.move (j:=i2+1) b0,by rw[jJ];exact aw,ae.qU (p:=⟨q,2,none⟩) ab _,D3.below (tS (q:=q) az (by rw[jJ];exact iq _)).below,jc ..⟩;go_wp2_with fail;try rw[aP]
 have HC:Hid (∀U,ik w4 U->Calls prog 116 #[.pointer (some q),.int .i64 ((n:Int)+1)] U (pk B q A c L en eA ec el U (i2+1) (jB el m ((n:Int)+1) (L.drop (i2+1))) (VX U.heap.size))):=fun U hU=>(C m (by omega)).lz U (i2+1) ((n:Int)+1) (by omega) (by omega) (R4.after hU) (by omega)
 generalize jB el m ((n:Int)+1) (L.drop (i2+1))=Y at HC I;have HK:Hid (∀U,ik (iz q w4) (iz q U)->(U.cell? ra=some (.int .i64 k2)/\U.cell? ⟨ra,1,none⟩=some (.int .i64 o2)/\U.cell? ⟨ra,2,none⟩=some (.int .i64 t2)/\U.cell? ⟨ra,3,none⟩=some (.int .i64 z2)/\U.cell? ⟨ra,4,none⟩=some (.string s2)/\U.cell? ⟨ra,5,none⟩=some (.slice A2 o.length c2))):=fun U hU=>Iy (kq B4 ab hU)
 have al:=jo B4;have b_:IntKind.i64.wrap ((n:Int)+1)=(n:Int)+1:=IntWalk.i64_in _ (by omega);refine jm (fun U:World=>U.cell? ra=some (.int .i64 k2)/\U.cell? ⟨ra,1,none⟩=some (.int .i64 o2)/\U.cell? ⟨ra,2,none⟩=some (.int .i64 t2)/\U.cell? ⟨ra,3,none⟩=some (.int .i64 z2)/\U.cell? ⟨ra,4,none⟩=some (.string s2)/\U.cell? ⟨ra,5,none⟩=some (.slice A2 o.length c2)) [7,8] (by kernel_rfl) ?_;have a':(fun U:World=>U.cell? ra=some (.int .i64 k2)/\U.cell? ⟨ra,1,none⟩=some (.int .i64 o2)/\U.cell? ⟨ra,2,none⟩=some (.int .i64 t2)/\U.cell? ⟨ra,3,none⟩=some (.int .i64 z2)/\U.cell? ⟨ra,4,none⟩=some (.string s2)/\U.cell? ⟨ra,5,none⟩=some (.slice A2 o.length c2)) w4.drew:=HK _ inferInstance;refine wT 0 [7,8] (.int .i64 R) a' ?_;try simp only[Act.put,oF,oB,oq]
 refine wT 1 [6,7,8] (.agg #[k2,o2,t2,z2,s2,.slice A2 o.length c2]) a' ?_;try simp only[Act.put,oF,oB,oq]
 refine wT 2 [5,6,7,8] (.pointer (some q)) a' ?_;try simp only[Act.put,oF,oB,oq]
 refine wT 3 [4,5,6,7,8] (.int .i64 (n:Nat)) a' ?_;try simp only[Act.put,oF,oB,oq]
 refine wT 4 [5,6,7,8] (.int .i64 ((n:Int)+1)) a' ?_;try simp only[Act.put,oF,oB,oq]
 refine lH 5 ?_;go_simp;go_at_call 116;refine (HC _ inferInstance).mono ?_;rintro e w9 ⟨aZ,hY⟩;have aM:ik (iz q w4) (iz q w9):=ij (im inferInstance) aZ;cases Y with
 |none=>
  obtain⟨a,er,rfl,he⟩:=hY;unfold oD;exact⟨rfl,kf I (ij (im aw0) (ij a4 aM)) (jz a er he)⟩
 |some y=>
 obtain⟨x9,r9⟩:=y;obtain⟨v9,i9,rfl,aS,R9,aU,be⟩:=hY;subst aU;obtain⟨⟨k9,o9,t9,z9,s9,A9,c9,J⟩,aN,rfl,D9⟩:=aS;have ag:(Tx.mk k9 o9 t9 z9 s9 A9 c9 J).val=.agg #[k9,o9,t9,z9,s9,.slice A9 J.length c9]:=rfl;rw[ag];have l9:Le (ra+1) w9:=⟨by have h1:=al.le;have h2:=lZ aM;omega⟩;have b7:=R9.blk.is_le
 (first | refine⟨HK _ aM,?_⟩ | refine⟨fun _=>HK _ aM,?_⟩)
 obtain⟨g,hg⟩:∃g,w9.heap.size=g:=⟨_,rfl⟩;have b9:w4.heap.size<=g:=by have h2:=lZ aM;omega
 have aL:w0.heap.size<=w4.heap.size:=by have h2:=lZ a4;exact h2
 have b3:ra<w4.heap.size:=al.le;obtain⟨w10,ay,b5,ad,aD,b4,aa⟩:∃v,w9.alloc (.cells #[k2,o2,t2,z2,s2,.slice A2 o.length c2,k9,o9,t9,z9,s9,.slice A9 J.length c9] 73)=v/\Hid (Rd B q A c L en eA ec el v i9)/\ik (iz q w4) (iz q v)/\ik w9 v/\iP v g 73 #[k2,o2,t2,z2,s2,.slice A2 o.length c2,k9,o9,t9,z9,s9,.slice A9 J.length c9]/\qP v ra (.mk k2 o2 t2 z2 s2 A2 c2 o):=⟨_,rfl,iB (R9.after inferInstance),ij aM (im inferInstance),inferInstance,by rw[<- hg];exact jC ..,iP.alloc (kq B4 ab aM) _⟩;have E2:RX (nw ra w0.heap.size w10) (.mk k2 o2 t2 z2 s2 A2 c2 o):=D4.below (tS (q:=q) az ad).below;have E9:RX (nw ra w0.heap.size w10) (.mk k9 o9 t9 z9 s9 A9 c9 J):=(D9.sub (L8 (n:=w0.heap.size) (by show w0.heap.size<=w4.drew.heap.size;exact aL) (by show ra<w4.drew.heap.size;exact b3) w9)).below (Ii aD).below;have DY:RX (nw ra w0.heap.size w10) (.mk 3 R 0 0 ⟨#[]⟩ (some ⟨g,0,none⟩) 2 [.mk k2 o2 t2 z2 s2 A2 c2 o,.mk k9 o9 t9 z9 s9 A9 c9 J]):=xS (ys:=[.mk k2 o2 t2 z2 s2 A2 c2 o,.mk k9 o9 t9 z9 s9 A9 c9 J]) (iP.nw b4 (by omega) (by omega)) (by intro y hy;simp only[la]at hy;rcases hy with rfl | rfl;exact E2;exact E9) (by simp) 3 R 0 0 ⟨#[]⟩ (by decide);obtain⟨W,hW,EW,a6,aW,oW,sW⟩:=jY (w0:=w0) aa b5 ab (ij a4 ad) (by omega) (by omega) (.mk 3 R 0 0 ⟨#[]⟩ (some ⟨g,0,none⟩) 2 [.mk k2 o2 t2 z2 s2 A2 c2 o,.mk k9 o9 t9 z9 s9 A9 c9 J]);simp only[txs,xT,Nat.reduceAdd]at hW;have DW:Hid (RX (nw ra w0.heap.size W) (.mk 3 R 0 0 ⟨#[]⟩ (some ⟨g,0,none⟩) 2 [.mk k2 o2 t2 z2 s2 A2 c2 o,.mk k9 o9 t9 z9 s9 A9 c9 J])):=DY.below (by rw[<- hW];exact (JB _ _ _ _ _ _ _).below)
 refine lH 6 ?_;go_simp;try rw[hg]
 try rw[ay]
 (first | refine⟨HK _ ad,?_⟩ | refine⟨fun _=>HK _ ad,?_⟩)
 have b8:Le (ra+1) w10:=aa.is_le;refine lH 7 ?_;go_simp;try refine kL ?_
 obtain⟨m0,m1,m2,m3,m4,m5⟩:=aa.cells;have ml:=jo aa;obtain⟨au,ar,aq,ao,an,ak⟩:=jU aa;simp only[txs]at m0 m1 m2 m3 m4 m5;refine lH 8 ?_;go_simp;try refine kL ?_
 try rw[hW]
 refine iT (by kernel_rfl) ?_ _;have aB:Hid ((.mk 3 R 0 0 ⟨#[]⟩ (some ⟨g,0,none⟩) 2 [.mk k2 o2 t2 z2 s2 A2 c2 o,.mk k9 o9 t9 z9 s9 A9 c9 J]:Tx).er=.mk 3 R 0 0 ⟨#[]⟩ [x,x9]):=by (show _=_;rw[qp];simp only[mJ,tW];rw[ax.out,aN])
 have EW:=iB EW;have a6:=iB a6;have aC:Hid (X=if (n:Int)=3 then some (.mk 3 R 0 0 ⟨#[]⟩ [x,x9],L.drop i9) else sK el m n (.mk 3 R 0 0 ⟨#[]⟩ [x,x9]) (L.drop i9)):=I;by_cases h3:(n:Int)=3
 ·skip
  have I:=iB (aC.trans (iG h3));have bh:((n:Int)==3)=true:=by rw[h3];rfl
  have h3:=iB h3;have aj:=EW.out;obtain⟨m0,m1,m2,m3,m4,m5⟩:=aj.cells;have ml:=jo aj;obtain⟨au,ar,aq,ao,an,ak⟩:=jU aj;simp only[txs,xT,Nat.reduceAdd]at m0 m1 m2 m3 m4 m5;have a7:qP W r oE:=lM (HB.after (k:=aW)) a_;obtain⟨n0,n1,n2,n3,n4,n5⟩:=a7.cells;obtain⟨aJ,aI,aH,aG,aF,aE⟩:=jU a7;obtain⟨W,hW,EW,a6,aW,oW,sW⟩:=jY a7 a6 a_ (ij (im aw0) aW) (lI hr) iu (.mk 3 R 0 0 ⟨#[]⟩ (some ⟨g,0,none⟩) 2 [.mk k2 o2 t2 z2 s2 A2 c2 o,.mk k9 o9 t9 z9 s9 A9 c9 J]);simp only[txs,xT,Nat.reduceAdd]at hW;go_wp2_with fail;try rw[hW]
  obtain⟨u0,u1,u2,u3,u4,u5⟩:=EW.cells;simp only[txs,xT,Nat.reduceAdd]at u0 u1 u2 u3 u4 u5;exact jR (v:=.agg #[.int .i64 3,R,.int .i64 0,.int .i64 0,.string ⟨#[]⟩,.slice (some g) 2 2]) (by simp[results,results116,go_sem,u0,u1,u2,u3,u4,u5]) rfl (lN (x:=.mk 3 R 0 0 ⟨#[]⟩ [x,x9]) (show X=some (.mk 3 R 0 0 ⟨#[]⟩ [x,x9],L.drop i9) from I.out) aW ⟨.mk 3 R 0 0 ⟨#[]⟩ (some ⟨g,0,none⟩) 2 [.mk k2 o2 t2 z2 s2 A2 c2 o,.mk k9 o9 t9 z9 s9 A9 c9 J],aB.out,rfl,(((DW.out.sub zV)).below (oW w0.heap.size iu).below).sub (iS iu W)⟩ a6 rfl (by have:=af.out;omega))
 have I:=iy (aC.trans (iV h3));go_wp2;go_roundw
 case rel=>exact⟨i9,m,_,_,iu,iy (by have:=af.out;omega),aB,I,iu,a6,EW,DW,aW⟩
 case measure=>(rw[je a6.out.fields.2.2.1,d1.out];have:=a6.le;omega)
theorem I8 {k n:Nat} (h6:n<=6) (C:∀j≤k,CX B q A c L en eA ec el j) (h:Rd B q A c L en eA ec el w i) (hk:20*(L.length-i)+9<=k+1+n):Calls prog 116 #[.pointer (some q),.int .i64 (n:Nat)] w (pk B q A c L en eA ec el w i (jB el (k+1) (n:Nat) (L.drop i)) (VX w.heap.size)):=by
 by_cases o:n=2
 ·subst o;exact Pu (C k (js k)) h hk
 by_cases h6:n=6
 ·subst h6;exact Ps (C k (js k)) h hk
 exact O4 iu o C h hk
end
end
section
section
variable {B:World} {q:Nat} {A:Option Addr} {c:Nat} {L:List Tk} {en:Int} {eA:Option Addr} {ec:Nat} {el:List iW} {w w0 w1:World} {i:Nat}
theorem IK {k:Nat} (C:∀j≤k,CX B q A c L en eA ec el j) (h:Rd B q A c L en eA ec el w i) (hk:20*(L.length-i)+2<=k+1):Calls prog 152 #[.pointer (some q)] w (pk B q A c L en eA ec el w i (xu el (k+1) (L.drop i)) (VX w.heap.size)):=by
 obtain⟨X,hX⟩:=jt (xu el (k+1) (L.drop i));rw[hX];obtain⟨i0,bF⟩:=jt (i);rw[bF]at hX h hk⊢;have I:=iy hX.symm;have bt:Hid (i0<=i0):=js _;have hq:=h.blk.lt;have bG:=h.base;obtain⟨r,hr⟩:=jt (w.heap.size);have ad:r≠q:=by omega
 have bO:q<r:=by omega
 obtain⟨w0,bA,aw0,B0,R0,s0⟩:=Ls h hr ad #[.int .i64 0,.int .i64 0,.int .i64 0,.int .i64 0,.string ⟨#[]⟩,.slice none 0 0] 73;have HB:=iy B0;have a0:ik (iz q w0) (iz q w0):=iq _;go_in;go_wp2_with fail;try rw[hr]
 try rw[bA]
 have I:Hid (X=if rI (L.drop i0) then (kV el k (L.drop i0)).bind fun (e,r)=>mO el k e r else if jq ⟨#[45]⟩ (L.drop i0) then (xu el k (L.drop i0).tail).bind fun (a,r)=>some (.mk 3 2 0 0 ⟨#[]⟩ [a],r) else if jq ⟨#[112,114,101]⟩ (L.drop i0) then (xu el k (L.drop i0).tail).bind fun (a,r)=>some (.mk 5 0 0 0 ⟨#[]⟩ [a],r) else (kV el k (L.drop i0)).bind fun (e,r)=>mO el k e r):=I;have HC:=iy (ze R0);obtain⟨z,hz⟩:=jt (rI (L.drop i0));rw[hz]at HC;have HZ:=iy hz;go_wp2_with fail;refine HC.mono ?_;rintro e w1 ⟨rfl,aN⟩;have R1:=iy (R0.after aN);have a1:=ij a0 (im (q:=q) aN);have bj:=bt;cases z
 ·skip
  have I:=iy (I.trans (iV (Qa HZ)));go_wp2_with fail;refine Dx ⟨#[45]⟩ R1 I a1 bj ?_ ?_
  ·clear I;intro w2 R2 I _ a2 az
   go_wp2_with fail;refine Dx ⟨#[112,114,101]⟩ R2 I a2 az ?_ ?_
   ·clear I;intro w3 R3 I _ a3 aB
    go_wp2_with fail;refine BC ((C k (js k)).p w3 i0 R3 (by omega)) I a3 aB ?_;clear I;intro w4 x4 v4 i4 bR b9 R4 I aP bE bJ a4;obtain⟨⟨kP,oP,tP,zP,sP,AP,cP,a_⟩,b6,rfl,DP⟩:=b9;have ar:(Tx.mk kP oP tP zP sP AP cP a_).val=.agg #[kP,oP,tP,zP,sP,.slice AP a_.length cP]:=rfl;rw[ar];have I:Hid (X=mO el k x4 (L.drop i4)):=I;obtain⟨ra,av⟩:∃ra,w4.heap.size=ra:=⟨_,rfl⟩;have bH:r<ra:=by have:=lZ a4;omega
    have DP:=DP.sub (iS (by have h1:=lZ a3;exact h1) w4);obtain⟨vL,b8,BA,RL,aL,DL,lL⟩:∃v,w4.alloc (.cells #[kP,oP,tP,zP,sP,.slice AP a_.length cP] 73)=v/\Hid (qP v ra (.mk kP oP tP zP sP AP cP a_))/\Hid (Rd B q A c L en eA ec el v i4)/\ik (iz q w0) (iz q v)/\Hid (RX (nw ra w0.heap.size v) (.mk kP oP tP zP sP AP cP a_))/\ra<v.heap.size:=⟨_,rfl,by rw[<- av];exact jC ..,R4.after inferInstance,ij a4 (im inferInstance),DP.below (FE _ av).below,by rw[iH];omega⟩;have b_:L.length-i4+1<=k:=by have:=aP.out;omega
    go_wp2_with fail;try rw[av]
    try rw[b8]
    go_loopw [] (fun wr=>∃(i' m:Nat) (x:Ex) (y:Tx),Hid (i0<=i')/\Hid (y.er=x)/\Hid (X=mO el m x (L.drop i'))/\L.length-i'+1<=m/\Hid (Rd B q A c L en eA ec el wr i')/\Hid (qP wr ra y)/\Hid (RX (nw ra w0.heap.size wr) y)/\ik (iz q w0) (iz q wr)) (fun wr=>L.length-lO wr q 2)
    case atStart=>exact⟨i4,k,x4,_,aP,b6,I,b_,RL,BA,DL,aL⟩
    case round=>
    obtain⟨iL,m,x,⟨kL,oL,tL,zL,sL,AL,cL,J⟩,aq,aE,I,bD,RL,BA,DL,aw⟩:=hrel;obtain⟨m,rfl⟩:∃j,m=j+1:=⟨m-1,by omega⟩;have d1:Hid (lO wr q 2=iL):=iB (je RL.fields.2.2.1);have ay:ra≠q:=by omega
    have aI:q<w0.heap.size:=by omega
    have I:Hid (X=if jq ⟨#[119,104,101,110]⟩ (L.drop iL) then (mD el (L.drop iL).tail).bind fun (o,r)=>mO el m (.mk 8 0 o.t o.tag o.name [x]) r else some (x,L.drop iL)):=I;have bg:=RL;have bd:=aw;have aD:=aq;have aR:ik (iz q wr) (iz q wr):=iq _;go_wp2_with fail;refine Dx ⟨#[119,104,101,110]⟩ bg I bd aD ?_ ?_
    ·clear I;intro a8 al I a' ae ai
     have aR:ik (iz q wr) (iz q a8):=a';have a6:qP a8 ra (.mk kL oL tL zL sL AL cL J):=kq BA ay aR;have D3:RX (nw ra w0.heap.size a8) (.mk kL oL tL zL sL AL cL J):=DL.below (tS (q:=q) aI aR).below;have I:Hid (X=some (x,L.drop iL)):=I;obtain⟨m0,m1,m2,m3,m4,m5⟩:=a6.cells;have ml:=jo a6;obtain⟨b5,b3,b2,b1,b0,aZ⟩:=jU a6;simp only[txs]at m0 m1 m2 m3 m4 m5;have U:qP a8 r oE:=lM (HB.after (k:=ae)) ad;obtain⟨n0,n1,n2,n3,n4,n5⟩:=U.cells;have nl:=jo U;obtain⟨aY,aV,aU,aT,aS,aQ⟩:=jU U;obtain⟨W,hW,EW,R,aW,oW,sW⟩:=jY U al ad (ij (im aw0) ae) (lI hr) iu (.mk kL oL tL zL sL AL cL J);simp only[txs]at hW;go_wp2_with fail;try rw[hW]
     obtain⟨u0,u1,u2,u3,u4,u5⟩:=EW.cells;simp only[txs]at u0 u1 u2 u3 u4 u5;exact jR (v:=.agg #[kL,oL,tL,zL,sL,.slice AL J.length cL]) (by simp[results,results152,go_sem,u0,u1,u2,u3,u4,u5]) rfl (lN (x:=x) (show X=some (x,L.drop iL) from I) aW ⟨.mk kL oL tL zL sL AL cL J,aE,rfl,(((D3.sub zV)).below (oW w0.heap.size iu).below).sub (iS iu W)⟩ R rfl (aq))
    clear I;intro a8 al I a' ae ai ah;rw[tail_drop]at I;have aR:ik (iz q wr) (iz q a8):=a';have bk:=al.le;go_wp2_with fail;refine BC (qW al) I ae ai ?_;clear I;intro ao aa bl ab bL aH bf I aC ak aJ bK;obtain⟨rfl,aj⟩:=aH;have I:Hid (X=mO el m (.mk 8 0 aa.t aa.tag aa.name [x]) (L.drop ab)):=I;obtain⟨xn,xt,xg⟩:=aa;simp only[]at I aj;obtain⟨b4,ax⟩:=jt (ao.heap.size);have bw:w0.heap.size<=wr.heap.size:=by have h2:=lZ aw;exact h2
    have aO:=BA.out;have bI:ra<wr.heap.size:=aO.is_le.le;have aX:ik (iz q wr) (iz q ao):=by have:=aJ;exact ij aR this
    have bu:wr.heap.size<=b4:=by have h2:=lZ aX;omega
    obtain⟨an,aF,be,aK,bc,af⟩:∃v,ao.alloc (.cells #[xn,xt,xg] 178)=v/\Hid (Rd B q A c L en eA ec el v ab)/\ik (iz q wr) (iz q v)/\v.heap.size=b4+1/\iP v b4 178 #[xn,xt,xg]:=⟨_,rfl,iB (bf.after inferInstance),ij aX (im inferInstance),by rw[iH,ax],by rw[<- ax];exact jC ..⟩;have a6:qP an ra (.mk kL oL tL zL sL AL cL J):=kq aO ay aK;obtain⟨g,hg⟩:∃g,b4+1=g:=⟨_,rfl⟩;obtain⟨aA,aG,bh,aM,bs,bb,ag⟩:∃v,an.alloc (.cells #[kL,oL,tL,zL,sL,.slice AL J.length cL] 73)=v/\Hid (Rd B q A c L en eA ec el v ab)/\ik (iz q wr) (iz q v)/\ik an v/\iP v g 73 #[kL,oL,tL,zL,sL,.slice AL J.length cL]/\qP v ra (.mk kL oL tL zL sL AL cL J):=⟨_,rfl,iB (be.after inferInstance),ij aK (im inferInstance),inferInstance,by rw[<- hg,<- bc];exact jC ..,iP.alloc a6 _⟩;have E2:RX (nw ra w0.heap.size aA) (.mk kL oL tL zL sL AL cL J):=DL.below (tS (q:=q) aI aM).below;have DY:RX (nw ra w0.heap.size aA) (.mk 8 0 xt xg xn (some ⟨g,0,none⟩) 1 [.mk kL oL tL zL sL AL cL J]):=xS (ys:=[.mk kL oL tL zL sL AL cL J]) (iP.nw bb (by omega) (by omega)) (by intro y hy;simp only[la]at hy;subst hy;exact E2) (by simp) 8 0 xt xg xn aj;obtain⟨W,hW,EW,R,aW,oW,sW⟩:=jY (w0:=w0) ag bh ay (ij aw aM) iu iu (.mk 8 0 xt xg xn (some ⟨g,0,none⟩) 1 [.mk kL oL tL zL sL AL cL J]);simp only[txs,xT,Nat.reduceAdd]at hW;have DW:Hid (RX (nw ra w0.heap.size W) (.mk 8 0 xt xg xn (some ⟨g,0,none⟩) 1 [.mk kL oL tL zL sL AL cL J])):=DY.below (by rw[<- hW];exact (JB _ _ _ _ _ _ _).below)
    have ba:Hid ((.mk 8 0 xt xg xn (some ⟨g,0,none⟩) 1 [.mk kL oL tL zL sL AL cL J]:Tx).er=.mk 8 0 xt xg xn [x]):=by (show _=_;rw[qp];simp only[mJ,tW];rw[aE.out])
    have EW:=iy EW;have R:=iy R;obtain⟨m0,m1,m2,m3,m4,m5⟩:=a6.cells;have ml:=jo a6;obtain⟨b5,b3,b2,b1,b0,aZ⟩:=jU a6;simp only[txs]at m0 m1 m2 m3 m4 m5;obtain⟨p0,p1,p2,p3,p4,p5⟩:=ag.cells;have pl:=jo ag;obtain⟨br,bq,bp,bo,bn,bm⟩:=jU ag;simp only[txs]at p0 p1 p2 p3 p4 p5;have q0:=(af.cell 0).trans rfl;have q1:=(af.cell 1).trans rfl;have q2:=(af.cell 2).trans rfl;have lq:=af.is_le;have hW:=iy hW;go_wp2_with fail;try rw[ax]
    try rw[aF]
    try rw[hg]
    try rw[aG]
    try rw[hW.out]
    go_roundw
    case rel=>exact⟨ab,m,_,_,iy (by have h1:=aq.out;have h2:=aC.out;omega),ba,I,by have h2:=ak;have h3:=ah;omega,R,EW,DW,aW⟩
    case measure=>(rw[je R.out.fields.2.2.1,d1.out];have h1:=ak;have h2:=ah;have:=R.le;omega)
   clear I;intro w3 R3 I _ a3 aB bM;rw[tail_drop]at I;have bk:=R3.le;go_wp2_with fail;refine td ((C k (js k)).u w3 (i0+1) R3 iu) I a3 aB ?_;clear I;intro w4 x4 v4 i4 b9 R4 I aP bE bJ a4;obtain⟨⟨k9,o9,t9,z9,s9,A9,c9,a7⟩,b7,rfl,D9⟩:=b9;have au:(Tx.mk k9 o9 t9 z9 s9 A9 c9 a7).val=.agg #[k9,o9,t9,z9,s9,.slice A9 a7.length c9]:=rfl;rw[au];obtain⟨g,hg⟩:=jt (w4.heap.size);have b':w0.heap.size<=g:=by have h1:=lZ a4;omega
   obtain⟨w5,bx,R5,a5,o5,g5⟩:∃v,w4.alloc (.cells #[k9,o9,t9,z9,s9,.slice A9 a7.length c9] 73)=v/\Hid (Rd B q A c L en eA ec el v i4)/\ik (iz q w0) (iz q v)/\ik w4 v/\iP v g 73 #[k9,o9,t9,z9,s9,.slice A9 a7.length c9]:=⟨_,rfl,iy (R4.after iR),ij a4 (im iR),iR,by rw[<- hg];exact jC ..⟩;have U:qP w5 r oE:=lM (HB.after (k:=a5)) ad;obtain⟨n0,n1,n2,n3,n4,n5⟩:=U.cells;have nl:=jo U;obtain⟨aY,aV,aU,aT,aS,aQ⟩:=jU U;have E2:=(D9.sub (iS (by have h1:=lZ a3;exact h1) w4)).below (jK o5).below;have DY:=xS (ys:=[.mk k9 o9 t9 z9 s9 A9 c9 a7]) (yV g5 b') (by intro y hy;simp only[la]at hy;subst hy;exact E2) (by simp) 5 0 0 0 ⟨#[]⟩ iI;go_wp2_with fail;try rw[hg]
   try rw[bx]
   obtain⟨W,hW,EW,R,aW,oW,sW⟩:=jY U R5 ad (ij (im aw0) a5) (lI hr) iu (.mk 5 0 0 0 ⟨#[]⟩ (some ⟨g,0,none⟩) 1 [.mk k9 o9 t9 z9 s9 A9 c9 a7]);simp only[txs,xT,Nat.reduceAdd]at hW;go_wp2_with fail;try rw[hW]
   obtain⟨u0,u1,u2,u3,u4,u5⟩:=EW.cells;simp only[txs,xT,Nat.reduceAdd]at u0 u1 u2 u3 u4 u5;exact jR (v:=.agg #[.int .i64 5,.int .i64 0,.int .i64 0,.int .i64 0,.string ⟨#[]⟩,.slice (some g) 1 1]) (by simp[results,results152,go_sem,u0,u1,u2,u3,u4,u5]) rfl (lN (x:=.mk 5 0 0 0 ⟨#[]⟩ [x4]) (show X=some (.mk 5 0 0 0 ⟨#[]⟩ [x4],L.drop i4) from I) aW ⟨.mk 5 0 0 0 ⟨#[]⟩ (some ⟨g,0,none⟩) 1 [.mk k9 o9 t9 z9 s9 A9 c9 a7],by (rw[qp];simp only[mJ,tW];rw[b7]),rfl,((DY).below (oW w0.heap.size iu).below).sub (iS iu W)⟩ R rfl (aP))
  clear I;intro w2 R2 I _ a2 az bN;rw[tail_drop]at I;have bk:=R2.le;go_wp2_with fail;refine td ((C k (js k)).u w2 (i0+1) R2 iu) I a2 az ?_;clear I;intro w3 x3 v3 i3 bB R3 I aB bP bS a3;obtain⟨⟨k9,o9,t9,z9,s9,A9,c9,a7⟩,b7,rfl,D9⟩:=bB;have au:(Tx.mk k9 o9 t9 z9 s9 A9 c9 a7).val=.agg #[k9,o9,t9,z9,s9,.slice A9 a7.length c9]:=rfl;rw[au];obtain⟨g,hg⟩:=jt (w3.heap.size);have b':w0.heap.size<=g:=by have h1:=lZ a3;omega
  obtain⟨w4,bz,R4,a4,o4,g4⟩:∃v,w3.alloc (.cells #[k9,o9,t9,z9,s9,.slice A9 a7.length c9] 73)=v/\Hid (Rd B q A c L en eA ec el v i3)/\ik (iz q w0) (iz q v)/\ik w3 v/\iP v g 73 #[k9,o9,t9,z9,s9,.slice A9 a7.length c9]:=⟨_,rfl,iy (R3.after iR),ij a3 (im iR),iR,by rw[<- hg];exact jC ..⟩;have U:qP w4 r oE:=lM (HB.after (k:=a4)) ad;obtain⟨n0,n1,n2,n3,n4,n5⟩:=U.cells;have nl:=jo U;obtain⟨aY,aV,aU,aT,aS,aQ⟩:=jU U;have E2:=(D9.sub (iS (by have h1:=lZ a2;exact h1) w3)).below (jK o4).below;have DY:=xS (ys:=[.mk k9 o9 t9 z9 s9 A9 c9 a7]) (yV g4 b') (by intro y hy;simp only[la]at hy;subst hy;exact E2) (by simp) 3 2 0 0 ⟨#[]⟩ iI;go_wp2_with fail;try rw[hg]
  try rw[bz]
  obtain⟨W,hW,EW,R,aW,oW,sW⟩:=jY U R4 ad (ij (im aw0) a4) (lI hr) iu (.mk 3 2 0 0 ⟨#[]⟩ (some ⟨g,0,none⟩) 1 [.mk k9 o9 t9 z9 s9 A9 c9 a7]);simp only[txs,xT,Nat.reduceAdd]at hW;go_wp2_with fail;try rw[hW]
  obtain⟨u0,u1,u2,u3,u4,u5⟩:=EW.cells;simp only[txs,xT,Nat.reduceAdd]at u0 u1 u2 u3 u4 u5;exact jR (v:=.agg #[.int .i64 3,.int .i64 2,.int .i64 0,.int .i64 0,.string ⟨#[]⟩,.slice (some g) 1 1]) (by simp[results,results152,go_sem,u0,u1,u2,u3,u4,u5]) rfl (lN (x:=.mk 3 2 0 0 ⟨#[]⟩ [x3]) (show X=some (.mk 3 2 0 0 ⟨#[]⟩ [x3],L.drop i3) from I) aW ⟨.mk 3 2 0 0 ⟨#[]⟩ (some ⟨g,0,none⟩) 1 [.mk k9 o9 t9 z9 s9 A9 c9 a7],by (rw[qp];simp only[mJ,tW];rw[b7]),rfl,((DY).below (oW w0.heap.size iu).below).sub (iS iu W)⟩ R rfl (aB))
 have I:=iy (I.trans (iG HZ));go_wp2_with fail;refine td ((C k (js k)).p w1 i0 R1 iu) I a1 bj ?_;clear I;intro w2 x2 v2 i2 bC R2 I az bQ bT a2;obtain⟨⟨kP,oP,tP,zP,sP,AP,cP,a_⟩,b6,rfl,DP⟩:=bC;have ar:(Tx.mk kP oP tP zP sP AP cP a_).val=.agg #[kP,oP,tP,zP,sP,.slice AP a_.length cP]:=rfl;rw[ar];have I:Hid (X=mO el k x2 (L.drop i2)):=I;obtain⟨ra,av⟩:=jt (w2.heap.size);have bH:r<ra:=by have:=lZ a2;omega
 have DP:=DP.sub (iS (by have h1:=lZ a1;exact h1) w2);obtain⟨vL,b8,BA,RL,aL,DL,lL⟩:∃v,w2.alloc (.cells #[kP,oP,tP,zP,sP,.slice AP a_.length cP] 73)=v/\Hid (qP v ra (.mk kP oP tP zP sP AP cP a_))/\Hid (Rd B q A c L en eA ec el v i2)/\ik (iz q w0) (iz q v)/\Hid (RX (nw ra w0.heap.size v) (.mk kP oP tP zP sP AP cP a_))/\ra<v.heap.size:=⟨_,rfl,by rw[<- av];exact jC ..,R2.after iR,ij a2 (im iR),DP.below (FE _ av).below,by rw[iH];omega⟩;have b_:L.length-i2+1<=k:=by have:=az.out;omega
 go_wp2_with fail;try rw[av]
 try rw[b8]
 go_loopw [] (fun wr=>∃(i' m:Nat) (x:Ex) (y:Tx),Hid (i0<=i')/\Hid (y.er=x)/\Hid (X=mO el m x (L.drop i'))/\L.length-i'+1<=m/\Hid (Rd B q A c L en eA ec el wr i')/\Hid (qP wr ra y)/\Hid (RX (nw ra w0.heap.size wr) y)/\ik (iz q w0) (iz q wr)) (fun wr=>L.length-lO wr q 2)
 case atStart=>exact⟨i2,k,x2,_,az,b6,I,b_,RL,BA,DL,aL⟩
 case round=>
 obtain⟨iL,m,x,⟨kL,oL,tL,zL,sL,AL,cL,J⟩,aq,aE,I,bD,RL,BA,DL,aw⟩:=hrel;obtain⟨m,rfl⟩:∃j,m=j+1:=⟨m-1,iu⟩;have d1:Hid (lO wr q 2=iL):=iy (je RL.fields.2.2.1);have ay:ra≠q:=iu;have aI:q<w0.heap.size:=iu;have I:Hid (X=if jq ⟨#[119,104,101,110]⟩ (L.drop iL) then (mD el (L.drop iL).tail).bind fun (o,r)=>mO el m (.mk 8 0 o.t o.tag o.name [x]) r else some (x,L.drop iL)):=I;have bg:=RL;have bd:=aw;have aD:=aq;have aR:ik (iz q wr) (iz q wr):=iq _;go_wp2_with fail;refine Dx ⟨#[119,104,101,110]⟩ bg I bd aD ?_ ?_
 ·clear I;intro a8 al I a' ae ai
  have aR:ik (iz q wr) (iz q a8):=a';have a6:qP a8 ra (.mk kL oL tL zL sL AL cL J):=kq BA ay aR;have D3:RX (nw ra w0.heap.size a8) (.mk kL oL tL zL sL AL cL J):=DL.below (tS (q:=q) aI aR).below;have I:Hid (X=some (x,L.drop iL)):=I;obtain⟨m0,m1,m2,m3,m4,m5⟩:=a6.cells;have ml:=jo a6;obtain⟨b5,b3,b2,b1,b0,aZ⟩:=jU a6;simp only[txs]at m0 m1 m2 m3 m4 m5;have U:qP a8 r oE:=lM (HB.after (k:=ae)) ad;obtain⟨n0,n1,n2,n3,n4,n5⟩:=U.cells;obtain⟨aY,aV,aU,aT,aS,aQ⟩:=jU U;obtain⟨W,hW,EW,R,aW,oW,sW⟩:=jY U al ad (ij (im aw0) ae) (lI hr) iu (.mk kL oL tL zL sL AL cL J);simp only[txs]at hW;go_wp2_with fail;try rw[hW]
  obtain⟨u0,u1,u2,u3,u4,u5⟩:=EW.cells;simp only[txs]at u0 u1 u2 u3 u4 u5;exact jR (v:=.agg #[kL,oL,tL,zL,sL,.slice AL J.length cL]) (by simp[results,results152,go_sem,u0,u1,u2,u3,u4,u5]) rfl (lN (x:=x) (show X=some (x,L.drop iL) from I) aW ⟨.mk kL oL tL zL sL AL cL J,aE,rfl,(((D3.sub zV)).below (oW w0.heap.size iu).below).sub (iS iu W)⟩ R rfl (aq))
 clear I;intro a8 al I a' ae ai ah;rw[tail_drop]at I;have aR:ik (iz q wr) (iz q a8):=a';go_wp2_with fail;refine td (qW al) I ae ai ?_;clear I;intro ao aa bl ab aH bf I aC ak aJ bK;obtain⟨rfl,aj⟩:=aH;have I:Hid (X=mO el m (.mk 8 0 aa.t aa.tag aa.name [x]) (L.drop ab)):=I;obtain⟨xn,xt,xg⟩:=aa;simp only[]at I aj;obtain⟨b4,ax⟩:=jt (ao.heap.size);have bw:w0.heap.size<=wr.heap.size:=by have h2:=lZ aw;exact h2
 have aO:=BA.out;have bI:ra<wr.heap.size:=aO.is_le.le;have aX:ik (iz q wr) (iz q ao):=by have:=aJ;exact ij aR this
 have bu:wr.heap.size<=b4:=by have h2:=lZ aX;omega
 obtain⟨an,aF,be,aK,bc,af⟩:∃v,ao.alloc (.cells #[xn,xt,xg] 178)=v/\Hid (Rd B q A c L en eA ec el v ab)/\ik (iz q wr) (iz q v)/\v.heap.size=b4+1/\iP v b4 178 #[xn,xt,xg]:=⟨_,rfl,iy (bf.after iR),ij aX (im iR),by rw[iH,ax],by rw[<- ax];exact jC ..⟩;have a6:qP an ra (.mk kL oL tL zL sL AL cL J):=kq aO ay aK;obtain⟨g,hg⟩:=jt (b4+1);obtain⟨aA,aG,bh,aM,bs,bb,ag⟩:∃v,an.alloc (.cells #[kL,oL,tL,zL,sL,.slice AL J.length cL] 73)=v/\Hid (Rd B q A c L en eA ec el v ab)/\ik (iz q wr) (iz q v)/\ik an v/\iP v g 73 #[kL,oL,tL,zL,sL,.slice AL J.length cL]/\qP v ra (.mk kL oL tL zL sL AL cL J):=⟨_,rfl,iy (be.after iR),ij aK (im iR),iR,by rw[<- hg,<- bc];exact jC ..,iP.alloc a6 _⟩;have E2:RX (nw ra w0.heap.size aA) (.mk kL oL tL zL sL AL cL J):=DL.below (tS (q:=q) aI aM).below;have DY:RX (nw ra w0.heap.size aA) (.mk 8 0 xt xg xn (some ⟨g,0,none⟩) 1 [.mk kL oL tL zL sL AL cL J]):=xS (ys:=[.mk kL oL tL zL sL AL cL J]) (iP.nw bb iu iu) (by intro y hy;simp only[la]at hy;subst hy;exact E2) (by simp) 8 0 xt xg xn aj;obtain⟨W,hW,EW,R,aW,oW,sW⟩:=jY (w0:=w0) ag bh ay (ij aw aM) iu iu (.mk 8 0 xt xg xn (some ⟨g,0,none⟩) 1 [.mk kL oL tL zL sL AL cL J]);simp only[txs,xT,Nat.reduceAdd]at hW;have DW:Hid (RX (nw ra w0.heap.size W) (.mk 8 0 xt xg xn (some ⟨g,0,none⟩) 1 [.mk kL oL tL zL sL AL cL J])):=DY.below (by rw[<- hW];exact (JB _ _ _ _ _ _ _).below);have ba:Hid ((.mk 8 0 xt xg xn (some ⟨g,0,none⟩) 1 [.mk kL oL tL zL sL AL cL J]:Tx).er=.mk 8 0 xt xg xn [x]):=by (show _=_;rw[qp];simp only[mJ,tW];rw[aE.out])
 have EW:=iy EW;have R:=iB R;obtain⟨m0,m1,m2,m3,m4,m5⟩:=a6.cells;have ml:=jo a6;obtain⟨b5,b3,b2,b1,b0,aZ⟩:=jU a6;simp only[txs]at m0 m1 m2 m3 m4 m5;obtain⟨p0,p1,p2,p3,p4,p5⟩:=ag.cells;have pl:=jo ag;obtain⟨br,bq,bp,bo,bn,bm⟩:=jU ag;simp only[txs]at p0 p1 p2 p3 p4 p5;have q0:=(af.cell 0).trans rfl;have q1:=(af.cell 1).trans rfl;have q2:=(af.cell 2).trans rfl;have lq:=af.is_le;have hW:=iB hW;go_wp2_with fail;try rw[ax]
 try rw[aF]
 try rw[hg]
 try rw[aG]
 try rw[hW.out]
 go_roundw
 case rel=>exact⟨ab,m,_,_,iB (by have h1:=aq.out;have h2:=aC.out;omega),ba,I,by have h2:=ak;have h3:=ah;omega,R,EW,DW,aW⟩
 case measure=>(rw[je R.out.fields.2.2.1,d1.out];have h1:=ak;have h2:=ah;have:=R.le;omega)
end
end
end Go.Proofs.YtnigblndonocfaaGreatDoor
