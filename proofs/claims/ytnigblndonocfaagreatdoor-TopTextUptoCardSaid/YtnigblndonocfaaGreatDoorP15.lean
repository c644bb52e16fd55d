/- A part of the proof. -/
import Derived.Test.YtnigblndonocfaaGreatDoorP14
set_option linter.unusedVariables false
set_option linter.unusedSimpArgs false
namespace Go.Proofs.YtnigblndonocfaaGreatDoor
set_option maxRecDepth 100000
set_option maxHeartbeats 6400000
open Go.RowKit Go.BigFrame Go.Proofs.Tryz
structure WR (L:List (Int×yB)) (n:nh):Prop where
 q:∀q∈n.eqs.l,Ul L q.right
 a:Eq L n.autos.l
 s:∀x∈n.assume.l,Ul L x
 e:∀x∈n.ensure.l,Ul L x
structure XZ (n:nh):Prop where
 o:0<n.outs.l.length
 d:(n.ins.l++n.outs.l++n.locals.l).length<=1000
 c:∀d∈n.ins.l++n.outs.l++n.locals.l,d.clock.l.length<=1000
 f:Uj n.eqs.l+ws n.autos.l<=1000000000
theorem WZ {w:yM} {A:zA} {c:Nat} {l:List yB} (h:ir 3 VO w ⟨A,c,l⟩) (h0:0<l.length):∃G p,A=some ⟨G,p,none⟩:=by
 rcases h.cells with e | ⟨b,p,e,-⟩
 ·rw[show l=[] from e]at h0;cases h0
 exact⟨b,p,e⟩
theorem V5 {w:yM} {G p c:Nat} {l:List yB} (h:ir 3 VO w ⟨some (G,p),c,l⟩) {i:Nat} {s:yB} (hs:l[i]?=some s):G<w/\VO w G (p+i*3) s:=by
 rcases h.cells with e | ⟨b,p',e,hlt,hc⟩
 ·rw[show l=[] from e]at hs;simp at hs
 injection e with e
 injection e with e1 e2
 subst e1;subst e2;exact⟨hlt,hc i s hs⟩
def X8 (L:List (Int×yB)) (B:Nat) (K:Yd) (g sq:Nat) (pe:Value) (nA:zA) (nl:List nh) (nc:Nat) (n:nh) (e:Ending) (w':yM):Prop:=Yj e\/(e=.returned (.tuple #[])/\(∃nd q,qr w' g pe (.slice nA nl nc) nd q sq)/\J (L++[((1:Int),n.name)]) B K w'/\WR (L++[((1:Int),n.name)]) n)
section
variable {L:List (Int×yB)} {B:Nat} {K:Yd} {w D:yM} {g sq:Nat} {pe:Value} {nd q:Int} {nA:zA} {nc:Nat} {nl:List nh}
theorem J.drop {K':Yd} (j:J L B K' w) (h:∀x k,K x=some k->k=.seen/\K' x=some k):J L B K w:=
 ⟨fun b k e=>j.dom b k (h b k e).2,fun b k e=>by
  obtain⟨h1,h2⟩:=h b k e;subst h1;exact j.ok b _ h2,j.le,fun b cs e _=>(by cases (h b _ e).1),fun r b e=>(by cases (h r _ e).1)⟩
theorem Vx (E:IO L B K w D g sq pe nA nl nc nd q) (hD:D<=g) (hK:∀b k,K b=some k->k=.seen/\b=sq) {i:Nat} {n:nh} (hn:nl[i]?=some n) (hS:XZ n) (h96:nl.length<=1000) :
  Calls prog 28 #[.pointer (some g),.int .i64 (i:Nat)] w fun e w'=>R (Yb g K) w w'/\X8 L B K g sq pe nA nl nc n e w':=by
 have z:=(rq.1 hn).1;have hi:i<=nl:=CQ z;have C:(i:Int)<(nl.length:Int):=iu
 obtain⟨_,_,T⟩:=E.n.elem hn;obtain⟨bj,Y,X,rfl,bN,J,a⟩:=(E.row Ax Hs E.n).part (i:=i) z;obtain rfl:X=n:=by have:=J.out.symm.trans hn;injection this
 obtain⟨nm,⟨iA,ic,u⟩,⟨oA,oc,ol⟩,⟨lA,lc,ll⟩,⟨a2,a1,eq⟩,⟨aA,ac,au⟩,⟨sA,sc,a'⟩,⟨a_,a4,a6⟩⟩:=X;have y0:w.cell? (bj,Y+i*8)=nm:=a.c0;have y1:w.cell? (bj,Y+i*8+1)=(iA,u.length,ic):=a.c1;have y2:w.cell? (bj,Y+i*8+2)=(oA,ol.length,oc):=a.c2;have y3:w.cell? (bj,Y+i*8+3)=(lA,ll.length,lc):=a.c3;have y4:w.cell? (bj,Y+i*8+4)=(a2,eq.length,a1):=a.c4;have y5:w.cell? (bj,Y+i*8+5)=(aA,au.length,ac):=a.c5;have y6:w.cell? (bj,Y+i*8+6)=(sA,a'.length,sc):=a.c6;have y7:w.cell? (bj,Y+i*8+7)=(a_,a6.length,a4):=a.c7;obtain⟨W0,bA,a0,B0⟩:∃W,w.alloc (.cells #[nm,(iA,u.length,ic),(oA,ol.length,oc),(lA,ll.length,lc),(a2,eq.length,a1),(aA,au.length,ac),(sA,a'.length,sc),(a_,a6.length,a4)] 65)=W/\ik w W/\iP W w 65 #[nm,(iA,u.length,ic),(oA,ol.length,oc),(lA,ll.length,lc),(a2,eq.length,a1),(aA,au.length,ac),(sA,a'.length,sc),(a_,a6.length,a4)]:=⟨_,rfl,zc,jC ..⟩;have E0:=E.after a0;have b7:g<w:=iP.lt E.h;obtain⟨W1,bz,E1,B1,ag⟩:∃W,(W0.setCell (g,2) (.int .i64 (i:Nat))).setCell (g,3) (.int .i64 (-1))=W/\IO L B K W D g sq pe (some (bj,Y)) nl nc (i:Nat) (-1)/\iP W w 65 #[nm,(iA,u.length,ic),(oA,ol.length,oc),(lA,ll.length,lc),(a2,eq.length,a1),(aA,au.length,ac),(sA,a'.length,sc),(a_,a6.length,a4)]/\xx g W0 W:=
  ⟨_,rfl,(E0.mark hD (i:=2) (nd':=(i:Nat)) (q':=q) rfl).mark hD rfl,(B0.qU (p:=(g,2)) (by show w.heap.size≠g;omega) _).qU (p:=(g,3)) (by show w.heap.size≠g;omega) _,(xx.set _ _ _).trans (xx.set _ _ _)⟩
 have r1:R (Yb g K) w W1:=⟨ag.os.trans a0.below.os,ag.tape.trans a0.below.tape,ag.output.trans a0.below.output,jW a0.below.size ag.size,fun x hx h=>(ag.block x (rO hx a0.below.size) (Yb.ne h).1).trans (a0.below.block x hx)⟩;have p1:w.cell? (g,1)=some (.slice (bj,Y) nl.length nc):=by rw[uJ E.h];rfl
 have q2:W0.cell? (g,2)=nd:=by rw[uJ E0.h];rfl
 have q3:W0.cell? (g,3)=q:=by rw[uJ E0.h];rfl
 have q4:=nL E0.h 2;have q5:=nL E0.h 3;have lg:=jo E.h;have bV:=jo E0.h;have z0:W1.cell? w=nm:=by rw[uJ B1];rfl
 have zl:=jo B1;have aM:=iB (Ua E1.h E1.j E1.s 1 nm (i:Nat) iu iu);have al:=iB E1;have bM:=iB B1;have HS:=iB hS;have HX:=iB T;have be:=iB r1;have HK:=iB hK;have HI:=iB (And.intro hD (And.intro hi (And.intro b7 (E.j.Tq (js _)))));clear E a E0 E1 B0 B1 ag r1 hS T hK a0 hD hi b7 J hn;go_in;go_wp2_with fail;refine (aM.out).mono ?_;rintro e w2 ⟨r2,hp⟩;rcases hp with⟨x,y,E,hE,rfl⟩ | ⟨rfl,m,j2',hJ⟩
 ·have H:=iB (And.intro (be.out.trans (ii.refl _ _) r2.kg) hE)
  clear hE;unfold mt;go_wp2_with fail;exact⟨rfl,H.out.1,.inl ⟨_,_,_,H.out.2,rfl⟩⟩
 have j2:=hJ fun b=>⟨fun h=>(by have:=(HK.out b _ h).1;cases this),fun h=>(HK.out b _ h).2⟩
 have b5:W1.heap.size=w+1:=by
  rw[<- bz,<- bA];simp
 have bt:w.heap.size+1<=w2:=by have:=r2.size;omega
 obtain⟨L',aW⟩:=jt (L++[((1:Int),nm)]);rw[aW]at j2;have E2:IO L' B K w2 D g sq pe (some (bj,Y)) nl nc (i:Nat) (-1):=⟨r2.blk al.out.h al.out.g,j2,al.out.s,al.out.g,al.out.n,ij al.out.d (r2.v (ii.refl _ _))⟩;have b0:=iB (TG E2.j none (.inl rfl));have b3:=iB E2;have bF:=iB (be.out.trans (ii.refl _ _) r2.kg);have B2:=iB (r2.blk bM.out HI.out.2.2.2);have HL:=iB aW;clear E2 r2 hJ j2 j2' aW m aM z0 zl;go_wp2_with fail;refine (b0.out).mono ?_;rintro e w3 ⟨rfl,a3,j3,B3⟩;obtain⟨K1,aF⟩:=jt (jp K w2.heap.size);obtain⟨I,aT⟩:=jt (w2.heap.size+2);have aS:K1 I=some .nm:=by rw[<- aF,<- aT];exact jp.nm _ _
 have b6:ii K K1 w2:=by rw[<- aF];exact jp.kle _ _
 rw[aF]at j3;rw[aT]at B3⊢;obtain⟨j4,B4⟩:=j3.inputs aS B3;obtain⟨S,aq⟩:=jt ((fun x=>if x=w3.heap.size then some Yg.flag else K1 x));have bs:w2.heap.size+3<=w3.heap.size:=by have:=iP.lt B3;omega
 have aE:S I=some .nm:=by rw[<- aq];show (if _ then _ else _)=_;rw[iV iu];exact aS
 have Z:ii K S w2:=fun x hx=>by rw[<- aq];show (if _ then _ else _)=_;rw[iV iu];exact b6 x hx
 have aR:S w3=some .flag:=by rw[<- aq];exact iG rfl
 rw[aq]at j4;have aw:ik w2 ((w3.alloc (.map #[] 0)).setCell (I,3) (.map (some w3.heap.size))):=pQ (h:=ij a3 zc) (k:=⟨by show w2.heap.size<=I;omega⟩) _ _;have aH:=mZ (w':=w3.alloc (.map #[] 0)) (k:=zc) B3;have m3:(w3.alloc (.map #[] 0)).cell? (I,3)=some (.map none):=by rw[uJ aH];rfl
 have bU:=nL aH 3;have bT:=jo aH;have c9:=@run_makeMap prog;obtain⟨W4,bx⟩:=jt ((w3.alloc (.map #[] 0)).setCell (I,3) (.map (some w3.heap.size)));rw[bx]at j4 B4 aw;have E4:IO L' B S W4 D g sq pe (some (bj,Y)) nl nc (i:Nat) (-1):=b3.out.step Z j4 (R.of aw);have N4:T7 W4 I 0:=fun cs hc=>by
  have:=B4.symm.trans hc;injection this with this
  injection this with this
  rw[<- this];exact⟨none,0,0,rfl,js _⟩
 have ba:R (Yb g K) w W4:=bF.out.trans (ii.refl _ _) (R.of aw).kg;have I4:=iB (show UX L' B S W4 D g sq pe (some (bj,Y)) nl nc I 0 S W4 (i:Nat) (-1) from⟨E4,ii.refl _ _,R.refl _ _,N4,aE⟩);have bp:=mZ (k:=aw) B2.out;have aJ:Yb g S w=none:=Yb.at (by have:=HI.out.2.2.1;omega) ((Z _ iu).trans HI.out.2.2.2);have HF:Hid (∀N K2 U nd q,UX L' B S W4 D g sq pe (some (bj,Y)) nl nc I N K2 U nd q->U.cell? w.heap.size=nm/\U.cell? (w.heap.size,1)=(iA,u.length,ic)/\U.cell? (w.heap.size,2)=(oA,ol.length,oc)/\U.cell? (w.heap.size,3)=(lA,ll.length,lc)/\U.cell? (w.heap.size,4)=(a2,eq.length,a1)/\U.cell? (w.heap.size,5)=(aA,au.length,ac)/\U.cell? (w.heap.size,6)=(sA,a'.length,sc)/\U.cell? (w.heap.size,7)=(a_,a6.length,a4)/\Le (w+1) U):=iB fun N K2 U nd q i=>by
  have x0:=i.r.blk bp aJ;exact⟨by rw[uJ x0];rfl,by rw[uJ x0];rfl,by rw[uJ x0];rfl,by rw[uJ x0];rfl,by rw[uJ x0];rfl,by rw[uJ x0];rfl,by rw[uJ x0];rfl,by rw[uJ x0];rfl,jo x0⟩
 have aa:Hid (∀N K2 U nd q,UX L' B S W4 D g sq pe (some (bj,Y)) nl nc I N K2 U nd q->∀U',R K2 U U'->R (Yb g K) w U'):=iB fun N K2 U nd q i U' r=>ba.trans (Yb.kle fun x hx=>Z x iu) (i.r.trans (Yb.kle i.k) r.kg)
 have bg:Hid (∀x k,K x=some k->x<W4.heap.size/\S x=some k):=iB fun x k h=>⟨(E4.j.dom x k (Z.at (b3.out.j.dom x k h).2 h)).2,Z.at (b3.out.j.dom x k h).2 h⟩
 have HQ:Hid (S I=some .nm/\S w3=some .flag/\w3.heap.size<W4/\I<W4):=iB ⟨aE,aR,(j4.dom _ _ aR).2,(j4.dom _ _ aE).2⟩;have bn:=iB B4;have HV:=iB (UI (nm:=nm) (E4.row iM ky HX.out.r1) (E4.row iM ky HX.out.r2) (E4.row iM ky HX.out.r3) HS.out.d HS.out.c (.slice a2 eq a1) (.slice aA au ac) (.slice sA a' sc) (.slice a_ a6 a4));obtain⟨f0,f1,f2,f3,f4,f5,f6,f7,fl⟩:=HF.out _ _ _ _ _ I4.out;clear j3 B3 aS b6 j4 B4 aE Z aR aw aH E4 N4 ba bp aJ bs bt b5 a3 aF aq aT;go_wp2_with fail;refine (HV.out).mono ?_;rintro e w5 ⟨a5,A5,c5,zs,aO,rfl,aI⟩;have bW:zs.length<=1000:=by rw[aO,pE];exact HS.out.d
 have I5:=I4.out.after a5;have am:ir 3 VO (V S w5) ⟨A5,c5,zs⟩:=aI.sub FS (nO w5 fun b h=>by
  cases hk:S b with
  |none=>rw[hk]at h;cases h
  |some k=>exact (I4.out.e.j.dom b k hk).2)
 have HD:=iB (T4 I5.e.h I5.e.j I5.e.s I5.e.g I5.b am (iq _));have ak:=iB (And.intro I5 (And.intro (mZ (k:=a5) bn.out) aO));clear I5 aI am a5 I4 bn HV aO;go_wp2_with fail;refine (HD.out).mono ?_;rintro e w6 ⟨r6,hp⟩;rcases hp with⟨x,y,E,hE,rfl⟩ | ⟨rfl,j6,-,n6,hdn⟩
 ·have H:=iB (And.intro (aa.out _ _ _ _ _ ak.out.1 _ r6) hE)
  clear hE;unfold mt;go_wp2_with fail;exact⟨rfl,H.out.1,.inl ⟨_,_,_,H.out.2,rfl⟩⟩
 have I6:=ak.out.1.step (ii.refl _ _) j6 r6 (ak.out.1.n.keep n6);have bl:Hid (∀d∈u++ol++ll,((0:Int),d.name)∉L'):=iB fun d hd=>hdn d.name (by
  show d.name∈zs
  rw[ak.out.2.2];exact xL hd)
 have B6:=iB (show iP w6 I 140 _ from n6.trans ak.out.2.1);have bb:=iB (ST I6.e.h I6.e.j I6.b HX.out.r3 I6.e.d);clear f0 f1 f2 f3 f4 f5 f6 f7 fl;obtain⟨f0,f1,f2,f3,f4,f5,f6,f7,fl⟩:=HF.out _ _ _ _ _ I6;have b2:=iB I6;clear I6 j6 r6 n6 hdn ak HD;go_wp2_with fail;refine (bb.out).mono ?_;rintro e w7 ⟨a7,hp⟩;rcases hp with⟨x,y,E,hE,rfl⟩ | rfl
 ·have H:=iB (And.intro (aa.out _ _ _ _ _ b2.out _ (R.of a7)) hE)
  clear hE;unfold mt;go_wp2_with fail;exact⟨rfl,H.out.1,.inl ⟨_,_,_,H.out.2,rfl⟩⟩
 obtain⟨CS,b_,b8⟩:∃cs:Array Value,#[Value.pointer none,.map (some w2.heap.size),.map (some (w2+1)),.map (some w3.heap.size),()]=cs/\cs[3]?=some (.map (some w3.heap.size)):=⟨_,rfl,rfl⟩;have B7:=B6.out;rw[b_]at B7;have I7:=iB (And.intro (b2.out.after a7) (mZ (k:=a7) B7));have bL:=iB b8;clear f0 f1 f2 f3 f4 f5 f6 f7 fl B7 a7 b2 B6 bb b_ b8;obtain⟨f0,f1,f2,f3,f4,f5,f6,f7,fl⟩:=HF.out _ _ _ _ _ I7.out.1;have c_:u.length<=1000:=by have:=HS.out.d;simp only[mo]at this;omega
 go_wp2_with fail;go_loopw [51] (fun i wr=>∃k:Nat,k<=u.length/\i=.int .i64 (k:Nat)/\Hid (UX L' B S W4 D g sq pe (some (bj,Y)) nl nc I 0 S wr _ (-1)/\iP wr I 140 CS)) (fun i _=>u.length-(intOf i).toNat)
 ·exact⟨0,by omega,rfl,I7.out⟩
 case round=>
 obtain⟨k,hk,rfl,M⟩:=hrel;clear f0 f1 f2 f3 f4 f5 f6 f7 fl I7;obtain⟨f0,f1,f2,f3,f4,f5,f6,f7,fl⟩:=HF.out _ _ _ _ _ M.out.1;by_cases z:k<u
 ·have C:(k:Int)<(u.length:Int):=iu
  obtain⟨bk,pk,X,rfl,aK,J,a⟩:=(M.out.1.e.row iM ky HX.out.r1).part (i:=k) z;obtain⟨aC,ty,cA,cc,cl⟩:=X;have y0:=a.c0;have y1:=a.c1;have y2:=a.c2;simp only[]at y0 y1 y2;clear a;obtain⟨W8,aV,a8,D8⟩:∃W,wr.alloc (.cells #[aC,ty,(cA,cl.length,cc)] 77)=W/\ik wr W/\iP W wr 77 #[aC,ty,(cA,cl.length,cc)]:=⟨_,rfl,zc,jC ..⟩;have d0:W8.cell? wr=aC:=by rw[uJ D8];rfl
  have dl:=jo D8;have I8:=M.out.1.after a8;have BN:=mZ (k:=a8) M.out.2;have n3:W8.cell? (I,3)=some (.map (some w3.heap.size)):=by rw[uJ BN];exact bL.out
  have bR:=jo BN;obtain⟨O,hO,b9⟩:=Ue I8.e.j HQ.out.2.1 aC;have aD:I≠w3:=fun e=>by have:=HQ.out.1;rw[e,HQ.out.2.1]at this;cases this
  have b0:Hid (∀U,ik W8 U->UX L' B S W4 D g sq pe (some (bj,Y)) nl nc I 0 S (U.putObj w3 O) _ (-1)/\iP (U.putObj w3 O) I 140 CS):=iB fun U hU=>by
   have I9:=I8.after hU;exact⟨I9.step (ii.refl _ _) (b9 U hU) (R.put (by rw[HQ.out.2.1];simp) O) (I9.n.keep (World.putObj_heap_other aD)),(World.putObj_heap_other aD).trans (mZ (k:=hU) BN)⟩
  clear I8 BN b9 aD D8 a8;go_wp2_with fail;go_region;go_wp2_with fail;exact⟨⟨k+1,z,rfl,b0.out _ zc⟩,by simp only[intOf];omega⟩
 have C:¬(k:Int)<(u.length:Int):=iu
 have bf:=iB M.out.1;have bD:=HX.out.r4.len;simp only[]at bD;clear M;go_wp2_with fail;go_loopw [65] (fun i' wr=>∃k:Nat,k<=eq.length/\i'=.int .i64 (k:Nat)/\Hid ((∃K2 q,UX L' B S W4 D g sq pe (some (bj,Y)) nl nc I (Uj (eq.take k)) K2 wr (i:Nat) q)/\∀q∈eq.take k,Ul L' q.right)) (fun i _=>eq.length-(intOf i).toNat)
 ·exact⟨0,by omega,rfl,⟨S,_,bf.out⟩,fun d hd=>by cases hd⟩
 case round=>
 obtain⟨k,hk,rfl,M⟩:=hrel;clear f0 f1 f2 f3 f4 f5 f6 f7 fl bf;obtain⟨⟨K2,q0,i2⟩,m⟩:=M.out;have M:=iB i2;have ae:=iB m;clear i2 m;obtain⟨f0,f1,f2,f3,f4,f5,f6,f7,fl⟩:=HF.out _ _ _ _ _ M.out;by_cases z:k<eq
 ·have C:(k:Int)<(eq.length:Int):=iu
  obtain⟨bk,pk,X,rfl,aK,J,a⟩:=(M.out.e.row mX uU HX.out.r4).part (i:=k) z;obtain⟨_,_,T⟩:=(HX.out.r4).elem J.out;have ao:=iB (Uf J.out);obtain⟨⟨lA,lc,ll⟩,⟨ek,eo,et,ev,es,eA,ec,aG⟩⟩:=X;have y0:wr.cell? (bk,pk+k*7)=(lA,ll.length,lc):=a.c0;have y1:wr.cell? (bk,pk+k*7+1)=ek:=a.six.c0;have y2:wr.cell? (bk,pk+k*7+2)=eo:=a.six.c1;have y3:wr.cell? (bk,pk+k*7+3)=et:=a.six.c2;have y4:wr.cell? (bk,pk+k*7+4)=ev:=a.six.c3;have y5:wr.cell? (bk,pk+k*7+5)=es:=a.six.c4;have y6:wr.cell? (bk,pk+k*7+6)=(eA,aG.length,ec):=a.six.c5;obtain⟨W8,aV,a8,D8⟩:∃W,wr.alloc (.cells #[(lA,ll.length,lc),ek,eo,et,ev,es,(eA,aG.length,ec)] 79)=W/\ik wr W/\iP W wr 79 #[(lA,ll.length,lc),ek,eo,et,ev,es,(eA,aG.length,ec)]:=⟨_,rfl,zc,jC ..⟩;have I8:=M.out.after a8;have bw:g<wr:=iP.lt M.out.e.h;have D9:=D8.qU (p:=(g,3)) (by show wr.heap.size≠g;omega) (.int .i64 (k:Nat));have I9:=I8.mark HI.out.1 (k:Nat);have g3:W8.cell? (g,3)=q0:=by rw[uJ I8.e.h];rfl
  have bC:=nL I8.e.h 3;have bB:=jo I8.e.h;obtain⟨W9,aU⟩:=jt (W8.setCell (g,3) (.int .i64 (k:Nat)));rw[aU]at D9 I9;have d0:W9.cell? wr=(lA,ll.length,lc):=by rw[uJ D9];rfl
  have d1:W9.cell? (wr.heap.size,1)=ek:=by rw[uJ D9];rfl
  have d2:W9.cell? (wr.heap.size,2)=eo:=by rw[uJ D9];rfl
  have d3:W9.cell? (wr.heap.size,3)=et:=by rw[uJ D9];rfl
  have d4:W9.cell? (wr.heap.size,4)=ev:=by rw[uJ D9];rfl
  have d5:W9.cell? (wr.heap.size,5)=es:=by rw[uJ D9];rfl
  have d6:W9.cell? (wr.heap.size,6)=(eA,aG.length,ec):=by rw[uJ D9];rfl
  have dl:=jo D9;have hM:=HS.out.f;have an:=ao.out;have HC:=iB (RK I9.e.h I9.e.j I9.e.s I9.e.g I9.b I9.e.n I9.e.d HI.out.2.1 T.lf T.ri T.tb I9.n (by simp only[]at an hM;omega));have bh:=iB I9;clear I8 I9 hM an T a D8 D9 a8 bw;go_wp2_with fail;refine (HC.out).mono ?_;rintro e br ⟨r5,hp⟩;rcases hp with⟨x,y,E,hE,rfl⟩ | ⟨rfl,K3,k3,j3,n3,o3,m⟩
  ·have H:=iB (And.intro (aa.out _ _ _ _ _ bh.out _ r5) hE)
   clear hE;unfold mt;go_wp2_with fail;exact⟨rfl,H.out.1,.inl ⟨_,_,_,H.out.2,rfl⟩⟩
  have A:=bh.out.step k3 j3 r5 n3;rw[ao.out.1]at A;have P:=iB A;have aZ:=iB (lm ae.out J.out m);clear j3 r5 n3 o3 k3 A m;go_wp2_with fail;exact⟨⟨k+1,z,rfl,⟨K3,_,P.out⟩,aZ.out⟩,by simp only[intOf];omega⟩
 have C:¬(k:Int)<(eq.length:Int):=iu
 have bJ:=iB (li ae.out z);have ai:=M.out;rw[Dn iu]at ai;have IM:=ai.mark HI.out.1 (-1);have g3:wr.cell? (g,3)=q0:=by rw[uJ ai.e.h];rfl
 have bC:=nL ai.e.h 3;have bB:=jo ai.e.h;obtain⟨W9,aU⟩:=jt (wr.setCell (g,3) (.int .i64 (-1)));rw[aU]at IM;clear f0 f1 f2 f3 f4 f5 f6 f7 fl;obtain⟨f0,f1,f2,f3,f4,f5,f6,f7,fl⟩:=HF.out _ _ _ _ _ IM;have bd:=iB IM;have bE:=HX.out.r5.len;simp only[]at bE;clear ae M ai IM;go_wp2_with fail;go_loopw [88] (fun i' wr=>∃k:Nat,k<=au.length/\i'=.int .i64 (k:Nat)/\Hid ((∃K2,UX L' B S W4 D g sq pe (some (bj,Y)) nl nc I (Uj eq+ws (au.take k)) K2 wr (i:Nat) (-1))/\∀q∈au.take k,UG L' q)) (fun i _=>au.length-(intOf i).toNat)
 ·exact⟨0,by omega,rfl,⟨K2,bd.out⟩,fun d hd=>by cases hd⟩
 case round=>
 obtain⟨k,hk,rfl,M⟩:=hrel;clear f0 f1 f2 f3 f4 f5 f6 f7 fl bd;obtain⟨⟨K2,i2⟩,m⟩:=M.out;have M:=iB i2;have ae:=iB m;clear i2 m;obtain⟨f0,f1,f2,f3,f4,f5,f6,f7,fl⟩:=HF.out _ _ _ _ _ M.out;by_cases z:k<au
 ·have C:(k:Int)<(au.length:Int):=iu
  obtain⟨bk,pk,X,rfl,aK,J,a⟩:=(M.out.e.row qO wY HX.out.r5).part (i:=k) z;obtain⟨_,_,T⟩:=(HX.out.r5).elem J.out;have ao:=iB (TV J.out);have y0:wr.cell? (bk,pk+k)=(X.ad,X.states.length,X.cap):=by have:=a.1;simpa using this
  obtain⟨W8,aV,a8,D8⟩:∃W,wr.alloc (.cells #[(X.ad,X.states.length,X.cap)] 131)=W/\ik wr W/\iP W wr 131 #[(X.ad,X.states.length,X.cap)]:=⟨_,rfl,zc,jC ..⟩;have d0:W8.cell? wr=(X.ad,X.states.length,X.cap):=by rw[uJ D8];rfl
  have dl:=jo D8;have I8:=M.out.after a8;have hM:=HS.out.f;have an:=ao.out;have HC:=iB (XW X _ _ _ _ _ _ _ _ _ _ _ _ _ _ _ _ I8.e HI.out.2.1 I8.b T.2 I8.n (by simp only[]at an hM;omega));have aj:=iB I8;clear I8 hM an T a D8 a8;go_wp2_with fail;refine (HC.out).mono ?_;rintro e br ⟨r5,hp⟩;rcases hp with⟨x,y,E,hE,rfl⟩ | ⟨rfl,K3,k3,j3,n3,o3,m⟩
  ·have H:=iB (And.intro (aa.out _ _ _ _ _ aj.out _ r5) hE)
   clear hE;unfold mt;go_wp2_with fail;exact⟨rfl,H.out.1,.inl ⟨_,_,_,H.out.2,rfl⟩⟩
  have A:=aj.out.step k3 j3 r5 n3;rw[CL,ao.out.1]at A;have P:=iB A;have aZ:=iB (lm ae.out J.out m);clear j3 r5 n3 o3 k3 A m;go_wp2_with fail;exact⟨⟨k+1,z,rfl,⟨K3,P.out⟩,aZ.out⟩,by simp only[intOf];omega⟩
 have C:¬(k:Int)<(au.length:Int):=iu
 have bI:=iB (li ae.out z);obtain⟨Nn,bc⟩:∃N,Hid (UX L' B S W4 D g sq pe (some (bj,Y)) nl nc I N K2 wr (i:Nat) (-1)):=⟨_,M⟩;clear ae M;have bQ:u.length+ol<=1000:=by have:=HS.out.d;simp only[mo]at this;omega
 obtain⟨W8,aV,a8,D8⟩:∃W,wr.alloc (.cells #[(iA,u.length,ic)] 60)=W/\ik wr W/\iP W wr 60 #[(iA,u.length,ic)]:=⟨_,rfl,zc,jC ..⟩;have I8:=bc.out.after a8;have HC:=iB (T2 I8.e HI.out.2.1 HX.out.r6 (rs:=[⟨iA,ic,u⟩]) (cc:=1) (fun r hr=>by rw[yw.1 hr];exact I8.e.row iM ky HX.out.r1) D8 (fun i r hr=>by
  cases i with
  |zero=>simp at hr;subst hr;rfl
  |succ i=>simp at hr) (by simp) (by simp;omega) (fun d hd=>bl.out d (by simp at hd⊢;exact .inl hd)))
 have aj:=iB I8;clear I8 D8 a8;go_wp2_with fail;refine (HC.out).mono ?_;rintro e w9 ⟨r9,hp⟩;rcases hp with⟨x,y,E,hE,rfl⟩ | ⟨a9,rfl,m⟩
 ·have H:=iB (And.intro (aa.out _ _ _ _ _ aj.out _ r9) hE)
  clear hE r9;unfold mt;go_wp2_with fail;exact⟨rfl,H.out.1,.inl ⟨_,_,_,H.out.2,rfl⟩⟩
 have bH:=iB m;have I9:=aj.out.after a9;obtain⟨ca,bP,b',bo⟩:∃W,w9.alloc (.cells #[(iA,u.length,ic),(oA,ol.length,oc)] 60)=W/\ik w9 W/\iP W w9 60 #[(iA,u.length,ic),(oA,ol.length,oc)]:=⟨_,rfl,zc,jC ..⟩;have A:=I9.after b';have bm:=iB (T2 A.e HI.out.2.1 HX.out.r7 (rs:=[⟨iA,ic,u⟩,⟨oA,oc,ol⟩]) (cc:=2) (fun r hr=>by
  rcases uW.1 hr with hr | hr
  ·rw[hr];exact A.e.row iM ky HX.out.r1
  ·rw[yw.1 hr];exact A.e.row iM ky HX.out.r2) bo (fun i r hr=>by
  match i with
  |0=>simp at hr;subst hr;rfl
  |1=>simp at hr;subst hr;rfl
  |i+2=>simp at hr) (by simp) (by simp;omega) (fun d hd=>bl.out d (by simp at hd⊢;rcases hd with h | h;exact .inl h;exact .inr (.inl h))))
 clear f0 f1 f2 f3 f4 f5 f6 f7 fl;obtain⟨f0,f1,f2,f3,f4,f5,f6,f7,fl⟩:=HF.out _ _ _ _ _ I9;have P:=iB A;clear I9 A bo b' a9 r9 m HC aj;go_wp2_with fail;refine (bm.out).mono ?_;rintro e aB ⟨aN,hp⟩;rcases hp with⟨x,y,E,hE,rfl⟩ | ⟨a11,rfl,m⟩
 ·have H:=iB (And.intro (aa.out _ _ _ _ _ P.out _ aN) hE)
  clear hE aN;unfold mt;go_wp2_with fail;exact⟨rfl,H.out.1,.inl ⟨_,_,_,H.out.2,rfl⟩⟩
 have bG:=iB m;have ab:=P.out.after a11;have bK:Hid (∀U,ik aB U->U.cell? w.heap.size=nm/\U.cell? (w.heap.size,1)=(iA,u.length,ic)/\U.cell? (w.heap.size,2)=(oA,ol.length,oc)/\U.cell? (w.heap.size,3)=(lA,ll.length,lc)/\U.cell? (w.heap.size,4)=(a2,eq.length,a1)/\U.cell? (w.heap.size,5)=(aA,au.length,ac)/\U.cell? (w.heap.size,6)=(sA,a'.length,sc)/\U.cell? (w.heap.size,7)=(a_,a6.length,a4)):=iB fun U hU=>by
  obtain⟨f0,f1,f2,f3,f4,f5,f6,f7,-⟩:=HF.out _ _ _ _ _ (ab.after hU);exact⟨f0,f1,f2,f3,f4,f5,f6,f7⟩
 have HV:Hid (∀U,ik aB U->_):=iB fun U hU=>UI (w:=U) (nm:=nm) ((ab.after hU).e.row iM ky HX.out.r1) ((ab.after hU).e.row iM ky HX.out.r2) ((ab.after hU).e.row iM ky HX.out.r3) HS.out.d HS.out.c (.slice a2 eq a1) (.slice aA au ac) (.slice sA a' sc) (.slice a_ a6 a4)
 clear f0 f1 f2 f3 f4 f5 f6 f7 fl;obtain⟨f0,f1,f2,f3,f4,f5,f6,f7,fl⟩:=HF.out _ _ _ _ _ ab;have bi:=iB ab;have aP:Hid (∀zs:List yB,zs=(u++ol++ll).map iO.name->0<zs.length/\u.length<zs.length/\zs.length<=1000):=iB fun zs h=>by
  have h1:=HS.out.o;have h2:=HS.out.d;rw[h,pE];simp only[mo]at h1 h2⊢;omega
 clear ab a11 aN m bm P bc;go_wp2_with fail;go_region_held3 (fun V=>V.cell? w=nm/\V.cell? (w.heap.size,1)=(iA,u.length,ic)/\V.cell? (w.heap.size,2)=(oA,ol.length,oc)/\V.cell? (w.heap.size,3)=(lA,ll.length,lc)/\V.cell? (w.heap.size,4)=(a2,eq.length,a1)/\V.cell? (w.heap.size,5)=(aA,au.length,ac)/\V.cell? (w.heap.size,6)=(sA,a'.length,sc)/\V.cell? (w.heap.size,7)=(a_,a6.length,a4)) (exact bK.out _ zc)
  (first | (go_at_call 61;(with_reducible refine (HV.out _ zc).mono ?_);rintro e V1 ⟨av,A1,c1,F,hz,rfl,af⟩;obtain⟨yv,rfl⟩:=@jP _ V1 av;clear av;obtain⟨G,pG,rfl⟩:=WZ af (aP.out F hz).1;have bX:=(aP.out F hz).2.1;have bZ:=(aP.out F hz).2.2;have q1:(0:Int)<=(u.length:Int):=(by omega);have q2:(u.length:Int)<=(F.length:Int):=(by omega);have bY:F<=c1:=af.le;have aD:¬c1=u:=iu;replace af:=iB (And.intro hz af);clear hz))
 have IX:=iB (bi.out.after (w':=aB.drew.more yv) zc);have bu:=iB (af.out.2.sub FS (vk _ _));clear af f0 f1 f2 f3 f4 f5 f6 f7 fl;go_wp2_with fail;go_loopw [123] (fun i' wr=>∃k:Nat,k<=F.length-u.length/\i'=.int .i64 (k:Nat)/\ik (aB.drew.more yv) wr) (fun i' _=>F.length-u-(intOf i').toNat)
 ·exact⟨0,by omega,rfl,iq _⟩
 case round=>
 obtain⟨k,hk,rfl,ar⟩:=hrel;have ay:=IX.out.after ar;obtain⟨f0,f1,f2,f3,f4,f5,f6,f7,fl⟩:=HF.out _ _ _ _ _ ay;by_cases z:k<F-u
 ·have C:(k:Int)<((F.length-u.length:Nat):Int):=iu
  have aQ:(k:Int)<(F.length:Int)-(u.length:Int):=iu
  obtain⟨s,hs⟩:∃s,F[u+k]?=some s:=⟨_,qn iu⟩;obtain⟨hG,y0,t,A',n',c',y1,y2⟩:=V5 (bu.out.below uI ar.below) hs;rw[show pG+(u.length+k)*3=pG+u.length*3+k*3 by omega]at y0 y1 y2;have lG:Le (G+1) wr:=⟨hG⟩;obtain⟨aY,bO,aX,b4⟩:∃W,wr.alloc (.cells #[s,t,(A',n',c')] 77)=W/\ik wr W/\iP W wr 77 #[s,t,(A',n',c')]:=⟨_,rfl,zc,jC ..⟩;have d0:aY.cell? wr=some (.string s):=by rw[uJ b4];rfl
  have dl:=jo b4;have ah:=ay.after aX;obtain⟨up,oo,d,ip,v,n,N1,-,F3,-⟩:=ah.e.j.nm ah.b;obtain⟨r,hr⟩:=NE ah.e.j F3 s;have n2:aY.cell? (I,2)=some (.map (some d)):=by rw[uJ N1];rfl
  have bS:=jo N1;have E2:=ah.e;have HM:Hid (∀ok U,ik aY U->∀Q:Ending->yM->Prop,_):=iB fun ok U hU Q=>LT (Q:=Q) E2.h (E:=8) iI hU ok
  have aL:=iB (And.intro ah (ij ar aX));clear ah E2 N1 F3 b4 aX hs hG;go_wp2_with fail;refine wp_region_still_tail 8 kp kp ?_;simp only[sD,rP,uB,sS];change wpStill _ _ (World.drew _) _ _ _;repeat still_step
  refine wpStill_nil ?_;change wpList _ _ _ _ _ (World.drew _);go_wp2_with fail;refine HM.out _ _ zc _ (fun bq e hp ax=>?_) fun bq _ _ ax=>?_
  ·obtain⟨x,y,E,hE,rfl⟩:=hp
   have H:=iB (And.intro (aa.out _ _ _ _ _ aL.out.1 _ (R.of ax)) hE);clear hE ax;unfold mt;go_wp2_with fail;exact⟨rfl,H.out.1,.inl ⟨_,_,_,H.out.2,rfl⟩⟩
  have HA:=iB (ij aL.out.2 ax);clear ax;go_wp2_with fail;exact⟨⟨k+1,z,rfl,HA.out⟩,by simp only[intOf];omega⟩
 have C:¬(k:Int)<((F.length-u.length:Nat):Int):=iu
 have aQ:¬(k:Int)<(F.length:Int)-(u.length:Int):=iu
 have H:=iB (aa.out _ _ _ _ _ ay _ (R.refl _ _));have az:=iB ay;clear ay;go_wp2;go_end0;refine⟨H.out,.inr ⟨rfl,⟨_,_,az.out.e.h⟩,?_,?_⟩⟩
 ·rw[HL.out]
  exact az.out.e.j.drop fun x k h=>⟨(HK.out x k h).1,az.out.k.at (bg.out x k h).1 (bg.out x k h).2⟩
 rw[HL.out];exact⟨bJ.out,Ui bI.out,bH.out,bG.out⟩
end
section
variable {el:List iW} {L:List (Int×yB)}
theorem rd.dc (g:rd el L) {d:iO} {b:Bool} (h:jN el b d=0):Kx el d.er:=by
 unfold jN at h;obtain⟨-,h⟩:=jI h;obtain⟨a,h⟩:=jI h;obtain⟨-,h⟩:=jI h;obtain⟨-,h⟩:=jI h;have a:=nJ iI a;simp only[decide_eq_true_eq]at a;exact⟨g.ty (by show 0<jV el d.ty;omega),fun o c e=>g.res e (Fb (jd h o c)).2.2.2⟩
theorem rd.dcs (g:rd el L) {l:List iO} {b:Bool} (h:nN el b l=0):∀d∈l.map iO.er,Kx el d:=fun d hd=>by
 obtain⟨x,hx,rfl⟩:=yQ.1 hd;exact g.dc (jd h x hx)
theorem rd.eqs (g:rd el L) (hl:el.length<=24) {l:List oX} (h:iw (rN el) l=0) (hn:∀q∈l,Ul L q.right):∀q∈l.map oX.er,AX el q.right:=fun q hq=>by
 obtain⟨x,hx,rfl⟩:=yQ.1 hq;exact g.ex hl (Fz (jd h x hx)).2.2.2.1 (hn x hx)
theorem rd.exs (g:rd el L) (hl:el.length<=24) {l:List Tx} (h:iw (qk el) l=0) (hn:∀q∈l,Ul L q):∀q∈l.map Tx.er,AX el q:=fun q hq=>by
 obtain⟨x,hx,rfl⟩:=yQ.1 hq;exact g.ex hl (jd h x hx) (hn x hx)
theorem rd.trs (g:rd el L) (hl:el.length<=24) {nms:List yB} (hd:nms.Nodup) {b:Bool} {l:List ma} (h:iw (tx el nms b) l=0) (hn:∀t∈l,Ul L t.cond):∀t∈l.map ma.er,SI el nms t:=fun t ht=>by
 obtain⟨x,hx,rfl⟩:=yQ.1 ht;obtain⟨h1,h2,h3⟩:=Af (jd h x hx);have hlt:x.dst.toNat<nms:=iu
 refine⟨g.ex hl h1 (hn x hx),_,_,Vl nms 0 x.dst.toNat _ hd (qn hlt),?_⟩;show x.dst=_
 omega
theorem Wb:∀l:List StT,(StT.kv l).map F5.nm=l.map StT.name
 |[]=>rfl
 |.mk nm lo eq A c au ul ut::l=>by rw[StT.kv,mJ,mJ,Wb l,StT.er];rfl
mutual
theorem rd.au (g:rd el L) (hl:el.length<=24):∀(a:AuT) (d:Nat),rK el d a=0->UG L a->Ry el a.er
 |.mk A c l,d,h,hn=>by
  rw[rK]at h;rw[UG]at hn;have h:=(jI (jI (jI h).2).2).2;rw[AuT.er,Ry,Wb];exact rd.sts g hl l d l (l.map StT.name) (by rw[pE]) hn.1 h hn.2
theorem rd.Ru (g:rd el L) (hl:el.length<=24):∀(l:List AuT) (d:Nat),yu el d l=0->Eq L l->tZ el (AuT.kv l)
 |[],_,_,_=>by rw[AuT.kv,tZ];trivial
 |a::l,d,h,hn=>by
  rw[yu]at h;rw[Eq]at hn;rw[AuT.kv,tZ];exact⟨rd.au g hl a d (jI h).1 hn.1,rd.Ru g hl l d (jI h).2 hn.2⟩
theorem rd.st (g:rd el L) (hl:el.length<=24):∀(x:StT) (d n:Nat) (nms:List yB),nms=n->nms.Nodup->AM el n d x=0->PP L x->P3 el nms x.er
 |.mk nm lo eq A c au ul ut,d,n,nms,hlen,hd,h,hn=>by
  rw[AM]at h;rw[PP]at hn;obtain⟨h1,h⟩:=jI h;obtain⟨h2,h⟩:=jI h;obtain⟨h3,h⟩:=jI h;obtain⟨h4,h⟩:=jI h;obtain⟨h5,h⟩:=jI h;obtain⟨h6,h7⟩:=jI h;rw[StT.er,P3];rw[<- hlen]at h6 h7;exact⟨g.dcs h3,g.eqs hl h4 hn.1,rd.Ru g hl au (d+1) h5 hn.2.1,g.trs hl hd h6 hn.2.2.1,g.trs hl hd h7 hn.2.2.2⟩
theorem rd.sts (g:rd el L) (hl:el.length<=24):∀(l:List StT) (d n:Nat) (nms:List yB),nms=n->nms.Nodup->yA el n d l=0->TO L l->Fs el nms (StT.kv l)
 |[],_,_,_,_,_,_,_=>by rw[StT.kv,Fs];trivial
 |x::l,d,n,nms,hlen,hd,h,hn=>by
  rw[yA]at h;rw[TO]at hn;rw[StT.kv,Fs];exact⟨rd.st g hl x d n nms hlen hd (jI h).1 hn.1,rd.sts g hl l d n nms hlen hd (jI h).2 hn.2⟩
end
theorem UD:∀l:List AuT,l.map AuT.er=AuT.kv l
 |[]=>rfl
 |x::l=>by rw[mJ,AuT.kv,UD l]
theorem rd.node (g:rd el L) (hl:el.length<=24) {n:nh} (h:mY el n=0) (hn:WR L n):QB el n.er:=by
 have k:=yW h;refine⟨g.dcs k.i,g.dcs k.o,g.dcs k.l,g.eqs hl k.q hn.q,?_,g.exs hl k.s hn.s,g.exs hl k.e hn.e⟩;show tZ el (n.autos.l.map AuT.er)
 rw[UD];exact g.Ru hl _ 0 (by rw[Ff];exact k.a) hn.a
theorem U9:∀{l:List oX},iw (rN el) l=0->Uj l<=l.length*64
 |[],_=>by rw[Uj];simp
 |q::l,h=>by
  rw[iw]at h;have:=(Fz (jI h).1).2.1;have:=U9 (jI h).2;rw[Uj,py];omega
def UZ (d:Nat):Nat:=if d=0 then 16384+8*(16384+8*16384) else if d=1 then 16384+8*16384 else 16384
mutual
theorem Xj:∀(a:AuT) (d:Nat),rK el d a=0->Xk a<=UZ d
 |.mk A c l,d,h=>by
  rw[rK]at h;rw[Xk];have h0:=nJ iI (jI h).1;simp only[decide_eq_true_eq]at h0;exact Vp l d l iu (jI (jI (jI h).2).2).2
theorem UC:∀(l:List AuT) (d:Nat),yu el d l=0->ws l<=l.length*UZ d
 |[],_,_=>by rw[ws];simp
 |a::l,d,h=>by
  rw[yu]at h;have h1:=Xj a d (jI h).1;have h2:=UC l d (jI h).2;rw[ws,py,Nat.add_mul];omega
theorem Xi:∀(x:StT) (d n:Nat),d<3->AM el n d x=0->WF x<=UZ d
 |.mk nm lo eq A c au ul ut,d,n,hd,h=>by
  rw[AM]at h;obtain⟨h1,h⟩:=jI h;obtain⟨h2,h⟩:=jI h;obtain⟨h3,h⟩:=jI h;obtain⟨h4,h⟩:=jI h;obtain⟨h5,h⟩:=jI h;have h2:=nJ iI h2;simp only[mT,decide_eq_true_eq]at h2;obtain⟨-,e1,e2,-,-⟩:=h2;have g1:=U9 h4;have g2:=UC au (d+1) h5;rw[WF];have hau:d=2->au=[]:=fun hd2=>by
   subst hd2;cases au with
   |nil=>rfl
   |cons a l=>
   obtain⟨A,c,ss⟩:=a;rw[yu,rK]at h5;have:=nJ iI (jI (jI h5).1).1;simp only[decide_eq_true_eq]at this;omega
  have hm:eq.l.length*64<=16384:=iu
  rcases (show d=0\/d=1\/d=2 by omega) with rfl | rfl | rfl
  ·have:au*UZ (0+1)<=8*UZ (0+1):=Nat.mul_le_mul_right _ iu
   have e0:UZ (0+1)=16384+8*16384:=rfl;have e1:UZ 0=16384+8*(16384+8*16384):=rfl;omega
  ·have:au*UZ (1+1)<=8*UZ (1+1):=Nat.mul_le_mul_right _ iu
   have e0:UZ (1+1)=16384:=rfl;have e1:UZ 1=16384+8*16384:=rfl;omega
  rw[hau rfl,ws];have e1:UZ 2=16384:=rfl;omega
theorem Vp:∀(l:List StT) (d n:Nat),d<3->yA el n d l=0->TH l<=UZ d
 |[],_,_,_,_=>by rw[TH];exact wB _
 |x::l,d,n,hd,h=>by
  rw[yA]at h;have h1:=Xi x d n hd (jI h).1;have h2:=Vp l d n hd (jI h).2;rw[TH];omega
end
theorem WC {n:nh} (h:mY el n=0):Uj n.eqs.l+ws n.autos.l<=100000000:=by
 have k:=yW h;have c:=k.ql;have b:=k.al;have e:=U9 k.q;have d:=UC n.autos.l 0 (by rw[Ff];exact k.a);have:n.autos.l.length*UZ 0<=8*UZ 0:=Nat.mul_le_mul_right _ iu;have f:UZ 0=16384+8*(16384+8*16384):=rfl;omega
theorem Xd {n:nh} (h:mY el n=0):XZ n:=by
 have k:=yW h;have g:=k.il;have f:=k.ol;have e:=k.ll;refine⟨k.o0,by simp only[mo];omega,fun d a=>?_,jW (WC h) iI⟩;have c:∀{b:Bool} {l:List iO},nN el b l=0->∀d∈l,d.clock.l.length<=1000:=fun h d a=>jW (yL (jd h d a)).2.2.1 iI
 rcases ue.1 a with a | a
 ·rcases ue.1 a with a | a
  ·exact c k.i d a
  exact c k.o d a
 exact c k.l d a
end
theorem Vs (w:yM):(Instr.typeAssert Value.nilIface 20 81 true).run prog w=.ok (.tuple #[.agg #[JX,JX,JX],false]) w:=by kernel_rfl
theorem Vr (v:Value) (w:yM):(Instr.typeAssert (Value.iface 81 v) 20 81 true).run prog w=.ok (.tuple #[v,true]) w:=by kernel_rfl
theorem UV (p q:Addr) (w:yM) :
  CallsD prog 26 #[.pointer (some p),.pointer (some q)] .returning w fun e u' w'=>e=.returned (.tuple #[])/\u'=.returning/\ik w w':=by
 refine callsD_of_wpS func26 rfl fun b c a=>?_
 apply wpS_seq;apply wpS_region;simp[wpOpsS,go_sem,recoverD,a,Vs,Vr,ntmps26,Exit.thenS];refine wpS_of_wp ?_;rw[Ik];go_wp2_with fail;exact⟨rfl,_,by cases b;simp_all,.tuple #[],by simp[results,results26,go_sem],rfl,rfl,zc⟩
theorem Va (g1 g2:Nat) (nd q E:Int) (w0 w:yM) (hw:ik w0 w) (h1:w0<=g1) (h2:w0<=g2) {v1 v2 v3:Value} (b1:iP w g1 35 #[v1,v2]) (b2:iP w g2 26 #[v3]) (hne:g1≠g2) (older:List PanicEntry) :
  CallsD prog 26 #[.pointer g1,.pointer g2] (.panicking ({ v:=.iface 81 (.agg #[nd,q,E]),recovered:=false }::older)) w fun e u' w'=>e=.returned (.tuple #[])/\u'=.panicking ({ v:=.iface 81 (.agg #[nd,q,E]),recovered:=true }::older)/\ik w0 w'/\iP w' g1 35 #[nd,q]/\iP w' g2 26 #[E]:=by
 refine callsD_of_wpS func26 rfl fun K L m=>?_
 apply wpS_seq;apply wpS_region;simp[wpOpsS,go_sem,recoverD,m,Vs,Vr,ntmps26,Exit.thenS];refine wpS_of_wp ?_;rw[Ik];have k:=iP.lt b1;have j:=iP.lt b2;have c:=jC w 81 #[nd,q,E];obtain⟨W,d,M,a,b⟩:∃W,w.alloc (.cells #[nd,q,E] 81)=W/\ik w0 W/\iP W g1 35 #[v1,v2]/\iP W g2 26 #[v3]:=⟨_,rfl,zc,b1.alloc _,b2.alloc _⟩;rw[d]at c;rw[d];obtain⟨g,i⟩:=jt w.heap.size;rw[i]at c k j⊢;have G:W.cell? g=nd:=by rw[c.cell];rfl
 have F:W.cell? (g,1)=q:=by rw[c.cell];rfl
 have D:W.cell? (g,2)=E:=by rw[c.cell];rfl
 have J:=a.frozen 0;have r:W.cell? g1=some v1:=by rw[a.cell];rfl
 have o:W.cell? (g1,1)=some v2:=by rw[a.cell];rfl
 have n:W.cell? g2=some v3:=by rw[b.cell];rfl
 have I:=a.frozen 1;have H:=b.frozen 0;have C:=a.is_le;have B:=b.is_le;have A:=c.is_le;have t:uD w0 g1:=⟨h1⟩;have s:uD w0 g2:=⟨h2⟩;have z:F0 g g1:=⟨by omega⟩;have y:F0 g g2:=⟨by omega⟩;have x:F0 g2 g1:=⟨by omega⟩;have u:F0 g1 g2:=⟨hne⟩;have h:=iB ((((a.jx 0 (.int .i64 nd)).jx 1 (.int .i64 q)).qU (p:=g2) hne (.int .i64 E)));have f:=iB ((((b.qU (p:=g1) (ls hne) (.int .i64 nd)).qU (p:=(g1,1)) (ls hne) (.int .i64 q))).jx 0 (.int .i64 E));clear d i c k j b1 b2 a b hw w;go_wp2_with fail;go_region;exact⟨rfl,_,rfl,.tuple #[],by simp[results,results26,go_sem],rfl,rfl,zc,h.out,f.out⟩
def Vc (w:yM) (G:Prop) (e:Ending) (w':yM):Prop:=ik w w'/\∃nd q E:Int,e=.returned (.tuple #[.agg #[nd,q],E])/\(E=0->G)
structure Yl (w:yM) (g2 g3:Nat) (U:yM):Prop where
 aft:ik w U
 b2:iP U g2 35 #[JX,JX]
 b3:iP U g3 26 #[JX]
section
variable {w U:yM} {g2 g3:Nat} {G:Prop} {tm:Array Value}
theorem TX {nd q F:Int} (hF:F≠0) (h:Yl w g2 g3 U) (hn:w<=g2/\w<=g3/\g2≠g3) (t2:tm[2]?=some (.pointer g2)) (t3:tm[3]?=some (.pointer g3)) :
  bodyPostD prog f9 (Vc w G) (Exit.panic [{ v:=.iface 81 (.agg #[nd,q,F]),recovered:=false }]) { tmps:=tm,defers:=[{ target:=Target.fn (Fn.func 26) #[.pointer g2,.pointer g3],args:=#[] }] } U:=by
 refine leaves_cons (f:=26) (args:=#[.pointer g2,.pointer g3]) (by simp) (by simp[go_sem]) ?_;refine (Va g2 g3 nd q F w U h.aft hn.1 hn.2.1 h.b2 h.b3 hn.2.2 []).mono ?_;rintro e k w'' ⟨rfl,rfl,i,a,g⟩;have d:w''.cell? g2=nd:=by rw[a.cell];rfl
 have c:w''.cell? (g2,1)=q:=by rw[a.cell];rfl
 have b:w''.cell? g3=F:=by rw[g.cell];rfl
 have j:∀e,e=Ending.returned (.tuple #[.agg #[nd,q],F])->Vc w G e w'':=fun e h=>⟨i,nd,q,F,h,fun h=>absurd h hF⟩
 simp[Leaves,settle,results,results9,go_sem,t2,t3,d,c,b];exact j _ rfl
theorem VJ (hG:G) (t2:tm[2]?=some (.pointer g2)) (t3:tm[3]?=some (.pointer g3)) (a2:ik w U) (y1:U.cell? g2=JX) (y2:U.cell? (g2,1)=JX) (y3:U.cell? g3=JX) (l2:Le (g2+1) U) (l3:Le (g3+1) U) :
  bodyPostD prog f9 (Vc w G) Exit.ret { tmps:=tm,defers:=[{ target:=Target.fn (Fn.func 26) #[.pointer g2,.pointer g3],args:=#[] }] } U:=by
 refine leaves_cons (f:=26) (args:=#[.pointer g2,.pointer g3]) (by simp) (by simp[go_sem]) ?_;refine (UV ⟨g2,0,none⟩ ⟨g3,0,none⟩ _).mono ?_;rintro e c w'' ⟨rfl,rfl,a⟩;have b:∀e,e=Ending.returned (.tuple #[.agg #[JX,JX],JX])->Vc w G e w'':=fun e h=>⟨ij a2 a,0,0,0,h,fun _=>hG⟩
 obtain⟨z,rfl⟩:=@jP _ _ a;simp[Leaves,settle,results,results9,go_sem,t2,t3,y1,y2,y3];exact b _ rfl
theorem U_ {nd q F:Int} (hF:F≠0) (t2:tm[2]?=some (.pointer g2)) (t3:tm[3]?=some (.pointer g3)) (a2:ik w U) (y1:U.cell? g2=nd) (y2:U.cell? (g2,1)=q) (y3:U.cell? g3=F) :
  bodyPostD prog f9 (Vc w G) Exit.ret { tmps:=tm,defers:=[] } U:=by
 have a:∀e,e=Ending.returned (.tuple #[.agg #[nd,q],F])->Vc w G e U:=fun e h=>⟨a2,nd,q,F,h,fun h=>absurd h hF⟩
 simp[bodyPostD,Leaves,settle,results,results9,go_sem,t2,t3,y1,y2,y3];exact a _ rfl
end
def LE (l:List iW):List (Int×yB):=l.flatMap fun u=>((2:Int),u.name)::u.tags.l.map fun s=>((0:Int),s)
def UY (el:List iW) (nl:List nh):Prop:=(nv el nl).2.2=0/\(LE el).Nodup/\∀n∈nl,WR (LE el) n
theorem WK {l:List iW} {k:Nat} {u:iW} (h:l[k]?=some u):LE (l.take (k+1))=LE (l.take k)++(((2:Int),u.name)::u.tags.l.map fun s=>((0:Int),s)):=by
 unfold LE;rw[List.take_add_one,h,Fa];simp
theorem Ub {α:Type} {l:List α} {x:α} (h:l.Nodup) (hx:x∉l):(l++[x]).Nodup:=List.nodup_append.2 ⟨h,by simp,fun a ha b hb e=>by rw[yw.1 hb]at e;rw[e]at ha;exact hx ha⟩
theorem Ul.mono {L L':List (Int×yB)} (h:∀t∈L,t∈L') {e:Tx} (hn:Ul L' e):Ul L e:=fun x hx hk hm=>hn x hx hk (h _ hm)
mutual
theorem UG.mono {L L':List (Int×yB)} (h:∀t∈L,t∈L'):∀x:AuT,UG L' x->UG L x
 |.mk A c l,hx=>by rw[UG]at hx⊢;exact⟨hx.1,TO.mono h l hx.2⟩
theorem Eq.mono {L L':List (Int×yB)} (h:∀t∈L,t∈L'):∀l:List AuT,Eq L' l->Eq L l
 |[],_=>by rw[Eq];trivial
 |x::l,hx=>by rw[Eq]at hx⊢;exact⟨UG.mono h x hx.1,Eq.mono h l hx.2⟩
theorem PP.mono {L L':List (Int×yB)} (h:∀t∈L,t∈L'):∀x:StT,PP L' x->PP L x
 |.mk n l e A c a u v,hx=>by rw[PP]at hx⊢;exact⟨fun q hq=>(hx.1 q hq).mono h,Eq.mono h a hx.2.1,fun t ht=>(hx.2.2.1 t ht).mono h,fun t ht=>(hx.2.2.2 t ht).mono h⟩
theorem TO.mono {L L':List (Int×yB)} (h:∀t∈L,t∈L'):∀l:List StT,TO L' l->TO L l
 |[],_=>by rw[TO];trivial
 |x::l,hx=>by rw[TO]at hx⊢;exact⟨PP.mono h x hx.1,TO.mono h l hx.2⟩
end
theorem WR.mono {L L':List (Int×yB)} (h:∀t∈L,t∈L') {n:nh} (hn:WR L' n):WR L n:=⟨fun q hq=>(hn.q q hq).mono h,Eq.mono h _ hn.a,fun x hx=>(hn.s x hx).mono h,fun x hx=>(hn.e x hx).mono h⟩
def X9 (sq:Nat):Yd:=fun x=>if x=sq then some .seen else none
theorem X9.seen {sq b:Nat} {k:Yg} (h:X9 sq b=some k):k=.seen/\b=sq:=by
 unfold X9 at h;split at h
 ·injection h with h;exact⟨h.symm,by assumption⟩
 cases h
section
variable {L L':List (Int×yB)} {B:Nat} {K:Yd} {w w' D:yM} {g sq:Nat} {pe:Value} {nd q nd' q':Int} {nA:zA} {nc:Nat} {nl:List nh}
theorem Vd (a:ik D w) (h:∀b k,K b=some k->D.heap.size<=b):ik D (V K w):=by
 have d:(V K w).heap.size=w.heap.size:=pt _ w;refine⟨⟨a.below.os,a.below.tape,a.below.output,by rw[d];exact a.below.size,fun x c=>(xk w ?_).trans (a.below.block x c)⟩⟩;show (K x).isSome=false
 cases e:K x with
 |none=>rfl
 |some k=>exact absurd (h x k e) iu
theorem J.start {sq:Nat} (h:w.heap[sq]?=some (.map #[] 0)) (hs:B<=sq):J [] B (X9 sq) w:=by
 have c:=(Array.getElem?_eq_some_iff.1 h).1;refine⟨fun b k e=>?_,fun b k e=>?_,by omega,fun b d e _=>(by cases (X9.seen e).1),fun r b e=>(by cases (X9.seen e).1)⟩
 ·rw[(X9.seen e).2];exact⟨hs,c⟩
 obtain⟨rfl,rfl⟩:=X9.seen e;exact⟨#[],0,h,fun x a=>(by cases a),fun x a=>(by cases a)⟩
theorem IO.next (E:IO L B K w D g sq pe nA nl nc nd q) (hl:∃nd q,qr w' g pe (.slice nA nl nc) nd q sq) (j:J L' B K w') (a:ik D (V K w')):∃nd q,IO L' B K w' D g sq pe nA nl nc nd q:=by
 obtain⟨nd,q,h⟩:=hl;exact⟨nd,q,h,j,E.s,E.g,E.n,a⟩
theorem IO.add (E:IO L B K w D g sq pe nA nl nc nd q) (r:R K w w') (j:J L' B K w'):IO L' B K w' D g sq pe nA nl nc nd q:=⟨r.blk E.h E.g,j,E.s,E.g,E.n,ij E.d (r.v (ii.refl _ _))⟩
end
theorem U6 {w:yM} {eA nA:zA} {ec nc:Nat} {el:List iW} {nl:List nh} (hen:ir 2 sM w ⟨eA,ec,el⟩) (hnd:ir 8 (Gy True) w ⟨nA,nc,nl⟩) :
  Calls prog 9 #[.agg #[(eA,el.length,ec),(nA,nl.length,nc)]] w (Vc w (UY el nl)):=by
 have hmf:∀(fn:Fn) (first cap:Array Value) (w:yM),(Instr.makeFunc fn first cap).run prog w=.ok (.func fn first cap) w:=fun _ _ _ _=>rfl
 have hmm:=@run_makeMap prog;obtain⟨G,hG⟩:=jt (UY el nl);rw[hG];have HG:=iB hG;obtain⟨g0,hg0⟩:=jt w.heap.size;obtain⟨W3,hW3,a3,q1,q2,q3⟩:∃W,((w.alloc (.cells #[(eA,el.length,ec),(nA,nl.length,nc)] 25)).alloc (.cells #[JX,JX] 35)).alloc (.cells #[JX] 26)=W/\ik w W/\iP W g0 25 #[(eA,el.length,ec),(nA,nl.length,nc)]/\iP W (g0+1) 35 #[JX,JX]/\iP W (g0+1+1) 26 #[JX]:=by
  have b0:=jC w 25 #[(eA,el.length,ec),(nA,nl.length,nc)];obtain⟨w1,hw1⟩:=jt (w.alloc (.cells #[(eA,el.length,ec),(nA,nl.length,nc)] 25));have s1:w1.heap.size=g0+1:=by rw[<- hw1,iH,hg0]
  have a1:ik w w1:=by rw[<- hw1];exact zc
  rw[hw1,hg0]at b0;rw[hw1];have b1:=jC w1 35 #[JX,JX];obtain⟨w2,hw2⟩:=jt (w1.alloc (.cells #[JX,JX] 35));have s2:w2.heap.size=g0+1+1:=by rw[<- hw2,iH,s1]
  have a2:ik w1 w2:=by rw[<- hw2];exact zc
  rw[hw2,s1]at b1;rw[hw2];have b2:=jC w2 26 #[JX];rw[s2]at b2;exact⟨_,rfl,ij a1 (ij a2 zc),b0.after (k:=ij a2 zc),b1.after (k:=zc),b2⟩
 have HPc:=iB (BO hen hnd W3 a3);obtain⟨v1,hv1⟩:=jt ((nv el nl).1);obtain⟨v2,hv2⟩:=jt ((nv el nl).2.1);obtain⟨E,hE⟩:=jt ((nv el nl).2.2);rw[hv1,hv2,hE]at HPc;have HX:=iB (And.intro hen (And.intro hnd hE));have HQ:=iB (And.intro q2 (And.intro q3 (And.intro q1 a3)));have hle1:=hen.len;have hle2:=hnd.len;simp only[]at hle1 hle2;have k0:W3.cell? g0=(eA,el.length,ec):=by rw[q1.cell];rfl
 have k1:W3.cell? (g0,1)=(nA,nl.length,nc):=by rw[q1.cell];rfl
 have kl:=q1.is_le;have hgl:w.heap.size<=g0:=lI hg0;have n2:uD w (g0+1):=⟨by omega⟩;have n3:uD w (g0+1+1):=⟨by omega⟩;clear hv1 hv2 hE hen hnd q1 q2 q3 hG;go_enter_defers func9,ntmps9;go_wp2_with fail;try rw[hg0]
 try rw[hW3]
 clear hW3 hg0;refine (HPc.out).mono ?_;rintro e w4 ⟨rfl,a4⟩;have aw4:=ij a3 a4;have Q2:=HQ.out.1.after (k:=a4);have Q3:=HQ.out.2.1.after (k:=a4);have Q1:=HQ.out.2.2.1.after (k:=a4);obtain⟨W5,hW5,a5,B5⟩:∃W,w4.alloc (.cells #[v1,v2] 35)=W/\ik w4 W/\iP W w4.heap.size 35 #[v1,v2]:=⟨_,rfl,zc,jC ..⟩;have aw5:=ij aw4 a5;have P2:=Q2.after (k:=a5);have P3:=Q3.after (k:=a5);have P1:=Q1.after (k:=a5);by_cases hE:E=0;rotate_left
 ·have hEb:(E==0)=false:=by simpa using hE
  have hEd:¬E=0:=hE;have HE:=iB hE;have x0:W5.cell? ⟨g0+1,0,none⟩=some (.int .i64 0):=P2.cell 0;have x1:W5.cell? ⟨g0+1,1,none⟩=some (.int .i64 0):=P2.cell 1;have x2:W5.cell? ⟨g0+1+1,0,none⟩=some (.int .i64 0):=P3.cell 0;have x3:W5.cell? ⟨w4.heap.size,0,none⟩=some (.int .i64 v1):=B5.cell 0;have x4:W5.cell? ⟨w4.heap.size,1,none⟩=some (.int .i64 v2):=B5.cell 1;have f0:=P2.frozen 0;have f1:=P2.frozen 1;have f2:=P3.frozen 0;have l2:=P2.is_le;have l3:=P3.is_le;have l5:=B5.is_le;have e2:=iB (((P2.jx 0 (.int .i64 v1)).jx 1 (.int .i64 v2)).qU (p:=⟨g0+1+1,0,none⟩) (by show g0+1≠g0+1+1;omega) (.int .i64 E));have e3:=iB (((P3.qU (p:=⟨g0+1,0,none⟩) (by show g0+1+1≠g0+1;omega) (.int .i64 v1)).qU (p:=⟨g0+1,1,none⟩) (by show g0+1+1≠g0+1;omega) (.int .i64 v2)).jx 0 (.int .i64 E));clear Q1 Q2 Q3 P1 P2 P3 B5 a5 a4 aw4 k0 k1 kl hE hle1 hle2;go_wp2_with fail;exact U_ HE.out rfl rfl inferInstance (e2.out.cell 0) (e2.out.cell 1) (e3.out.cell 0)
 subst hE;obtain⟨hel,hnl,-,hnode⟩:=uX HX.out.2.2;obtain⟨sq,hsb⟩:=jt W5.heap.size;obtain⟨W6,hW6,a6,B6⟩:∃W,W5.alloc (.map #[] 0)=W/\ik W5 W/\W.heap[sq]?=some (.map #[] 0):=⟨_,rfl,zc,by rw[<- hsb];exact World.alloc_heap_new _ _⟩;obtain⟨g,hg⟩:=jt W6.heap.size;have hgs:g=sq+1:=by rw[<- hg,<- hW6,<- hsb];simp
 obtain⟨W7,hW7,a7,B7⟩:∃W,W6.alloc (.cells #[.slice eA el.length ec,.slice nA nl.length nc,.int .i64 (-1),.int .i64 (-1),.map (some sq)] 86)=W/\ik W6 W/\qr W g (.slice eA el.length ec) (.slice nA nl.length nc) (-1) (-1) sq:=⟨_,rfl,inferInstance,by rw[<- hg];exact jC ..⟩;have aw7:=ij aw5 (ij a6 a7);have hws:w.heap.size<=sq:=by rw[<- hsb];exact aw5.below.size
 have j7:J [] sq (X9 sq) W7:=J.start ((a7.below.block sq iu).trans B6) (js _);have hKs:∀b k,X9 sq b=some k->w.heap.size<=b:=fun b k h=>by rw[(X9.seen h).2];exact hws
 have hKG:∀b k,Yb g (X9 sq) b=some k->w.heap.size<=b:=fun b k h=>by
  by_cases hb:b=g
  ·omega
  unfold Yb at h;rw[iV hb]at h;exact hKs b k h
 have E7:IO [] sq (X9 sq) W7 w g sq (.slice eA el.length ec) nA nl nc (-1) (-1):=⟨B7,j7,iG rfl,iV iu,HX.out.2.1,Vd aw7 hKs⟩;have Q2:=P2.after (k:=ij a6 a7);have Q3:=P3.after (k:=ij a6 a7);have Q1:=P1.after (k:=ij a6 a7);have hg1:g0+1+1<sq:=by rw[<- hsb];exact P3.lt
 have hnn:∀x,x<sq->Yb g (X9 sq) x=none:=fun x hx=>Yb.at iu (iV iu)
 have HF:Hid (∀U,R (Yb g (X9 sq)) W7 U->(U.cell? g0=(eA,el.length,ec)/\U.cell? (g0,1)=(nA,nl.length,nc)/\Le (g0+1) U)/\Yl w (g0+1) (g0+1+1) U):=iB fun U r=>by
  have x1:=r.blk Q1 (hnn _ iu);exact⟨⟨x1.cell 0,x1.cell 1,x1.is_le⟩,r.base hKG aw7,r.blk Q2 (hnn _ iu),r.blk Q3 (hnn _ iu)⟩
 have HD:Hid (w.heap.size<=g0+1/\w.heap.size<=g0+1+1/\g0+1≠g0+1+1):=iB ⟨by omega,by omega,by omega⟩;have HE7:=iB E7;have HKs:=iB (And.intro hKs (And.intro hKG (And.intro aw7 (show w.heap.size<=g by omega))));have HN:=iB hnode;have y0:W6.cell? g0=(eA,el.length,ec):=(P1.after (k:=a6)).cell 0;have y1:W6.cell? (g0,1)=(nA,nl.length,nc):=(P1.after (k:=a6)).cell 1;have yl:=(P1.after (k:=a6)).is_le;have x0:W5.cell? g0=(eA,el.length,ec):=P1.cell 0;have x1:W5.cell? (g0,1)=(nA,nl.length,nc):=P1.cell 1;have xl:=P1.is_le;obtain⟨⟨f0,f1,fl⟩,-⟩:=HF.out W7 (R.refl _ _);clear Q1 Q2 Q3 P1 P2 P3 B5 B6 B7 a4 a5 a6 a7 aw4 aw5 aw7 j7 E7 hKs hKG hnn hnode k0 k1 kl hgs hws hg1;go_wp2_with fail;go_loopw [30] (fun i wr=>∃j:Nat,j<=el.length/\i=.int .i64 (j:Nat)/\Hid (IO (LE (el.take j)) sq (X9 sq) wr w g sq (.slice eA el.length ec) nA nl nc (-1) (-1)/\(LE (el.take j)).Nodup/\R (Yb g (X9 sq)) W7 wr)) (fun i _=>el.length-(intOf i).toNat)
 case atStart=>exact⟨0,by omega,rfl,HE7.out,by simp[LE],R.refl _ _⟩
 case round=>
 obtain⟨j,hj,rfl,HR⟩:=hrel;clear f0 f1 fl;obtain⟨⟨f0,f1,fl⟩,-⟩:=HF.out _ HR.out.2.2;by_cases hlt:j<el.length
 ·have hltI:(j:Int)<(el.length:Int):=iu
  obtain⟨bj,pj,yj,rfl,hlej,HYj,hPj⟩:=(HR.out.1.row lU rH HX.out.1).part (i:=j) hlt;obtain⟨_,_,hPD⟩:=(HX.out.1).elem HYj.out;obtain⟨nm,⟨tA,tc,tl⟩⟩:=yj;have z0:wr.cell? (bj,pj+j*2)=nm:=hPj.c0;have z1:wr.cell? (bj,pj+j*2+1)=(tA,tl.length,tc):=hPj.c1;have btl:=hPD.tg.len;simp only[]at btl;obtain⟨W8,hW8,a8,D8⟩:∃W,wr.alloc (.cells #[nm,(tA,tl.length,tc)] 57)=W/\ik wr W/\iP W wr.heap.size 57 #[nm,(tA,tl.length,tc)]:=⟨_,rfl,zc,jC ..⟩;have d0:W8.cell? wr.heap.size=nm:=by rw[uJ D8];rfl
  have dl:=jo D8;have E8:=HR.out.1.after a8;have r8:=HR.out.2.2.trans (ii.refl _ _) (R.of a8).kg;have HAd:=iB (Ua E8.h E8.j E8.s 2 nm (j:Nat) iu iu);have HI:=iB (And.intro E8 (And.intro r8 (And.intro HR.out.2.1 (And.intro hPD D8))));have HT:Hid (LE (el.take (j+1))=LE (el.take j)++(((2:Int),nm)::tl.map fun s=>((0:Int),s))):=iB (WK HYj.out);clear E8 r8 hPj hPD D8 a8;go_wp2_with fail;refine (HAd.out).mono ?_;rintro e w9 ⟨r9,hp⟩;rcases hp with⟨x,y,E,hE,rfl⟩ | ⟨rfl,hno,-,hJ⟩
  ·have HP:=iB (And.intro hE (HF.out _ (HI.out.2.1.trans (ii.refl _ _) r9.kg)).2)
   clear hE r9;unfold mt;go_wp2_with fail;exact TX HP.out.1 HP.out.2 HD.out rfl rfl
  have E9:=HI.out.1.add r9 (hJ fun b=>⟨fun h=>(by cases (X9.seen h).1),fun h=>(X9.seen h).2⟩);have HI9:=iB (And.intro E9 (And.intro (HI.out.2.1.trans (ii.refl _ _) r9.kg) (Ub HI.out.2.2.1 hno)));have D9:=r9.blk HI.out.2.2.2.2 (by
   cases h:X9 sq wr.heap.size with
   |none=>rfl
   |some k=>exact absurd (HR.out.1.j.dom _ k h).2 iu)
  have d1:w9.cell? (wr.heap.size,1)=(tA,tl.length,tc):=by rw[uJ D9];rfl
  have dl9:=jo D9;clear E9 hJ hno r9 D9 HR;go_wp2_with fail;go_loopw [44] (fun i' wr=>∃m:Nat,m<=tl.length/\i'=.int .i64 (m:Nat)/\Hid (IO (LE (el.take j)++(((2:Int),nm)::(tl.take m).map fun s=>((0:Int),s))) sq (X9 sq) wr w g sq (.slice (bj,pj) el.length ec) nA nl nc (-1) (-1)/\R (Yb g (X9 sq)) W7 wr/\(LE (el.take j)++(((2:Int),nm)::(tl.take m).map fun s=>((0:Int),s))).Nodup)) (fun i' _=>tl.length-(intOf i').toNat)
  ·exact⟨0,by omega,rfl,HI9.out⟩
  case round=>
  obtain⟨m,hm,rfl,HR⟩:=hrel;by_cases hlm:m<tl.length
  ·have hlmI:(m:Int)<(tl.length:Int):=iu
   obtain⟨bm,pm,ym,rfl,hlem,HYm,x0,hym⟩:=(HR.out.1.row lD sj HI.out.2.2.2.1.tg).part (i:=m) hlm;simp only[yr]at x0;have HAd:=iB (Ua HR.out.1.h HR.out.1.j HR.out.1.s 0 ym (j:Nat) iu iu);have htk:tl.take (m+1)=tl.take m++[ym]:=by
    have:=HYm.out;simp only[]at this;rw[List.take_add_one,this];rfl
   have HTk:Hid (LE (el.take j)++(((2:Int),nm)::(tl.take (m+1)).map fun s=>((0:Int),s))=(LE (el.take j)++(((2:Int),nm)::(tl.take m).map fun s=>((0:Int),s)))++[((0:Int),ym)]):=by
    show _=_
    rw[htk];simp
   clear htk;go_wp2_with fail;refine (HAd.out).mono ?_;rintro e w10 ⟨r10,hp⟩;rcases hp with⟨x,y,E,hE,rfl⟩ | ⟨rfl,hno,-,hJ⟩
   ·have HP:=iB (And.intro hE (HF.out _ (HR.out.2.1.trans (ii.refl _ _) r10.kg)).2)
    clear hE r10;unfold mt;go_wp2_with fail;exact TX HP.out.1 HP.out.2 HD.out rfl rfl
   have E10:=HR.out.1.add r10 (hJ fun b=>⟨fun h=>(by cases (X9.seen h).1),fun h=>(X9.seen h).2⟩);have hnd:=Ub HR.out.2.2 hno;rw[<- HTk.out]at E10 hnd;have HI10:=iB (And.intro E10 (And.intro (HR.out.2.1.trans (ii.refl _ _) r10.kg) hnd));clear E10 hJ hno r10 hnd;go_wp2_with fail;exact⟨⟨m+1,hlm,rfl,HI10.out⟩,by simp only[intOf];omega⟩
  have hlmI:¬(m:Int)<(tl.length:Int):=iu
  have HI11:Hid (IO (LE (el.take (j+1))) sq (X9 sq) wr w g sq (.slice (bj,pj) el.length ec) nA nl nc (-1) (-1)/\(LE (el.take (j+1))).Nodup/\R (Yb g (X9 sq)) W7 wr):=by
   have h:=HR.out;rw[Dn (show tl.length<=m by omega),<- HT.out]at h;exact⟨h.1,h.2.2,h.2.1⟩
  go_wp2_with fail;exact⟨⟨j+1,hlt,rfl,HI11.out⟩,by simp only[intOf];omega⟩
 have hltI:¬(j:Int)<(el.length:Int):=iu
 have hR:=HR.out;rw[Dn iu]at hR;have HND:=iB hR.2.1;have HI:=iB (And.intro hR.1 hR.2.2);clear hR HR;go_wp2_with fail;go_loopw [58] (fun i' wr=>∃k:Nat,k<=nl.length/\i'=.int .i64 (k:Nat)/\Hid (∃(nd q:Int) (L':List (Int×yB)),IO L' sq (X9 sq) wr w g sq (.slice eA el.length ec) nA nl nc nd q/\(∀t∈LE el,t∈L')/\R (Yb g (X9 sq)) W7 wr/\∀n∈nl.take k,WR (LE el) n)) (fun i' _=>nl.length-(intOf i').toNat)
 ·exact⟨0,by omega,rfl,_,_,_,HI.out.1,fun t ht=>ht,HI.out.2,fun n hn=>by cases hn⟩
 case round=>
 obtain⟨k,hk,rfl,HR⟩:=hrel;obtain⟨nd,q,L',E',hL',r',hno⟩:=HR.out;clear HR HI f0 f1 fl;have HI:=iB (And.intro E' (And.intro hL' (And.intro r' hno)));clear E' hL' r' hno;obtain⟨⟨f0,f1,fl⟩,-⟩:=HF.out _ HI.out.2.2.1;by_cases hlt:k<nl.length
 ·have hltI:(k:Int)<(nl.length:Int):=iu
  obtain⟨n,hn⟩:∃n,nl[k]?=some n:=⟨_,qn hlt⟩;have hmn:=om hn;have HC:=iB (Vx HI.out.1 HKs.out.2.2.2 (fun b k h=>X9.seen h) hn (Xd (HN.out n hmn)) iu);have Hn:=iB hn;clear hn hmn;go_wp2_with fail;refine (HC.out).mono ?_;rintro e w8 ⟨r8,hp⟩;have r78:=HI.out.2.2.1.trans (ii.refl _ _) r8;rcases hp with⟨x,y,E,hE,rfl⟩ | ⟨rfl,hlk,hJ,hnn⟩
  ·have HP:=iB (And.intro hE (HF.out _ r78).2)
   clear hE r8 r78;unfold mt;go_wp2_with fail;exact TX HP.out.1 HP.out.2 HD.out rfl rfl
  obtain⟨nd2,q2,E2⟩:=HI.out.1.next hlk hJ (Vd (r78.base HKs.out.2.1 HKs.out.2.2.1) HKs.out.1);have hsub:∀t∈LE el,t∈L'++[((1:Int),n.name)]:=fun t ht=>List.mem_append_left _ (HI.out.2.1 t ht)
  have HI2:Hid (∃(nd q:Int) (L':List (Int×yB)),IO L' sq (X9 sq) w8 w g sq (.slice eA el.length ec) nA nl nc nd q/\(∀t∈LE el,t∈L')/\R (Yb g (X9 sq)) W7 w8/\∀n∈nl.take (k+1),WR (LE el) n):=iB ⟨nd2,q2,_,E2,hsub,r78,lm HI.out.2.2.2 Hn.out (hnn.mono hsub)⟩;clear E2 hsub r78 r8 hlk hJ hnn;go_wp2_with fail;exact⟨⟨k+1,hlt,rfl,HI2.out⟩,by simp only[intOf];omega⟩
 have hltI:¬(k:Int)<(nl.length:Int):=iu
 have hg:G:=by
  rw[<- HG.out];exact⟨HX.out.2.2,HND.out,li HI.out.2.2.2 hlt⟩
 have HGG:=iB hg;have hc:=(HF.out _ HI.out.2.2.1).2;have P2:=hc.b2;have P3:=hc.b3;have aft:ik w wr:=hc.aft;have u0:wr.cell? ⟨g0+1,0,none⟩=some (.int .i64 0):=P2.cell 0;have u1:wr.cell? ⟨g0+1,1,none⟩=some (.int .i64 0):=P2.cell 1;have u2:wr.cell? ⟨g0+1+1,0,none⟩=some (.int .i64 0):=P3.cell 0;have v0:=P2.frozen 0;have v1:=P2.frozen 1;have v2:=P3.frozen 0;have l2:=P2.is_le;have l3:=P3.is_le;have e2:=iB (((P2.jx 0 (.int .i64 0)).jx 1 (.int .i64 0)).qU (p:=⟨g0+1+1,0,none⟩) (by show g0+1≠g0+1+1;omega) (.int .i64 0));have e3:=iB (((P3.qU (p:=⟨g0+1,0,none⟩) (by show g0+1+1≠g0+1;omega) (.int .i64 0)).qU (p:=⟨g0+1,1,none⟩) (by show g0+1+1≠g0+1;omega) (.int .i64 0)).jx 0 (.int .i64 0));clear P2 P3 hc hg;go_wp2_with fail;exact VJ HGG.out rfl rfl zc (e2.out.cell 0) (e2.out.cell 1) (e3.out.cell 0) e2.out.is_le e3.out.is_le
theorem UF:∀l:List iW,((l.flatMap fun u=>u.tags.l).map fun s=>((0:Int),s)).Sublist (LE l)/\((l.map iW.name).map fun s=>((2:Int),s)).Sublist (LE l)
 |[]=>⟨List.Sublist.refl _,List.Sublist.refl _⟩
 |u::l=>by
  obtain⟨h1,h2⟩:=UF l;have e:LE (u::l)=(((2:Int),u.name)::u.tags.l.map fun s=>((0:Int),s))++LE l:=by unfold LE;rw[pZ]
  rw[e,pZ,s_,mJ,mJ];exact⟨List.Sublist.append (List.sublist_cons_self _ _) h1,List.Sublist.cons_cons _ (List.Sublist.trans h2 (List.sublist_append_right _ _))⟩
theorem Uc {α β:Type} {f:α->β}:∀{l:List α},(l.map f).Nodup->l.Nodup
 |[],_=>List.nodup_nil
 |a::l,h=>by
  rw[mJ]at h;have h1:=List.nodup_cons.1 h;exact List.nodup_cons.2 ⟨fun hm=>h1.1 (xL hm),Uc h1.2⟩
theorem Xh {el:List iW} (h:(LE el).Nodup):rd el (LE el):=
 ⟨Uc (h.sublist (UF el).1),Uc (h.sublist (UF el).2),fun s hs=>(UF el).1.subset (xL (f:=fun s=>((0:Int),s)) hs)⟩
theorem UY.nx {el:List iW} {nl:List nh} (h:UY el nl):∀n∈nl.map nh.er,QB el n:=fun n hn=>by
 obtain⟨x,hx,rfl⟩:=yQ.1 hn;obtain⟨h24,-,-,h2⟩:=uX h.1;exact (Xh h.2.1).node h24 (h2 x hx) (h.2.2 x hx)
theorem Uo {t:yB} {el:List iW} {nl:List nh} (h6:(nv el nl).2.2=0) (hx:∀n∈nl.map nh.er,QB el n) (ht:t.data.toList=iY (qK el nl)) (hs:t.size<=65536) :
  ¬xW t/\∀pg':Il,wM t pg'->el.map iW.er=pg'.enums.l.map iW.er/\nl.map nh.er=pg'.nodes.l.map nh.er:=
 Ei (Gn ht (PT h6) hs) h6 hx
theorem Wd (s:yB) (w:yM):Calls prog 25 #[s] w fun e w'=>e=.returned (.agg #[.int .i64 2,JX,JX,JX,s,()])/\∃y,w'=w.more y:=by
 go_in;go_wp2_with fail;obtain⟨W,h,i,B⟩:∃W,w.alloc (.cells #[.int .i64 2,JX,JX,JX,s,()] 73)=W/\ik w W/\iP W w 73 #[.int .i64 2,JX,JX,JX,s,()]:=⟨_,rfl,zc,jC ..⟩;have g:=(uJ B 0).trans rfl;have f:=(uJ B 1).trans rfl;have d:=(uJ B 2).trans rfl;have c:=(uJ B 3).trans rfl;have b:=(uJ B 4).trans rfl;have a:=(uJ B 5).trans rfl;rw[h];exact⟨rfl,_,by simp[results,results25,go_sem,g,f,d,c,b,a],rfl,@jP _ _ i⟩
def cZ:Tx:=.mk 1 0 2 0 ⟨#[]⟩ none 0 []
def cO:Tx:=.mk 1 0 2 1 ⟨#[]⟩ none 0 []
def cV (s:yB):Tx:=.mk 2 0 0 0 s none 0 []
def cN (b9 b12:Nat):Tx:=.mk 3 6 0 0 ⟨#[]⟩ (some b12) 2 [.mk 7 0 0 0 ⟨#[]⟩ (some b9) 2 [cZ,cV ⟨#[110]⟩],cO]
theorem TK {w:yM} (k o t v:Int) (s:yB) (hs:s.size<=65536):RX w (.mk k o t v s none 0 []):=by
 rw[RX];exact⟨by omega,by simp,by decide,by simp,.inl rfl⟩
theorem Xt {w:yM} {b9 b12:Nat} (h9:iP w b9 73 (([cZ,cV ⟨#[110]⟩].flatMap jj).toArray)) (h12:iP w b12 73 (([.mk 7 0 0 0 ⟨#[]⟩ (some b9) 2 [cZ,cV ⟨#[110]⟩],cO].flatMap jj).toArray)):RX w (cN b9 b12):=
 xS h12 (fun y hy=>by
  rcases uW.1 hy with hy | hy
  ·rw[hy]
   exact xS h9 (fun y hy=>by
    rcases uW.1 hy with hy | hy
    ·rw[hy];exact TK _ _ _ _ _ iI
    rw[yw.1 hy];exact TK _ _ _ _ _ iI) iI _ _ _ _ _ iI
  rw[yw.1 hy];exact TK _ _ _ _ _ iI) (by simp) _ _ _ _ _ iI
theorem WY {w:yM} {b9 b12:Nat} (h9:iP w b9 73 #[.int .i64 1,JX,.int .i64 2,JX,.string ⟨#[]⟩,(),.int .i64 2,JX,JX,JX,.string ⟨#[110]⟩,()]) (h12:iP w b12 73 #[.int .i64 7,JX,JX,JX,.string ⟨#[]⟩,.slice b9 2 2,.int .i64 1,JX,.int .i64 2,.int .i64 1,.string ⟨#[]⟩,()]):RX w (cN b9 b12):=Xt h9 h12
theorem iP.new2 (w:yM) (o o2:Obj) (t:TypeId) (cs:Array Value):iP (((w.alloc o).alloc o2).alloc (.cells cs t)) (w+1+1) t cs:=by
 have:=H_ (w.alloc o) o2 t cs;rwa [iH]at this
theorem iP.Fm {w:yM} {g:Nat} {T:TypeId} {c0 c1 c2 c3 c4 c5:Value} (h:iP w g T #[c0,c1,c2,c3,c4,c5]) (u0 u1 u2 u3 u4 u5:Value):iP ((((((w.setCell g u0).setCell (g,1) u1).setCell (g,2) u2).setCell (g,3) u3).setCell (g,4) u4).setCell (g,5) u5) g T #[u0,u1,u2,u3,u4,u5]:=
 (((((h.jx 0 u0).jx 1 u1).jx 2 u2).jx 3 u3).jx 4 u4).jx 5 u5
theorem iP.fars {w:yM} {g b:Nat} {T:TypeId} {cs:Array Value} (h:iP w b T cs) (hne:b≠g) (u0 u1 u2 u3 u4 u5:Value):iP ((((((w.setCell g u0).setCell (g,1) u1).setCell (g,2) u2).setCell (g,3) u3).setCell (g,4) u4).setCell (g,5) u5) b T cs:=
 (((((h.qU (p:=⟨g,0,none⟩) hne u0).qU (p:=⟨g,1,none⟩) hne u1).qU (p:=⟨g,2,none⟩) hne u2).qU (p:=⟨g,3,none⟩) hne u3).qU (p:=⟨g,4,none⟩) hne u4).qU (p:=⟨g,5,none⟩) hne u5
def cF (b9 b12 b23:Nat):Tx:=.mk 4 0 0 0 ⟨#[]⟩ (some b23) 3 [cV ⟨#[114]⟩,cZ,cN b9 b12]
theorem Xu {w:yM} {b9 b12 b23:Nat} (h:RX w (cN b9 b12)) (h23:iP w b23 73 #[.int .i64 2,JX,JX,JX,.string ⟨#[114]⟩,(),.int .i64 1,JX,.int .i64 2,JX,.string ⟨#[]⟩,(),.int .i64 3,.int .i64 6,JX,JX,.string ⟨#[]⟩,.slice b12 2 2]):RX w (cF b9 b12 b23):=
 xS (ys:=[cV ⟨#[114]⟩,cZ,cN b9 b12]) h23 (fun y hy=>by
  rcases uW.1 hy with hy | hy
  ·rw[hy];exact TK _ _ _ _ _ iI
  rcases uW.1 hy with hy | hy
  ·rw[hy];exact TK _ _ _ _ _ iI
  rw[yw.1 hy];exact h) (by simp) _ _ _ _ _ iI
theorem TL {α:Type} {sz:Nat} {P:yM->Nat->Nat->α->Prop} {w:yM} {b:Nat} {T:TypeId} {cs:Array Value} {y:α} (h:iP w b T cs) (hp:P w b 0 y):ir sz P w ⟨some b,1,[y]⟩:=
 ⟨.inr ⟨b,0,rfl,h.lt,fun i z hz=>by
  cases i with
  |zero=>simp at hz;subst hz;simpa using hp
  |succ i=>simp at hz⟩,by simp,by simp,by simp⟩
def WG (d1 d2 b9 b12 b19 b23 b26:Nat):nh:=⟨⟨#[99,111,117,110,116]⟩,⟨some d1,1,[⟨⟨#[114]⟩,1,⟨none,0,[]⟩⟩]⟩,⟨some d2,1,[⟨⟨#[110]⟩,2,⟨none,0,[]⟩⟩]⟩,⟨none,0,[]⟩,⟨some b26,1,[⟨⟨some b19,1,[⟨#[110]⟩]⟩,cF b9 b12 b23⟩]⟩,⟨none,0,[]⟩,⟨none,0,[]⟩,⟨none,0,[]⟩⟩
structure WM (w wx:yM) (g0 d1 d2 b4 b9 b12 b19 b23 b26:Nat):Prop where
 a:ik w wx
 p:iP wx g0 25 #[(),()]
 n:iP wx b4 65 #[.string ⟨#[99,111,117,110,116]⟩,.slice d1 1 1,.slice d2 1 1,(),.slice b26 1 1,(),(),()]
 hd1:iP wx d1 77 #[.string ⟨#[114]⟩,.int .i64 1,()]
 hd2:iP wx d2 77 #[.string ⟨#[110]⟩,.int .i64 2,()]
 l:iP wx b19 9 #[.string ⟨#[110]⟩]
 q:iP wx b26 79 #[.slice b19 1 1,.int .i64 4,JX,JX,JX,.string ⟨#[]⟩,.slice b23 3 3]
 h9:iP wx b9 73 #[.int .i64 1,JX,.int .i64 2,JX,.string ⟨#[]⟩,(),.int .i64 2,JX,JX,JX,.string ⟨#[110]⟩,()]
 h12:iP wx b12 73 #[.int .i64 7,JX,JX,JX,.string ⟨#[]⟩,.slice b9 2 2,.int .i64 1,JX,.int .i64 2,.int .i64 1,.string ⟨#[]⟩,()]
 h23:iP wx b23 73 #[.int .i64 2,JX,JX,JX,.string ⟨#[114]⟩,(),.int .i64 1,JX,.int .i64 2,JX,.string ⟨#[]⟩,(),.int .i64 3,.int .i64 6,JX,JX,.string ⟨#[]⟩,.slice b12 2 2]
 e:g0+1<=d1/\g0+1<=d2/\g0+1<=b9/\g0+1<=b12/\g0+1<=b19/\g0+1<=b23/\g0+1<=b26
theorem WM.pg {w wx:yM} {g0 d1 d2 b4 b9 b12 b19 b23 b26 bn:Nat} (h:WM w wx g0 d1 d2 b4 b9 b12 b19 b23 b26) {U:yM} (a:xx g0 wx U) (hn:iP U bn 65 #[.string ⟨#[99,111,117,110,116]⟩,.slice d1 1 1,.slice d2 1 1,(),.slice b26 1 1,(),(),()]):FJ True U ⟨⟨none,0,[]⟩,⟨some bn,1,[WG d1 d2 b9 b12 b19 b23 b26]⟩⟩:=by
 obtain⟨s,r,p,o,n,m,k⟩:=h.e;have f:=a.blk h.hd1 iu;have d:=a.blk h.hd2 iu;have g:=a.blk h.l iu;have b:=a.blk h.q iu;have i:=Xu (WY (a.blk h.h9 iu) (a.blk h.h12 iu)) (a.blk h.h23 iu);refine⟨ir.nil _,TL hn ⟨hn.cell 0,hn.cell 1,hn.cell 2,hn.cell 3,hn.cell 4,hn.cell 5,hn.cell 6,hn.cell 7,(show (5:Nat)<=_ by decide),TL f ⟨by decide,f.cell 0,f.cell 1,f.cell 2,by decide,ir.nil _⟩,TL d ⟨by decide,d.cell 0,d.cell 1,d.cell 2,by decide,ir.nil _⟩,ir.nil _,TL b ⟨?_,fun _=>(show (8:Nat)<=_ by decide),b.cell 0,⟨b.cell 1,b.cell 2,b.cell 3,b.cell 4,b.cell 5,b.cell 6⟩,TL g ⟨g.cell 0,by decide⟩,i⟩,ir.nil _,ir.nil _,ir.nil _⟩⟩;intro x c;have j:(cF b9 b12 b23).list=[cF b9 b12 b23,cV ⟨#[114]⟩,cZ,cN b9 b12,.mk 7 0 0 0 ⟨#[]⟩ (some b9) 2 [cZ,cV ⟨#[110]⟩],cZ,cV ⟨#[110]⟩,cO]:=rfl;have c:x∈(cF b9 b12 b23).list:=c;rw[j]at c;simp only[uW,TC,or_false]at c;rcases c with rfl | rfl | rfl | rfl | rfl | rfl | rfl | rfl
 all_goals first | (show (0:Int)<=_;decide) | (show (2:Int)<=_;decide)
theorem UU (w:yM):Calls prog 8 #[] w fun e w'=>ik w w'/\∃(bn d1 d2 b9 b12 b19 b23 b26:Nat),e=.returned (.agg #[(),.slice bn 1 1])/\FJ True w' ⟨⟨none,0,[]⟩,⟨some bn,1,[WG d1 d2 b9 b12 b19 b23 b26]⟩⟩:=by
 have HN:=iB Wd;obtain⟨t,x,a2,B0,L,K⟩:∃W,((w.alloc (.cells #[(),()] 25)).alloc (.cells #[.int .i64 1,JX,.int .i64 2,JX,.string ⟨#[]⟩,()] 73)).alloc (.cells #[.int .i64 1,JX,.int .i64 2,.int .i64 1,.string ⟨#[]⟩,()] 73)=W/\ik w W/\iP W w.heap.size 25 #[(),()]/\iP W (w.heap.size+1) 73 #[.int .i64 1,JX,.int .i64 2,JX,.string ⟨#[]⟩,()]/\iP W (w.heap.size+1+1) 73 #[.int .i64 1,JX,.int .i64 2,.int .i64 1,.string ⟨#[]⟩,()]:=
  ⟨_,rfl,zc,((jC _ _ _).alloc _).alloc _,(H_ _ _ _ _).alloc _,by
   have:=jC ((w.alloc (.cells #[(),()] 25)).alloc (.cells #[.int .i64 1,JX,.int .i64 2,JX,.string ⟨#[]⟩,()] 73)) 73 #[.int .i64 1,JX,.int .i64 2,.int .i64 1,.string ⟨#[]⟩,()];rwa [iH,iH]at this⟩
 have HK:Hid (∀U,ik t U->(U.cell? ⟨w.heap.size+1,0,none⟩=some (.int .i64 1)/\U.cell? ⟨w.heap.size+1,1,none⟩=some (.int .i64 0)/\U.cell? ⟨w.heap.size+1,2,none⟩=some (.int .i64 2)/\U.cell? ⟨w.heap.size+1,3,none⟩=some (.int .i64 0)/\U.cell? ⟨w.heap.size+1,4,none⟩=some (.string ⟨#[]⟩)/\U.cell? ⟨w.heap.size+1,5,none⟩=some (.slice none 0 0))/\U.cell? ⟨w.heap.size+1+1,0,none⟩=some (.int .i64 1)/\U.cell? ⟨w.heap.size+1+1,1,none⟩=some (.int .i64 0)/\U.cell? ⟨w.heap.size+1+1,2,none⟩=some (.int .i64 2)/\U.cell? ⟨w.heap.size+1+1,3,none⟩=some (.int .i64 1)/\U.cell? ⟨w.heap.size+1+1,4,none⟩=some (.string ⟨#[]⟩)/\U.cell? ⟨w.heap.size+1+1,5,none⟩=some (.slice none 0 0)):=iB fun U y=>by
  have o:=mZ (k:=y) L;have m:=mZ (k:=y) K;exact⟨⟨o.cell 0,o.cell 1,o.cell 2,o.cell 3,o.cell 4,o.cell 5⟩,m.cell 0,m.cell 1,m.cell 2,m.cell 3,m.cell 4,m.cell 5⟩
 obtain⟨⟨k0,k1,k2,k3,k4,k5⟩,m0,m1,m2,m3,m4,m5⟩:=HK.out t (iq _);have l1:=L.is_le;have l2:=K.is_le;have G:=iB (And.intro B0 (And.intro L K));have HA:=iB a2;have B:=iB x;clear B0 L K a2 x;go_in;go_wp2_with fail;rw[B.out];clear B;have c:∀{Y:yM},ik t Y->w.heap.size+1<=Y.heap.size:=fun a=>jW G.out.1.lt a.below.size
 go_cut [3] (fun p wx=>∃g b9 b12:Nat,p=.pointer g/\ik t wx/\Hid (iP wx g 73 #[.int .i64 3,.int .i64 6,JX,JX,.string ⟨#[]⟩,.slice b12 2 2]/\iP wx b9 73 #[.int .i64 1,JX,.int .i64 2,JX,.string ⟨#[]⟩,(),.int .i64 2,JX,JX,JX,.string ⟨#[110]⟩,()]/\iP wx b12 73 #[.int .i64 7,JX,JX,JX,.string ⟨#[]⟩,.slice b9 2 2,.int .i64 1,JX,.int .i64 2,.int .i64 1,.string ⟨#[]⟩,()]/\w.heap.size+1<=b9/\w.heap.size+1<=b12))
 ·
  go_region_held3 (fun V=>(V.cell? ⟨w.heap.size+1,0,none⟩=some (.int .i64 1)/\V.cell? ⟨w.heap.size+1,1,none⟩=some (.int .i64 0)/\V.cell? ⟨w.heap.size+1,2,none⟩=some (.int .i64 2)/\V.cell? ⟨w.heap.size+1,3,none⟩=some (.int .i64 0)/\V.cell? ⟨w.heap.size+1,4,none⟩=some (.string ⟨#[]⟩)/\V.cell? ⟨w.heap.size+1,5,none⟩=some (.slice none 0 0))/\V.cell? ⟨w.heap.size+1+1,0,none⟩=some (.int .i64 1)/\V.cell? ⟨w.heap.size+1+1,1,none⟩=some (.int .i64 0)/\V.cell? ⟨w.heap.size+1+1,2,none⟩=some (.int .i64 2)/\V.cell? ⟨w.heap.size+1+1,3,none⟩=some (.int .i64 1)/\V.cell? ⟨w.heap.size+1+1,4,none⟩=some (.string ⟨#[]⟩)/\V.cell? ⟨w.heap.size+1+1,5,none⟩=some (.slice none 0 0)) (exact HK.out _ inferInstance)
   (first | (go_at_call 25;(with_reducible refine (HN.out _ _).mono ?_);rintro e V1 ⟨rfl,y1,rfl⟩))
  all_goals
   go_wp2;go_meet;first
    |with_reducible exact⟨_,_,_,rfl,zc,iB ⟨iP.new2 _ _ _ _ _,((jC _ _ _).alloc _).alloc _,(H_ _ _ _ _).alloc _,(c zc),(Nat.le_add_right_of_le (c zc))⟩⟩
    |with_reducible exact⟨_,_,_,rfl,zc,iB ⟨(H_ _ _ _ _).alloc _,((jC _ _ _).alloc _).alloc _,iP.new2 _ _ _ _ _,(c zc),(Nat.le_add_right_of_le (Nat.le_add_right_of_le (c zc)))⟩⟩
    |with_reducible exact⟨_,_,_,rfl,zc,iB ⟨((jC _ _ _).alloc _).alloc _,(H_ _ _ _ _).alloc _,iP.new2 _ _ _ _ _,(Nat.le_add_right_of_le (c zc)),(Nat.le_add_right_of_le (Nat.le_add_right_of_le (c zc)))⟩⟩
    |(have a0:uD t t.heap.size:=⟨js _⟩
      have s:=(((jC t 73 #[JX,JX,JX,JX,.string ⟨#[]⟩,()]).drew).more y1);have R:=Nat.ne_of_gt s.lt;have O:=Nat.ne_of_gt (Nat.lt_succ_of_lt s.lt)
      with_reducible exact⟨_,_,_,rfl,zc,iB ⟨iP.Fm ((s.alloc _).alloc _) _ _ _ _ _ _,iP.fars ((jC _ _ _).alloc _) R _ _ _ _ _ _,iP.fars (H_ _ _ _ _) O _ _ _ _ _ _,(c zc),(Nat.le_add_right_of_le (c zc))⟩⟩)
 case rest=>
 obtain⟨g,b9,b12,rfl,q,HC⟩:=hcut;obtain⟨W5,u,F,I,H,r⟩:∃W,((wc.alloc (.cells #[.string ⟨#[114]⟩,.int .i64 1,.slice none 0 0] 77)).alloc (.cells #[.string ⟨#[110]⟩,.int .i64 2,.slice none 0 0] 77)).alloc (.cells #[.string ⟨#[99,111,117,110,116]⟩,.slice (some ⟨wc.heap.size,0,none⟩) 1 1,.slice (some ⟨wc.heap.size+1,0,none⟩) 1 1,.slice none 0 0,.slice none 0 0,.slice none 0 0,.slice none 0 0,.slice none 0 0] 65)=W/\ik wc W/\iP W wc.heap.size 77 #[.string ⟨#[114]⟩,.int .i64 1,.slice none 0 0]/\iP W (wc.heap.size+1) 77 #[.string ⟨#[110]⟩,.int .i64 2,.slice none 0 0]/\iP W (wc.heap.size+1+1) 65 #[.string ⟨#[99,111,117,110,116]⟩,.slice (some ⟨wc.heap.size,0,none⟩) 1 1,.slice (some ⟨wc.heap.size+1,0,none⟩) 1 1,.slice none 0 0,.slice none 0 0,.slice none 0 0,.slice none 0 0,.slice none 0 0]:=
  ⟨_,rfl,inferInstance,((jC _ _ _).alloc _).alloc _,(H_ _ _ _ _).alloc _,iP.new2 _ _ _ _ _⟩
 have i:=ij q F;have J:=mZ (k:=F) HC.out.1;have C:Hid (∀U,ik wc U->(U.cell? ⟨w.heap.size+1,0,none⟩=some (.int .i64 1)/\U.cell? ⟨w.heap.size+1,1,none⟩=some (.int .i64 0)/\U.cell? ⟨w.heap.size+1,2,none⟩=some (.int .i64 2)/\U.cell? ⟨w.heap.size+1,3,none⟩=some (.int .i64 0)/\U.cell? ⟨w.heap.size+1,4,none⟩=some (.string ⟨#[]⟩)/\U.cell? ⟨w.heap.size+1,5,none⟩=some (.slice none 0 0))/\U.cell? g=some (.int .i64 3)/\U.cell? ⟨g,1,none⟩=some (.int .i64 6)/\U.cell? ⟨g,2,none⟩=some (.int .i64 0)/\U.cell? ⟨g,3,none⟩=some (.int .i64 0)/\U.cell? ⟨g,4,none⟩=some (.string ⟨#[]⟩)/\U.cell? ⟨g,5,none⟩=some (.slice (some b12) 2 2)):=iB fun U y=>by
  have j:=mZ (k:=y) HC.out.1;exact⟨(HK.out U (ij q y)).1,j.cell 0,j.cell 1,j.cell 2,j.cell 3,j.cell 4,j.cell 5⟩
 obtain⟨⟨k0,k1,k2,k3,k4,k5⟩,m0,m1,m2,m3,m4,m5⟩:=C.out W5 F;have l1:Le (w.heap.size+1+1) W5:=⟨jW G.out.2.1.lt i.below.size⟩;have l3:=J.is_le;have c4:W5.cell? ⟨wc.heap.size+1+1,4,none⟩=some (.slice none 0 0):=r.cell 4;have a9:=r.frozen 4;have l4:=r.is_le;have HD:=iB (And.intro I (And.intro H (And.intro r (And.intro i (And.intro q J)))));have A:=iB u;have n4:uD wc (wc.heap.size+1+1):=⟨by omega⟩;clear u I H r i q J;go_wp2_with fail;rw[A.out];clear A;have HP:Hid (∀(X:yM) (b19 b23 b26:Nat),ik W5 X->iP X b19 9 #[.string ⟨#[110]⟩]->iP X b23 73 #[.int .i64 2,.int .i64 0,.int .i64 0,.int .i64 0,.string ⟨#[114]⟩,.slice none 0 0,.int .i64 1,.int .i64 0,.int .i64 2,.int .i64 0,.string ⟨#[]⟩,.slice none 0 0,.int .i64 3,.int .i64 6,.int .i64 0,.int .i64 0,.string ⟨#[]⟩,.slice (some b12) 2 2]->iP X b26 79 #[.slice (some b19) 1 1,.int .i64 4,.int .i64 0,.int .i64 0,.int .i64 0,.string ⟨#[]⟩,.slice (some b23) 3 3]->W5.heap.size<=b19->W5.heap.size<=b23->W5.heap.size<=b26->WM w (X.setCell ⟨wc.heap.size+1+1,4,none⟩ (.slice (some b26) 1 1)) w.heap.size wc.heap.size (wc.heap.size+1) (wc.heap.size+1+1) b9 b12 b19 b23 b26):=iB fun X b19 b23 b26 E S Q P a8 a7 a6=>by
  obtain⟨I,H,r,i,q,J⟩:=HD.out;have l4:=r.lt;have z:=ij HA.out q;have ew:=z.below.size;have D:ik wc (X.setCell (wc.heap.size+1+1,4) (.slice b26 1 1)):=pQ (h:=ij F E) (k:=n4) _ _;have a4:w.heap.size<wc.heap.size:=rO G.out.1.lt q.below.size;obtain⟨-,c9,Z,g9,T⟩:=HC.out;refine⟨ij z D,mZ (k:=ij q D) G.out.1,?_,?_,?_,?_,?_,mZ (k:=D) c9,mZ (k:=D) Z,?_,by omega,by omega,g9,T,by omega,by omega,by omega⟩
  ·have:=(mZ (k:=E) r).jx 4 (.slice b26 1 1)
   simpa using this
  ·exact (mZ (k:=E) I).qU (p:=(wc.heap.size+1+1,4)) (by show wc.heap.size≠wc.heap.size+1+1;omega) _
  ·exact (mZ (k:=E) H).qU (p:=(wc.heap.size+1+1,4)) (by show wc.heap.size+1≠wc.heap.size+1+1;omega) _
  ·exact S.qU (p:=(wc.heap.size+1+1,4)) (by show b19≠wc.heap.size+1+1;omega) _
  ·exact P.qU (p:=(wc.heap.size+1+1,4)) (by show b26≠wc.heap.size+1+1;omega) _
  exact Q.qU (p:=(wc.heap.size+1+1,4)) (by show b23≠wc.heap.size+1+1;omega) _
 have f:∀{Y:yM},ik W5 Y->W5.heap.size<=Y.heap.size:=fun a=>a.below.size
 go_cut [] (fun wx=>∃d1 b19 b23 b26:Nat,Hid (WM w wx w.heap.size d1 (d1+1) (d1+1+1) b9 b12 b19 b23 b26)/\Hid (d1=wc.heap.size))
 ·
  go_region_held3 (fun U=>(U.cell? ⟨w.heap.size+1,0,none⟩=some (.int .i64 1)/\U.cell? ⟨w.heap.size+1,1,none⟩=some (.int .i64 0)/\U.cell? ⟨w.heap.size+1,2,none⟩=some (.int .i64 2)/\U.cell? ⟨w.heap.size+1,3,none⟩=some (.int .i64 0)/\U.cell? ⟨w.heap.size+1,4,none⟩=some (.string ⟨#[]⟩)/\U.cell? ⟨w.heap.size+1,5,none⟩=some (.slice none 0 0))/\U.cell? g=some (.int .i64 3)/\U.cell? ⟨g,1,none⟩=some (.int .i64 6)/\U.cell? ⟨g,2,none⟩=some (.int .i64 0)/\U.cell? ⟨g,3,none⟩=some (.int .i64 0)/\U.cell? ⟨g,4,none⟩=some (.string ⟨#[]⟩)/\U.cell? ⟨g,5,none⟩=some (.slice (some b12) 2 2)) (exact C.out _ inferInstance)
   (first | (go_at_call 25;(with_reducible refine (HN.out _ _).mono ?_);rintro e V1 ⟨rfl,y1,rfl⟩))
  all_goals
   go_wp2;go_meet;first
    |with_reducible exact⟨_,_,_,_,iB (HP.out _ _ _ _ zc (((jC _ _ _).drew.more _).alloc _ |>.alloc _) ((jC _ _ _).alloc _) (H_ _ _ _ _) (js _) (f zc) (Nat.le_add_right_of_le (f zc))),iB rfl⟩
    |with_reducible exact⟨_,_,_,_,iB (HP.out _ _ _ _ zc (((jC _ _ _).alloc _).alloc _) ((H_ _ _ _ _).alloc _) (iP.new2 _ _ _ _ _) (f zc) (Nat.le_add_right_of_le (f zc)) (Nat.le_add_right_of_le (Nat.le_add_right_of_le (f zc)))),iB rfl⟩
    |with_reducible exact⟨_,_,_,_,iB (HP.out _ _ _ _ zc ((H_ _ _ _ _).alloc _) (((jC _ _ _).alloc _).alloc _) (iP.new2 _ _ _ _ _) (Nat.le_add_right_of_le (f zc)) (f zc) (Nat.le_add_right_of_le (Nat.le_add_right_of_le (f zc)))),iB rfl⟩
 case rest=>
 obtain⟨d1,b19,b23,b26,d,M⟩:=hcut;rw[<- M.out];obtain⟨b4,N⟩:=jt (d1+1+1);rw[N]at d⊢;have x0:=d.out.n.cell 0;have o:=d.out.n.cell 1;have m:=d.out.n.cell 2;have j:=d.out.n.cell 3;have x4:=d.out.n.cell 4;have x5:=d.out.n.cell 5;have x6:=d.out.n.cell 6;have x7:=d.out.n.cell 7;simp only[List.getElem?_toArray,List.getElem?_cons_zero,List.getElem?_cons_succ]at x0 o m j x4 x5 x6 x7;have xl:=d.out.n.is_le;have p0:=d.out.p.cell 0;have p1:=d.out.p.cell 1;simp only[List.getElem?_toArray,List.getElem?_cons_zero,List.getElem?_cons_succ]at p0 p1;have q0:=d.out.p.frozen 0;have q1:=d.out.p.frozen 1;have pl:=d.out.p.is_le;have a1:uD w w.heap.size:=⟨js _⟩;have aw:=d.out.a;have a3:=d.out.p.lt;go_wp2_with fail;have B6:=((d.out.p.jx 0 (.slice none 0 0)).jx 1 (.slice (some ⟨wc.heap.size,0,none⟩) 1 1)).alloc (.cells #[.string ⟨#[99,111,117,110,116]⟩,.slice (some d1) 1 1,.slice (some ⟨d1+1,0,none⟩) 1 1,.slice none 0 0,.slice (some b26) 1 1,.slice none 0 0,.slice none 0 0,.slice none 0 0] 65);have u0:=(B6.cell 0).trans rfl;have u1:=(B6.cell 1).trans rfl;have aU:ik w (((wc.setCell ⟨w.heap.size,0,none⟩ (.slice none 0 0)).setCell ⟨w.heap.size,1,none⟩ (.slice (some ⟨wc.heap.size,0,none⟩) 1 1)).alloc (.cells #[.string ⟨#[99,111,117,110,116]⟩,.slice (some d1) 1 1,.slice (some ⟨d1+1,0,none⟩) 1 1,.slice none 0 0,.slice (some b26) 1 1,.slice none 0 0,.slice none 0 0,.slice none 0 0] 65)):=inferInstance;have hn:=jC ((wc.setCell ⟨w.heap.size,0,none⟩ (.slice none 0 0)).setCell ⟨w.heap.size,1,none⟩ (.slice (some ⟨wc.heap.size,0,none⟩) 1 1)) 65 #[.string ⟨#[99,111,117,110,116]⟩,.slice (some d1) 1 1,.slice (some ⟨d1+1,0,none⟩) 1 1,.slice none 0 0,.slice (some b26) 1 1,.slice none 0 0,.slice none 0 0,.slice none 0 0]
 rw[jc,jc]at hn;have hr:=d.out.pg (((xx.set wc 0 (.slice none 0 0)).trans (xx.set _ 1 (.slice (some ⟨wc.heap.size,0,none⟩) 1 1))).trans (ni inferInstance)) hn;exact jR (v:=.agg #[.slice none 0 0,.slice (some ⟨wc.heap.size,0,none⟩) 1 1]) (by simp[results,results8,go_sem,u0,u1]) rfl ⟨aU,_,_,_,_,_,_,_,_,rfl,hr⟩
section
open Go.ChangeShapes Go.WideShapes Go.ChangeAt Go.Joins Go.Deep
theorem Pi {H:Type} {d:DataW H} {l:List (DataW H)} (h:d∈l):Rows.uptoBulk d<=Rows.uptoBulkAll l:=by
 induction l with
 |nil=>cases h
 |cons x r ih=>
 simp only[Rows.uptoBulkAll];rcases uW.1 h with e | e
 ·subst e;omega
 have:=ih e;omega
theorem T5 {H:Type} (l r:List (DataW H)):Rows.uptoBulkAll (l++r)=Rows.uptoBulkAll l+Rows.uptoBulkAll r:=by
 induction l with
 |nil=>simp[Rows.uptoBulkAll]
 |cons x l ih=>simp only[lP,Rows.uptoBulkAll,ih];omega
theorem Uy (a b:List Tx):Tx.sizes (a++b)=Tx.sizes a+Tx.sizes b:=by
 induction a with
 |nil=>simp[Tx.sizes]
 |cons x l ih=>simp only[lP,Tx.sizes,ih];omega
theorem TN {a:Int} (h:(Lit.int .i64 a).wf=true):a<=9223372036854775807:=by
 simp[Lit.wf,IntKind.min,IntKind.max,IntKind.signed,IntKind.bits]at h;omega
theorem Vw {l:List Tx} (h:∀e∈l,FY e):∀y∈Tx.lists l,y.ty<=9223372036854775807:=by
 induction l with
 |nil=>intro y b;rw[Tx.lists]at b;cases b
 |cons a l ih=>
 intro y b;rw[Tx.lists,ue]at b;rcases b with b | b
 ·exact h a (by simp) y b
 exact ih (fun e c=>h e (by simp[c])) y b
section
variable {H:Type} {enc:TypeId×Value->H} {P:Program} {w:yM} {base:Nat} {spare:Nat->Bool} {held:Bool}
theorem V6 {te ts:TypeId} {f0 f1 f2 f3 f4 f5:Field} (he:P.underlying te=some (.struct #[f0,f1,f2,f3,f4,f5])) (ce:P.cellsOf te=6) (be:P.bytesOf te=72)
  (o0:f0.offset=0) (o1:f1.offset=1) (o2:f2.offset=2) (o3:f3.offset=3) (o4:f4.offset=4) (o5:f5.offset=5)
  (c0:P.cellsOf f0.type=1) (c1:P.cellsOf f1.type=1) (c2:P.cellsOf f2.type=1) (c3:P.cellsOf f3.type=1) (c4:P.cellsOf f4.type=1) (c5:P.cellsOf f5.type=1)
  (t0:P.underlying f0.type=some (.int .i64)) (t1:P.underlying f1.type=some (.int .i64)) (t2:P.underlying f2.type=some (.int .i64)) (t3:P.underlying f3.type=some (.int .i64)) (t4:P.underlying f4.type=some .string) (t5:f5.type=ts) (hs:P.underlying ts=some (.slice te)) :
  ∀n,(∀cs x,DataW.trod enc P w base spare held n te cs=some x->(∀m∈x.1.weights P te,m<=reachBytes)->∃e:Tx,cs=(jj e)/\RX w e/\FY e/\e.size<=Rows.uptoBulk x.1) /\
   (∀c x,DataW.trod enc P w base spare held n ts [c]=some x->(∀m∈x.1.weights P ts,m<=reachBytes)->∃A cp l,c=.slice A l.length cp/\RX w (L2 A cp l)/\(∀e∈l,FY e)/\Tx.sizes l<=Rows.uptoBulk x.1):=by
 intro n;induction n with
 |zero=>exact⟨fun cs x h=>by simp[DataW.trod]at h,fun c x h=>by simp[DataW.trod]at h⟩
 |succ n ih=>
 refine⟨fun cs x h H=>?_,fun c x h H=>?_⟩
 ·obtain⟨xs,k,hk,b,t,M,o⟩:=DataW.trod_struct he h
  obtain rfl:k=n:=iu
  rw[ce]at t
  match xs,M,cs,t with
  |[y0,y1,y2,y3,y4,y5],_,[v0,v1,v2,v3,v4,v5],_=>
  have g0:=o 0 f0 rfl;have g1:=o 1 f1 rfl;have g2:=o 2 f2 rfl;have g3:=o 3 f3 rfl;have Z:=o 4 f4 rfl;have W:=o 5 f5 rfl;simp[o0,c0]at g0;simp[o1,c1]at g1;simp[o2,c2]at g2;simp[o3,c3]at g3;simp[o4,c4]at Z;simp[o5,c5]at W;rw[t5]at W;obtain⟨a0,J,-,-⟩:=DataW.trod_int t0 g0;obtain⟨a1,p,-,-⟩:=DataW.trod_int t1 g1;obtain⟨a2,C,-,K⟩:=DataW.trod_int t2 g2;obtain⟨a3,F,-,-⟩:=DataW.trod_int t3 g3;obtain⟨D,I,e4,a7⟩:=DataW.trod_string t4 Z;have Y:∀m,(m∈y4.1.weights P f4.type\/m∈y5.1.weights P f5.type)->m<=reachBytes:=by
   intro m d;refine H m ?_;rw[b];simp only[DataW.weights,he,DataW.weightsEach,mJ,tW,ue];rcases d with d | d
   ·simp[d]
   simp[d]
  obtain⟨A,cp,l,h5,z,N,a4⟩:=ih.2 v5 y5 W (fun m d=>Y m (.inr (by rw[t5];exact d)));have O:D.size<=140737488355328:=by
   have:=Y D.data.toList (.inl (by rw[e4];simp only[DataW.weights,yw]));unfold reachBytes at this;have e:D.size=D.data.toList:=rfl;omega
  simp only[List.cons.injEq,and_true]at J p C F I;subst J;subst p;subst C;subst F;subst I;subst h5;refine⟨.mk a0 a1 a2 a3 D A cp l,rfl,?_,?_,?_⟩
  ·unfold L2 at z
   rw[RX]at z⊢;exact⟨O,z.2⟩
  ·intro y q
   rw[Tx.list,uW]at q;rcases q with rfl | q
   ·show a2<=_
    exact TN K
   exact Vw N y q
  rw[Tx.size];have a6:Rows.uptoBulk y5.1<=Rows.uptoBulkAll ([y0,y1,y2,y3,y4,y5].map (·.1)):=Pi (by simp);rw[b];simp only[Rows.uptoBulk];omega
 rcases DataW.trod_slice hs h with⟨p,rfl⟩ | ⟨a,len,cap,elems,rest,k,hk,p,b,hb,hl,d,hlen,hel,-,-⟩
 ·simp at p
  subst p;refine⟨none,0,[],rfl,?_,by simp,by simp[Tx.sizes]⟩;unfold L2;rw[RX];exact⟨by decide,by simp,by decide,by simp,.inl rfl⟩
 obtain rfl:k=n:=iu
 simp at p;subst p;have s:len<=140737488355328:=by
  have:=H ((elems.length+rest)*P.bytesOf te) (by rw[b];simp[DataW.weights,hs]);rw[be]at this;unfold reachBytes at this;omega
 have G:∀i,i<len->∃e:Tx,((∀j,j<6->w.cell? ((a.add (i*6)).add j)=(jj e)[j]?)/\RX w e)/\FY e/\∀y,elems[i]?=some y->e.size<=Rows.uptoBulk y.1:=by
  intro i B;have C:=hel i B;rw[qn iu]at C;obtain⟨X,F,I⟩:=mW.1 C;rw[ce]at F;obtain⟨_,t,u⟩:=World.cells?_some F;obtain⟨e,V,U,T,S⟩:=ih.1 X _ I (fun m d=>H m (by
   rw[b];simp only[DataW.weights,hs,uW,ue];exact .inr (.inl (lw (xL (f:=(·.1)) (Fq (by omega:i<elems))) m d))))
  exact⟨e,⟨fun j hj=>by rw[u j hj,V],U⟩,T,fun y q=>by rw[qn iu]at q;injection q with q;rw[<- q];exact S⟩
 obtain⟨f,o⟩:=choose_lt G;refine⟨some a,cap,(List.range len).map f,by simp,?_,?_,?_⟩
 ·unfold L2
  rw[RX];unfold maxLen at d;refine⟨by decide,by simpa using hl,d,by simpa using s,?_⟩;by_cases J:len=0
  ·subst J;exact .inl rfl
  have r:=(o 0 iu).1.1 0 iu;rw[show (a.add (0*6)).add 0=a by simp[Addr.add]]at r;have hp:=pu (w:=w) (a:=a) (v:=.int .i64 (f 0).kind) r;refine .inr ⟨a.block,a.off,by rw[<- hp],?_,xX.of_get _ _ fun i e B=>?_⟩
  ·rw[hp]at r;exact GT r
  have E:i<len:=by
   have:=(rq.1 B).1;simpa using this
  have Q:f i=e:=by simpa[E] using B
  obtain⟨g,z⟩:=(o i E).1;rw[Q]at g z;rw[hp]at g;simp only[add_plain]at g;exact⟨⟨g 0 iu,g 1 iu,g 2 iu,g 3 iu,g 4 iu,g 5 iu⟩,z⟩
 ·intro e R
  obtain⟨i,B,rfl⟩:=yQ.1 R;exact (o i (List.mem_range.1 B)).2.1
 have L:∀(m:Nat),m<=len->Tx.sizes ((List.range m).map f)<=Rows.uptoBulkAll ((elems.take m).map (·.1)):=by
  intro m;induction m with
  |zero=>intro _;simp[Tx.sizes]
  |succ m ihm=>
  intro a5;have p:=ihm iu;have C:=(o m iu).2.2 _ (qn iu);rw[List.range_succ,s_,Uy,List.take_add_one,qn iu,s_,T5];simp only[mJ,tW,Tx.sizes,Option.toList,Rows.uptoBulkAll];omega
 have p:=L len (js _);rw[Dn iu]at p;rw[b];simp only[Rows.uptoBulk];omega
def Yf (P:Program) (S:Prop) (T:TypeId) (d:DataW H):Prop:=(∀m∈d.weights P T,m<=reachBytes)/\(S->Rows.uptoBulk d<=1048576)
def dg (enc:TypeId×Value->H) (P:Program) (w:yM) (base:Nat) (spare:Nat->Bool) (held:Bool) (S:Prop) (n:Nat) (T:TypeId) {α:Type} (cells:α->zO) (good:α->Prop) (wt:α->Nat):Prop:=
 ∀cs x,DataW.trod enc P w base spare held n T cs=some x->Yf P S T x.1->∃a,cs=cells a/\good a/\wt a<=Rows.uptoBulk x.1
variable {S:Prop} {n:Nat} {T:TypeId} {α β:Type}
theorem dg.zero {cells:α->zO} {good:α->Prop} {wt:α->Nat}:dg enc P w base spare held S 0 T cells good wt:=fun cs x h=>by simp[DataW.trod]at h
theorem dg.map {cells:α->zO} {good:α->Prop} {wt:α->Nat} {cells':β->zO} {good':β->Prop} {wt':β->Nat} (h:dg enc P w base spare held S n T cells good wt) (f:α->β) (hc:∀a,cells a=cells' (f a)) (hg:∀a,good a->good' (f a)) (hw:∀a,wt' (f a)<=wt a):dg enc P w base spare held S n T cells' good' wt':=fun cs x h1 h2=>by
 obtain⟨a,rfl,ga,ha⟩:=h cs x h1 h2;exact⟨f a,hc a,hg a ga,jW (hw a) ha⟩
theorem dg.str (ht:P.underlying T=some .string):dg enc P w base spare held S n T (fun s:yB=>[s]) (fun s=>s.size<=140737488355328) (fun _=>0):=fun cs x h hz=>by
 obtain⟨s,rfl,rfl,h1⟩:=DataW.trod_string ht h;refine⟨s,rfl,?_,wB _⟩;have:=hz.1 s.data.toList (by simp only[DataW.weights,yw]);unfold reachBytes at this;have e:s.size=s.data.toList:=rfl;omega
theorem dg.int (ht:P.underlying T=some (.int .i64)):dg enc P w base spare held S n T (fun a:Int=>[a]) (fun a=>a<=9223372036854775807) (fun _=>0):=fun cs x h hz=>by
 obtain⟨a,rfl,rfl,h1⟩:=DataW.trod_int ht h;exact⟨a,rfl,TN h1,wB _⟩
theorem dg.bool (ht:P.underlying T=some .bool):dg enc P w base spare held S n T (fun a:Bool=>[a]) (fun _=>True) (fun _=>0):=fun cs x h hz=>by
 obtain⟨a,rfl,rfl⟩:=DataW.trod_bool ht h;exact⟨a,rfl,trivial,wB _⟩
def Yk (cells:α->zO) (good:α->Prop) (w:yM) (b o:Nat) (y:α):Prop:=(∀j u,(cells y)[j]?=some u->w.cell? ⟨b,o+j,none⟩=some u)/\good y
theorem ir.imp {α:Type} {sz:Nat} {P Q:yM->Nat->Nat->α->Prop} {w:yM} {x:nB α} (h:ir sz P w x) (hi:∀b o y,P w b o y->Q w b o y):ir sz Q w x:=by
 refine⟨?_,h.le,h.cap,h.len⟩;rcases h.cells with e | ⟨b,p,e,hlt,hc⟩
 ·exact .inl e
 exact .inr ⟨b,p,e,hlt,fun i y a=>hi _ _ _ (hc i y a)⟩
theorem dg.slice {te ts:TypeId} {sz:Nat} {cells:α->zO} {good:α->Prop} (hs:P.underlying ts=some (.slice te)) (ce:P.cellsOf te=sz) (be:0<P.bytesOf te) (hsz:0<sz) (hc:∀a,(cells a).length=sz) (hn:Nonempty α) {wt:α->Nat} (h:dg enc P w base spare held S n te cells good wt) :
  dg enc P w base spare held S (n+1) ts (fun x:nB α=>[(x.A,x.l,x.c)]) (fun x=>ir sz (Yk cells good) w x) (fun x=>(x.l.map wt).sum):=fun cs x hh hz=>by
 rcases DataW.trod_slice hs hh with⟨h1,rfl⟩ | ⟨a,len,cap,elems,rest,k,hk,h1,hxy,hb,hl,hm,hlen,hel,-,-⟩
 ·exact⟨⟨none,0,[]⟩,h1,ir.nil w,wB _⟩
 obtain rfl:k=n:=iu
 subst h1;have hlenb:len<=140737488355328:=by
  have q:=hz.1 ((elems.length+rest)*P.bytesOf te) (by rw[hxy];simp[DataW.weights,hs]);unfold reachBytes at q;have F:(elems.length+rest)*1<=(elems.length+rest)*P.bytesOf te:=Nat.mul_le_mul_left _ be;omega
 have r:∀i,i<len->∃e:α,(∀j,j<sz->w.cell? ((a.add (i*sz)).add j)=(cells e)[j]?)/\good e/\∀y,elems[i]?=some y->wt e<=Rows.uptoBulk y.1:=by
  intro i t;have q:=hel i t;rw[qn iu]at q;obtain⟨G,F,N⟩:=mW.1 q;rw[ce]at F;obtain⟨_,L,o⟩:=World.cells?_some F;obtain⟨e,E,D,C⟩:=h G _ N ⟨fun m hm=>hz.1 m (by
   rw[hxy];simp only[DataW.weights,hs,uW,ue];exact .inr (.inl (lw (xL (f:=(·.1)) (Fq (by omega:i<elems))) m hm))),fun M=>by
   have J:=hz.2 M;rw[hxy]at J;simp only[Rows.uptoBulk]at J;have Q:=Pi (xL (f:=(·.1)) (Fq (by omega:i<elems)));omega⟩
  exact⟨e,fun j v=>by rw[o j v,E],D,fun y s=>by rw[qn iu]at s;injection s with s;rw[<- s];exact C⟩
 have:Inhabited α:=⟨Classical.choice hn⟩;obtain⟨f,B⟩:=choose_lt r;have d:∀(m:Nat),m<=len->(((List.range m).map f).map wt).sum<=Rows.uptoBulkAll ((elems.take m).map (·.1)):=by
  intro m;induction m with
  |zero=>intro _;simp
  |succ m ihm=>
  intro K;have h1:=ihm iu;have q:=(B m iu).2.2 _ (qn iu);rw[List.range_succ,s_,s_,List.sum_append,List.take_add_one,qn iu,s_,T5];simp only[mJ,tW,List.sum_cons,List.sum_nil,Option.toList,Rows.uptoBulkAll];omega
 have d:=d len (js _);rw[Dn iu]at d;refine⟨⟨some a,cap,(List.range len).map f⟩,by simp,?_,by rw[hxy];simp only[Rows.uptoBulk];omega⟩;unfold maxLen at hm;refine⟨?_,by simpa using hl,hm,by simpa using hlenb⟩;by_cases O:len=0
 ·subst O;exact .inl rfl
 have b:=(B 0 iu).1 0 hsz;rw[show (a.add (0*sz)).add 0=a by simp[Addr.add],qn (by rw[hc];exact hsz)]at b;have hp:=pu b;refine .inr ⟨a.block,a.off,by rw[<- hp],?_,fun i e t=>?_⟩
 ·rw[hp]at b;exact GT b
 have p:i<len:=by
  have:=(rq.1 t).1;simpa using this
 have z:f i=e:=by simpa[p] using t
 obtain⟨g,H,-⟩:=B i p;rw[z]at g H;rw[hp]at g;simp only[add_plain]at g;refine⟨fun j u I=>?_,H⟩;have v:j<sz:=by rw[<- hc e];exact (rq.1 I).1
 rw[g j v];exact I
theorem Yf.part {te:TypeId} {fs:Array Field} (he:P.underlying te=some (.struct fs)) {xs:List (DataW H×List MemPlace)} (h:Yf P S te (.agg (xs.map (·.1)))) {i:Nat} {f:Field} {y:DataW H×List MemPlace} (hf:fs[i]?=some f) (hy:xs[i]?=some y):Yf P S f.type y.1:=by
 refine⟨fun m a=>h.1 m ?_,fun b=>?_⟩
 ·simp only[DataW.weights,he]
  exact DataW.weights_mem_each (j:=i) (t:=f.type) (by simpa using ⟨f,by simpa using hf,rfl⟩) (by simp[hy]) m a
 have c:=h.2 b;have d:Rows.uptoBulk y.1<=Rows.uptoBulkAll (xs.map (·.1)):=Pi (xL (f:=(·.1)) (om hy));simp only[Rows.uptoBulk]at c;omega
theorem ap (l:zO) (o n:Nat):l.drop o=(l.drop o).take n++l.drop (o+n):=by
 rw[<- List.drop_drop];exact (Gv n _).symm
theorem dg.st1 {te:TypeId} {f0:Field} {α0:Type} {cells0:α0->zO} {good0:α0->Prop} {wt0:α0->Nat} (he:P.underlying te=some (.struct #[f0])) (ce:P.cellsOf te=1) (o0:f0.offset=0) (c0:P.cellsOf f0.type=1) (h0:dg enc P w base spare held S n f0.type cells0 good0 wt0) :
  dg enc P w base spare held S (n+1) te (fun a:α0=>cells0 a) (fun a=>good0 (a)) (fun a=>wt0 (a)+1):=fun cs x h hz=>by
 obtain⟨xs,k,hk,hxy,hcl,hxl,hf⟩:=DataW.trod_struct he h;obtain rfl:k=n:=iu
 rw[ce]at hcl;rw[hxy]at hz⊢;have g0:=hf 0 f0 rfl;rw[o0,c0,qn (by rw[hxl];show 0<1;decide)]at g0;obtain⟨a0,e0,p0,b0⟩:=h0 _ _ g0 (hz.part he (i:=0) rfl (qn _));refine⟨a0,?_,p0,?_⟩;rotate_left
 ·match xs,hxl,b0 with
  |[y0],_,b0=>
  simp only[mJ,tW,Rows.uptoBulk,Rows.uptoBulkAll];have b0:wt0 a0<=Rows.uptoBulk y0.1:=b0;show wt0 a0+1<=_
  omega
 show cs=cells0 a0
 rw[<- e0];have z:cs.drop 0=cs:=rfl;have z0:=ap cs 0 1;have zl:cs.drop 1=[]:=Bn iu;simp only[t_,Nat.reduceAdd]at z0;rw[zl,oV]at z0;rw[z]at z0;rw[z];simpa only[kD] using z0
theorem dg.st2 {te:TypeId} {f0 f1:Field} {α0 α1:Type} {cells0:α0->zO} {good0:α0->Prop} {wt0:α0->Nat} {cells1:α1->zO} {good1:α1->Prop} {wt1:α1->Nat} (he:P.underlying te=some (.struct #[f0,f1])) (ce:P.cellsOf te=2) (o0:f0.offset=0) (o1:f1.offset=1) (c0:P.cellsOf f0.type=1) (c1:P.cellsOf f1.type=1) (h0:dg enc P w base spare held S n f0.type cells0 good0 wt0) (h1:dg enc P w base spare held S n f1.type cells1 good1 wt1) :
  dg enc P w base spare held S (n+1) te (fun a:α0×α1=>cells0 (a.1)++cells1 (a.2)) (fun a=>good0 (a.1)/\good1 (a.2)) (fun a=>wt0 (a.1)+wt1 (a.2)+1):=fun cs x h hz=>by
 obtain⟨xs,k,hk,hxy,hcl,hxl,hf⟩:=DataW.trod_struct he h;obtain rfl:k=n:=iu
 rw[ce]at hcl;rw[hxy]at hz⊢;have g0:=hf 0 f0 rfl;rw[o0,c0,qn (by rw[hxl];show 0<2;decide)]at g0;obtain⟨a0,e0,p0,b0⟩:=h0 _ _ g0 (hz.part he (i:=0) rfl (qn _));have g1:=hf 1 f1 rfl;rw[o1,c1,qn (by rw[hxl];show 1<2;decide)]at g1;obtain⟨a1,e1,p1,b1⟩:=h1 _ _ g1 (hz.part he (i:=1) rfl (qn _));refine⟨(a0,a1),?_,⟨p0,p1⟩,?_⟩;rotate_left
 ·match xs,hxl,b0,b1 with
  |[y0,y1],_,b0,b1=>
  simp only[mJ,tW,Rows.uptoBulk,Rows.uptoBulkAll];have b0:wt0 a0<=Rows.uptoBulk y0.1:=b0;have b1:wt1 a1<=Rows.uptoBulk y1.1:=b1;show wt0 a0+wt1 a1+1<=_
  omega
 show cs=cells0 a0++cells1 a1
 rw[<- e0,<- e1];have z:cs.drop 0=cs:=rfl;have z0:=ap cs 0 1;have z1:=ap cs 1 1;have zl:cs.drop 2=[]:=Bn iu;simp only[t_,Nat.reduceAdd]at z0 z1;rw[zl,oV]at z1;rw[z1]at z0;rw[z]at z0;rw[z];simpa only[kD] using z0
theorem dg.st2e {te:TypeId} {f0 f1:Field} {α0 α1:Type} {cells0:α0->zO} {good0:α0->Prop} {wt0:α0->Nat} {cells1:α1->zO} {good1:α1->Prop} {wt1:α1->Nat} (he:P.underlying te=some (.struct #[f0,f1])) (ce:P.cellsOf te=7) (o0:f0.offset=0) (o1:f1.offset=1) (c0:P.cellsOf f0.type=1) (c1:P.cellsOf f1.type=6) (h0:dg enc P w base spare held S n f0.type cells0 good0 wt0) (h1:dg enc P w base spare held S n f1.type cells1 good1 wt1) :
  dg enc P w base spare held S (n+1) te (fun a:α0×α1=>cells0 (a.1)++cells1 (a.2)) (fun a=>good0 (a.1)/\good1 (a.2)) (fun a=>wt0 (a.1)+wt1 (a.2)+1):=fun cs x h hz=>by
 obtain⟨xs,k,hk,hxy,hcl,hxl,hf⟩:=DataW.trod_struct he h;obtain rfl:k=n:=iu
 rw[ce]at hcl;rw[hxy]at hz⊢;have g0:=hf 0 f0 rfl;rw[o0,c0,qn (by rw[hxl];show 0<2;decide)]at g0;obtain⟨a0,e0,p0,b0⟩:=h0 _ _ g0 (hz.part he (i:=0) rfl (qn _));have g1:=hf 1 f1 rfl;rw[o1,c1,qn (by rw[hxl];show 1<2;decide)]at g1;obtain⟨a1,e1,p1,b1⟩:=h1 _ _ g1 (hz.part he (i:=1) rfl (qn _));refine⟨(a0,a1),?_,⟨p0,p1⟩,?_⟩;rotate_left
 ·match xs,hxl,b0,b1 with
  |[y0,y1],_,b0,b1=>
  simp only[mJ,tW,Rows.uptoBulk,Rows.uptoBulkAll];have b0:wt0 a0<=Rows.uptoBulk y0.1:=b0;have b1:wt1 a1<=Rows.uptoBulk y1.1:=b1;show wt0 a0+wt1 a1+1<=_
  omega
 show cs=cells0 a0++cells1 a1
 rw[<- e0,<- e1];have z:cs.drop 0=cs:=rfl;have z0:=ap cs 0 1;have z1:=ap cs 1 6;have zl:cs.drop 7=[]:=Bn iu;simp only[t_,Nat.reduceAdd]at z0 z1;rw[zl,oV]at z1;rw[z1]at z0;rw[z]at z0;rw[z];simpa only[kD] using z0
theorem dg.st3 {te:TypeId} {f0 f1 f2:Field} {α0 α1 α2:Type} {cells0:α0->zO} {good0:α0->Prop} {wt0:α0->Nat} {cells1:α1->zO} {good1:α1->Prop} {wt1:α1->Nat} {cells2:α2->zO} {good2:α2->Prop} {wt2:α2->Nat} (he:P.underlying te=some (.struct #[f0,f1,f2])) (ce:P.cellsOf te=3) (o0:f0.offset=0) (o1:f1.offset=1) (o2:f2.offset=2) (c0:P.cellsOf f0.type=1) (c1:P.cellsOf f1.type=1) (c2:P.cellsOf f2.type=1) (h0:dg enc P w base spare held S n f0.type cells0 good0 wt0) (h1:dg enc P w base spare held S n f1.type cells1 good1 wt1) (h2:dg enc P w base spare held S n f2.type cells2 good2 wt2) :
  dg enc P w base spare held S (n+1) te (fun a:α0×α1×α2=>cells0 (a.1)++cells1 (a.2.1)++cells2 (a.2.2)) (fun a=>good0 (a.1)/\good1 (a.2.1)/\good2 (a.2.2)) (fun a=>wt0 (a.1)+wt1 (a.2.1)+wt2 (a.2.2)+1):=fun cs x h hz=>by
 obtain⟨xs,k,hk,hxy,hcl,hxl,hf⟩:=DataW.trod_struct he h;obtain rfl:k=n:=iu
 rw[ce]at hcl;rw[hxy]at hz⊢;have g0:=hf 0 f0 rfl;rw[o0,c0,qn (by rw[hxl];show 0<3;decide)]at g0;obtain⟨a0,e0,p0,b0⟩:=h0 _ _ g0 (hz.part he (i:=0) rfl (qn _));have g1:=hf 1 f1 rfl;rw[o1,c1,qn (by rw[hxl];show 1<3;decide)]at g1;obtain⟨a1,e1,p1,b1⟩:=h1 _ _ g1 (hz.part he (i:=1) rfl (qn _));have g2:=hf 2 f2 rfl;rw[o2,c2,qn (by rw[hxl];show 2<3;decide)]at g2;obtain⟨a2,e2,p2,b2⟩:=h2 _ _ g2 (hz.part he (i:=2) rfl (qn _));refine⟨(a0,a1,a2),?_,⟨p0,p1,p2⟩,?_⟩;rotate_left
 ·match xs,hxl,b0,b1,b2 with
  |[y0,y1,y2],_,b0,b1,b2=>
  simp only[mJ,tW,Rows.uptoBulk,Rows.uptoBulkAll];have b0:wt0 a0<=Rows.uptoBulk y0.1:=b0;have b1:wt1 a1<=Rows.uptoBulk y1.1:=b1;have b2:wt2 a2<=Rows.uptoBulk y2.1:=b2;show wt0 a0+wt1 a1+wt2 a2+1<=_
  omega
 show cs=cells0 a0++cells1 a1++cells2 a2
 rw[<- e0,<- e1,<- e2];have z:cs.drop 0=cs:=rfl;have z0:=ap cs 0 1;have z1:=ap cs 1 1;have z2:=ap cs 2 1;have zl:cs.drop 3=[]:=Bn iu;simp only[t_,Nat.reduceAdd]at z0 z1 z2;rw[zl,oV]at z2;rw[z2]at z1;rw[z1]at z0;rw[z]at z0;rw[z];simpa only[kD] using z0
theorem dg.st3e {te:TypeId} {f0 f1 f2:Field} {α0 α1 α2:Type} {cells0:α0->zO} {good0:α0->Prop} {wt0:α0->Nat} {cells1:α1->zO} {good1:α1->Prop} {wt1:α1->Nat} {cells2:α2->zO} {good2:α2->Prop} {wt2:α2->Nat} (he:P.underlying te=some (.struct #[f0,f1,f2])) (ce:P.cellsOf te=8) (o0:f0.offset=0) (o1:f1.offset=6) (o2:f2.offset=7) (c0:P.cellsOf f0.type=6) (c1:P.cellsOf f1.type=1) (c2:P.cellsOf f2.type=1) (h0:dg enc P w base spare held S n f0.type cells0 good0 wt0) (h1:dg enc P w base spare held S n f1.type cells1 good1 wt1) (h2:dg enc P w base spare held S n f2.type cells2 good2 wt2) :
  dg enc P w base spare held S (n+1) te (fun a:α0×α1×α2=>cells0 (a.1)++cells1 (a.2.1)++cells2 (a.2.2)) (fun a=>good0 (a.1)/\good1 (a.2.1)/\good2 (a.2.2)) (fun a=>wt0 (a.1)+wt1 (a.2.1)+wt2 (a.2.2)+1):=fun cs x h hz=>by
 obtain⟨xs,k,hk,hxy,hcl,hxl,hf⟩:=DataW.trod_struct he h;obtain rfl:k=n:=iu
 rw[ce]at hcl;rw[hxy]at hz⊢;have g0:=hf 0 f0 rfl;rw[o0,c0,qn (by rw[hxl];show 0<3;decide)]at g0;obtain⟨a0,e0,p0,b0⟩:=h0 _ _ g0 (hz.part he (i:=0) rfl (qn _));have g1:=hf 1 f1 rfl;rw[o1,c1,qn (by rw[hxl];show 1<3;decide)]at g1;obtain⟨a1,e1,p1,b1⟩:=h1 _ _ g1 (hz.part he (i:=1) rfl (qn _));have g2:=hf 2 f2 rfl;rw[o2,c2,qn (by rw[hxl];show 2<3;decide)]at g2;obtain⟨a2,e2,p2,b2⟩:=h2 _ _ g2 (hz.part he (i:=2) rfl (qn _));refine⟨(a0,a1,a2),?_,⟨p0,p1,p2⟩,?_⟩;rotate_left
 ·match xs,hxl,b0,b1,b2 with
  |[y0,y1,y2],_,b0,b1,b2=>
  simp only[mJ,tW,Rows.uptoBulk,Rows.uptoBulkAll];have b0:wt0 a0<=Rows.uptoBulk y0.1:=b0;have b1:wt1 a1<=Rows.uptoBulk y1.1:=b1;have b2:wt2 a2<=Rows.uptoBulk y2.1:=b2;show wt0 a0+wt1 a1+wt2 a2+1<=_
  omega
 show cs=cells0 a0++cells1 a1++cells2 a2
 rw[<- e0,<- e1,<- e2];have z:cs.drop 0=cs:=rfl;have z0:=ap cs 0 6;have z1:=ap cs 6 1;have z2:=ap cs 7 1;have zl:cs.drop 8=[]:=Bn iu;simp only[t_,Nat.reduceAdd]at z0 z1 z2;rw[zl,oV]at z2;rw[z2]at z1;rw[z1]at z0;rw[z]at z0;rw[z];simpa only[kD] using z0
theorem dg.st6 {te:TypeId} {f0 f1 f2 f3 f4 f5:Field} {α0 α1 α2 α3 α4 α5:Type} {cells0:α0->zO} {good0:α0->Prop} {wt0:α0->Nat} {cells1:α1->zO} {good1:α1->Prop} {wt1:α1->Nat} {cells2:α2->zO} {good2:α2->Prop} {wt2:α2->Nat} {cells3:α3->zO} {good3:α3->Prop} {wt3:α3->Nat} {cells4:α4->zO} {good4:α4->Prop} {wt4:α4->Nat} {cells5:α5->zO} {good5:α5->Prop} {wt5:α5->Nat} (he:P.underlying te=some (.struct #[f0,f1,f2,f3,f4,f5])) (ce:P.cellsOf te=6) (o0:f0.offset=0) (o1:f1.offset=1) (o2:f2.offset=2) (o3:f3.offset=3) (o4:f4.offset=4) (o5:f5.offset=5) (c0:P.cellsOf f0.type=1) (c1:P.cellsOf f1.type=1) (c2:P.cellsOf f2.type=1) (c3:P.cellsOf f3.type=1) (c4:P.cellsOf f4.type=1) (c5:P.cellsOf f5.type=1) (h0:dg enc P w base spare held S n f0.type cells0 good0 wt0) (h1:dg enc P w base spare held S n f1.type cells1 good1 wt1) (h2:dg enc P w base spare held S n f2.type cells2 good2 wt2) (h3:dg enc P w base spare held S n f3.type cells3 good3 wt3) (h4:dg enc P w base spare held S n f4.type cells4 good4 wt4) (h5:dg enc P w base spare held S n f5.type cells5 good5 wt5) :
  dg enc P w base spare held S (n+1) te (fun a:α0×α1×α2×α3×α4×α5=>cells0 (a.1)++cells1 (a.2.1)++cells2 (a.2.2.1)++cells3 (a.2.2.2.1)++cells4 (a.2.2.2.2.1)++cells5 (a.2.2.2.2.2)) (fun a=>good0 (a.1)/\good1 (a.2.1)/\good2 (a.2.2.1)/\good3 (a.2.2.2.1)/\good4 (a.2.2.2.2.1)/\good5 (a.2.2.2.2.2)) (fun a=>wt0 (a.1)+wt1 (a.2.1)+wt2 (a.2.2.1)+wt3 (a.2.2.2.1)+wt4 (a.2.2.2.2.1)+wt5 (a.2.2.2.2.2)+1):=fun cs x h hz=>by
 obtain⟨xs,k,hk,hxy,hcl,hxl,hf⟩:=DataW.trod_struct he h;obtain rfl:k=n:=iu
 rw[ce]at hcl;rw[hxy]at hz⊢;have g0:=hf 0 f0 rfl;rw[o0,c0,qn (by rw[hxl];show 0<6;decide)]at g0;obtain⟨a0,e0,p0,b0⟩:=h0 _ _ g0 (hz.part he (i:=0) rfl (qn _));have g1:=hf 1 f1 rfl;rw[o1,c1,qn (by rw[hxl];show 1<6;decide)]at g1;obtain⟨a1,e1,p1,b1⟩:=h1 _ _ g1 (hz.part he (i:=1) rfl (qn _));have g2:=hf 2 f2 rfl;rw[o2,c2,qn (by rw[hxl];show 2<6;decide)]at g2;obtain⟨a2,e2,p2,b2⟩:=h2 _ _ g2 (hz.part he (i:=2) rfl (qn _));have g3:=hf 3 f3 rfl;rw[o3,c3,qn (by rw[hxl];show 3<6;decide)]at g3;obtain⟨a3,e3,p3,b3⟩:=h3 _ _ g3 (hz.part he (i:=3) rfl (qn _));have g4:=hf 4 f4 rfl;rw[o4,c4,qn (by rw[hxl];show 4<6;decide)]at g4;obtain⟨a4,e4,p4,b4⟩:=h4 _ _ g4 (hz.part he (i:=4) rfl (qn _));have g5:=hf 5 f5 rfl;rw[o5,c5,qn (by rw[hxl];show 5<6;decide)]at g5;obtain⟨a5,e5,p5,b5⟩:=h5 _ _ g5 (hz.part he (i:=5) rfl (qn _));refine⟨(a0,a1,a2,a3,a4,a5),?_,⟨p0,p1,p2,p3,p4,p5⟩,?_⟩;rotate_left
 ·match xs,hxl,b0,b1,b2,b3,b4,b5 with
  |[y0,y1,y2,y3,y4,y5],_,b0,b1,b2,b3,b4,b5=>
  simp only[mJ,tW,Rows.uptoBulk,Rows.uptoBulkAll];have b0:wt0 a0<=Rows.uptoBulk y0.1:=b0;have b1:wt1 a1<=Rows.uptoBulk y1.1:=b1;have b2:wt2 a2<=Rows.uptoBulk y2.1:=b2;have b3:wt3 a3<=Rows.uptoBulk y3.1:=b3;have b4:wt4 a4<=Rows.uptoBulk y4.1:=b4;have b5:wt5 a5<=Rows.uptoBulk y5.1:=b5;show wt0 a0+wt1 a1+wt2 a2+wt3 a3+wt4 a4+wt5 a5+1<=_
  omega
 show cs=cells0 a0++cells1 a1++cells2 a2++cells3 a3++cells4 a4++cells5 a5
 rw[<- e0,<- e1,<- e2,<- e3,<- e4,<- e5];have z:cs.drop 0=cs:=rfl;have z0:=ap cs 0 1;have z1:=ap cs 1 1;have z2:=ap cs 2 1;have z3:=ap cs 3 1;have z4:=ap cs 4 1;have z5:=ap cs 5 1;have zl:cs.drop 6=[]:=Bn iu;simp only[t_,Nat.reduceAdd]at z0 z1 z2 z3 z4 z5;rw[zl,oV]at z5;rw[z5]at z4;rw[z4]at z3;rw[z3]at z2;rw[z2]at z1;rw[z1]at z0;rw[z]at z0;rw[z];simpa only[kD] using z0
theorem dg.st8 {te:TypeId} {f0 f1 f2 f3 f4 f5 f6 f7:Field} {α0 α1 α2 α3 α4 α5 α6 α7:Type} {cells0:α0->zO} {good0:α0->Prop} {wt0:α0->Nat} {cells1:α1->zO} {good1:α1->Prop} {wt1:α1->Nat} {cells2:α2->zO} {good2:α2->Prop} {wt2:α2->Nat} {cells3:α3->zO} {good3:α3->Prop} {wt3:α3->Nat} {cells4:α4->zO} {good4:α4->Prop} {wt4:α4->Nat} {cells5:α5->zO} {good5:α5->Prop} {wt5:α5->Nat} {cells6:α6->zO} {good6:α6->Prop} {wt6:α6->Nat} {cells7:α7->zO} {good7:α7->Prop} {wt7:α7->Nat} (he:P.underlying te=some (.struct #[f0,f1,f2,f3,f4,f5,f6,f7])) (ce:P.cellsOf te=8) (o0:f0.offset=0) (o1:f1.offset=1) (o2:f2.offset=2) (o3:f3.offset=3) (o4:f4.offset=4) (o5:f5.offset=5) (o6:f6.offset=6) (o7:f7.offset=7) (c0:P.cellsOf f0.type=1) (c1:P.cellsOf f1.type=1) (c2:P.cellsOf f2.type=1) (c3:P.cellsOf f3.type=1) (c4:P.cellsOf f4.type=1) (c5:P.cellsOf f5.type=1) (c6:P.cellsOf f6.type=1) (c7:P.cellsOf f7.type=1) (h0:dg enc P w base spare held S n f0.type cells0 good0 wt0) (h1:dg enc P w base spare held S n f1.type cells1 good1 wt1) (h2:dg enc P w base spare held S n f2.type cells2 good2 wt2) (h3:dg enc P w base spare held S n f3.type cells3 good3 wt3) (h4:dg enc P w base spare held S n f4.type cells4 good4 wt4) (h5:dg enc P w base spare held S n f5.type cells5 good5 wt5) (h6:dg enc P w base spare held S n f6.type cells6 good6 wt6) (h7:dg enc P w base spare held S n f7.type cells7 good7 wt7) :
  dg enc P w base spare held S (n+1) te (fun a:α0×α1×α2×α3×α4×α5×α6×α7=>cells0 (a.1)++cells1 (a.2.1)++cells2 (a.2.2.1)++cells3 (a.2.2.2.1)++cells4 (a.2.2.2.2.1)++cells5 (a.2.2.2.2.2.1)++cells6 (a.2.2.2.2.2.2.1)++cells7 (a.2.2.2.2.2.2.2)) (fun a=>good0 (a.1)/\good1 (a.2.1)/\good2 (a.2.2.1)/\good3 (a.2.2.2.1)/\good4 (a.2.2.2.2.1)/\good5 (a.2.2.2.2.2.1)/\good6 (a.2.2.2.2.2.2.1)/\good7 (a.2.2.2.2.2.2.2)) (fun a=>wt0 (a.1)+wt1 (a.2.1)+wt2 (a.2.2.1)+wt3 (a.2.2.2.1)+wt4 (a.2.2.2.2.1)+wt5 (a.2.2.2.2.2.1)+wt6 (a.2.2.2.2.2.2.1)+wt7 (a.2.2.2.2.2.2.2)+1):=fun cs x h hz=>by
 obtain⟨xs,k,hk,hxy,hcl,hxl,hf⟩:=DataW.trod_struct he h;obtain rfl:k=n:=iu
 rw[ce]at hcl;rw[hxy]at hz⊢;have g0:=hf 0 f0 rfl;rw[o0,c0,qn (by rw[hxl];show 0<8;decide)]at g0;obtain⟨a0,e0,p0,b0⟩:=h0 _ _ g0 (hz.part he (i:=0) rfl (qn _));have g1:=hf 1 f1 rfl;rw[o1,c1,qn (by rw[hxl];show 1<8;decide)]at g1;obtain⟨a1,e1,p1,b1⟩:=h1 _ _ g1 (hz.part he (i:=1) rfl (qn _));have g2:=hf 2 f2 rfl;rw[o2,c2,qn (by rw[hxl];show 2<8;decide)]at g2;obtain⟨a2,e2,p2,b2⟩:=h2 _ _ g2 (hz.part he (i:=2) rfl (qn _));have g3:=hf 3 f3 rfl;rw[o3,c3,qn (by rw[hxl];show 3<8;decide)]at g3;obtain⟨a3,e3,p3,b3⟩:=h3 _ _ g3 (hz.part he (i:=3) rfl (qn _));have g4:=hf 4 f4 rfl;rw[o4,c4,qn (by rw[hxl];show 4<8;decide)]at g4;obtain⟨a4,e4,p4,b4⟩:=h4 _ _ g4 (hz.part he (i:=4) rfl (qn _));have g5:=hf 5 f5 rfl;rw[o5,c5,qn (by rw[hxl];show 5<8;decide)]at g5;obtain⟨a5,e5,p5,b5⟩:=h5 _ _ g5 (hz.part he (i:=5) rfl (qn _));have g6:=hf 6 f6 rfl;rw[o6,c6,qn (by rw[hxl];show 6<8;decide)]at g6;obtain⟨a6,e6,p6,b6⟩:=h6 _ _ g6 (hz.part he (i:=6) rfl (qn _));have g7:=hf 7 f7 rfl;rw[o7,c7,qn (by rw[hxl];show 7<8;decide)]at g7;obtain⟨a7,e7,p7,b7⟩:=h7 _ _ g7 (hz.part he (i:=7) rfl (qn _));refine⟨(a0,a1,a2,a3,a4,a5,a6,a7),?_,⟨p0,p1,p2,p3,p4,p5,p6,p7⟩,?_⟩;rotate_left
 ·match xs,hxl,b0,b1,b2,b3,b4,b5,b6,b7 with
  |[y0,y1,y2,y3,y4,y5,y6,y7],_,b0,b1,b2,b3,b4,b5,b6,b7=>
  simp only[mJ,tW,Rows.uptoBulk,Rows.uptoBulkAll];have b0:wt0 a0<=Rows.uptoBulk y0.1:=b0;have b1:wt1 a1<=Rows.uptoBulk y1.1:=b1;have b2:wt2 a2<=Rows.uptoBulk y2.1:=b2;have b3:wt3 a3<=Rows.uptoBulk y3.1:=b3;have b4:wt4 a4<=Rows.uptoBulk y4.1:=b4;have b5:wt5 a5<=Rows.uptoBulk y5.1:=b5;have b6:wt6 a6<=Rows.uptoBulk y6.1:=b6;have b7:wt7 a7<=Rows.uptoBulk y7.1:=b7;show wt0 a0+wt1 a1+wt2 a2+wt3 a3+wt4 a4+wt5 a5+wt6 a6+wt7 a7+1<=_
  omega
 show cs=cells0 a0++cells1 a1++cells2 a2++cells3 a3++cells4 a4++cells5 a5++cells6 a6++cells7 a7
 rw[<- e0,<- e1,<- e2,<- e3,<- e4,<- e5,<- e6,<- e7];have z:cs.drop 0=cs:=rfl;have z0:=ap cs 0 1;have z1:=ap cs 1 1;have z2:=ap cs 2 1;have z3:=ap cs 3 1;have z4:=ap cs 4 1;have z5:=ap cs 5 1;have z6:=ap cs 6 1;have z7:=ap cs 7 1;have zl:cs.drop 8=[]:=Bn iu;simp only[t_,Nat.reduceAdd]at z0 z1 z2 z3 z4 z5 z6 z7;rw[zl,oV]at z7;rw[z7]at z6;rw[z6]at z5;rw[z5]at z4;rw[z4]at z3;rw[z3]at z2;rw[z2]at z1;rw[z1]at z0;rw[z]at z0;rw[z];simpa only[kD] using z0
end
section
variable {H:Type} {enc:TypeId×Value->H} {w:yM} {base:Nat} {spare:Nat->Bool} {held:Bool} {S:Prop}
theorem sa.of_get {w:yM} {b:Nat}:∀(l:List AuT) (o:Nat),(∀i e,l[i]?=some e->xM S w b (o+i*1) e)->sa S w b o l
 |[],o,h=>by rw[sa];trivial
 |e::l,o,h=>by
  rw[sa];have h0:=h 0 e rfl;refine⟨by simpa using h0.1,h0.2,sa.of_get l (o+1) fun i x hi=>?_⟩;have:=h (i+1) x (by simpa using hi);rwa [show o+(i+1)*1=o+1+i*1 by omega]at this
theorem sd.of_get {w:yM} {b:Nat}:∀(l:List StT) (o:Nat),(∀i e,l[i]?=some e->OZ S w b (o+i*6) e)->sd S w b o l
 |[],o,h=>by rw[sd];trivial
 |e::l,o,h=>by
  rw[sd];have h0:=h 0 e rfl;refine⟨by simpa using h0.1,h0.2,sd.of_get l (o+6) fun i x hi=>?_⟩;have:=h (i+1) x (by simpa using hi);rwa [show o+(i+1)*6=o+6+i*6 by omega]at this
theorem T8 {α:Type}:∀l:List α,(l.map fun _=>1).sum=l.length
 |[]=>rfl
 |a::l=>by rw[mJ,List.sum_cons,T8 l,py,Nat.add_comm]
theorem VS:∀l:List StT,LI (StT.kv l)=(l.map fun x=>Sh x.er).sum
 |[]=>by rw[StT.kv,LI];rfl
 |x::l=>by rw[StT.kv,LI,VS l];rfl
theorem VV:∀l:List AuT,sY (AuT.kv l)=(l.map fun x=>RR x.er).sum
 |[]=>by rw[AuT.kv,sY];rfl
 |x::l=>by rw[AuT.kv,sY,VV l];rfl
theorem VU:∀l:List nh,yh (l.map nh.er)=(l.map fun x=>x.eqs.l+sY (AuT.kv x.autos.l)).sum
 |[]=>by rw[tW,yh];rfl
 |x::l=>by
  rw[mJ,yh,VU l,mJ,List.sum_cons];show (x.eqs.l.map oX.er).length+sY (x.autos.l.map AuT.er)+_=_
  rw[pE,UD]
def WN (s:yB):zO:=[s]
def XD (x:sO):zO:=[x.name,x.t,x.tag]
def Wl (x:iO):zO:=[x.name,x.ty,(x.clock.A,x.clock.l,x.clock.c)]
def XH (x:iW):zO:=[x.name,(x.tags.A,x.tags.l,x.tags.c)]
def XG (x:oX):zO:=.slice x.left.A x.left.l.length x.left.c::(jj x.right)
def Xr (x:ma):zO:=(jj x.cond)++[.int .i64 x.dst,.bool x.res]
def Xs (x:StT):zO:=[x.name,(x.locals.A,x.locals.l.length,x.locals.c),(x.eqs.A,x.eqs.l,x.eqs.c),(x.ad,x.autos,x.cap),(x.unl.A,x.unl.l,x.unl.c),(x.unt.A,x.unt.l,x.unt.c)]
def XK (x:AuT):zO:=[(x.ad,x.states,x.cap)]
def XE (x:nh):zO:=[x.name,(x.ins.A,x.ins.l,x.ins.c),(x.outs.A,x.outs.l,x.outs.c),(x.locals.A,x.locals.l.length,x.locals.c),(x.eqs.A,x.eqs.l,x.eqs.c),(x.autos.A,x.autos.l,x.autos.c),(x.assume.A,x.assume.l,x.assume.c),(x.ensure.A,x.ensure.l,x.ensure.c)]
def Xw (x:Il):zO:=[(x.enums.A,x.enums.l,x.enums.c),(x.nodes.A,x.nodes.l,x.nodes.c)]
abbrev X_ (enc:TypeId×Value->H) (w:yM) (base:Nat) (spare:Nat->Bool) (held:Bool) (S:Prop) (n:Nat) (T:TypeId) {α:Type} (cells:α->zO) (good:α->Prop) (wt:α->Nat):Prop:=dg enc prog w base spare held S n T cells good wt
def sl {α:Type} (x:nB α):zO:=[(x.A,x.l,x.c)]
theorem TU (n:Nat):X_ enc w base spare held S n 9 WN (fun s=>s.size<=140737488355328) (fun _=>0):=dg.str underlying9
theorem UA (n:Nat):X_ enc w base spare held S n 3 (fun a:Int=>[a]) (fun a=>a<=9223372036854775807) (fun _=>0):=dg.int underlying3
theorem Wz (n:Nat):X_ enc w base spare held S n 4 (fun a:Bool=>[a]) (fun _=>True) (fun _=>0):=dg.bool underlying4
theorem Vk (n:Nat):X_ enc w base spare held S n 55 sl (ir 1 sR w) (fun _=>0):=by
 cases n with
 |zero=>exact dg.zero
 |succ n=>exact (dg.slice (sz:=1) (cells:=WN) underlying55 kp (by rw[show Program.bytesOf _ _=16 by kernel_rfl];decide) iI (fun _=>rfl) ⟨⟨#[]⟩⟩ (TU n)).map id (fun _=>rfl) (fun x h=>h.imp fun b o y a=>⟨a.1 0 _ rfl,a.2⟩) (fun _=>wB _)
theorem V8 (n:Nat):X_ enc w base spare held S n 73 jj (fun e=>RX w e/\FY e/\(S->e.size<=2000000)) (fun _=>0):=fun cs x h hz=>by
 obtain⟨e,h1,h2,h3,h4⟩:=(V6 (ts:=63) underlying73 kp kp rfl rfl rfl rfl rfl rfl kp kp kp kp kp kp
  underlying3 underlying3 underlying3 underlying3 underlying9 rfl underlying63 n).1 _ _ h hz.1
 exact⟨e,h1,⟨h2,h3,fun hS=>by have:=hz.2 hS;omega⟩,wB _⟩
theorem VZ {e:Tx} {w:yM} {b o:Nat} (h:∀j u,(jj e)[j]?=some u->w.cell? ⟨b,o+j,none⟩=some u):Kf w b o e:=⟨h 0 _ rfl,h 1 _ rfl,h 2 _ rfl,h 3 _ rfl,h 4 _ rfl,h 5 _ rfl⟩
theorem V7 (n:Nat):X_ enc w base spare held S n 63 sl (ir 6 (Bu S) w) (fun _=>0):=by
 cases n with
 |zero=>exact dg.zero
 |succ n=>exact (dg.slice (sz:=6) (cells:=jj) underlying63 kp (by rw[show Program.bytesOf _ _=72 by kernel_rfl];decide) iI (fun _=>rfl) ⟨default⟩ (V8 n)).map id (fun _=>rfl) (fun x h=>h.imp fun b o y a=>⟨a.2.2.1,a.2.2.2,VZ a.1,a.2.1⟩) (fun _=>wB _)
theorem Xz (n:Nat):X_ enc w base spare held S n 178 XD (fun x=>x.name.size<=140737488355328/\x.t<=9223372036854775807) (fun _=>0):=by
 cases n with
 |zero=>exact dg.zero
 |succ n=>exact (dg.st3 underlying178 kp rfl rfl rfl kp kp kp (TU n) (UA n) (UA n)).map (fun a=>(⟨a.1,a.2.1,a.2.2⟩:sO)) (fun _=>rfl) (fun a h=>⟨h.1,h.2.1⟩) (fun _=>wB _)
theorem Xa (n:Nat):X_ enc w base spare held S n 75 sl (ir 3 KJ w) (fun _=>0):=by
 cases n with
 |zero=>exact dg.zero
 |succ n=>exact (dg.slice (sz:=3) (cells:=XD) underlying75 kp (by rw[show Program.bytesOf _ _=32 by kernel_rfl];decide) iI (fun _=>rfl) ⟨(⟨⟨#[]⟩,0,0⟩:sO)⟩ (Xz n)).map id (fun _=>rfl) (fun x h=>h.imp fun b o y a=>⟨a.2.2,a.1 0 _ rfl,a.1 1 _ rfl,a.1 2 _ rfl,a.2.1⟩) (fun _=>wB _)
theorem Wy (n:Nat):X_ enc w base spare held S n 77 Wl (fun x=>x.name.size<=140737488355328/\x.ty<=9223372036854775807/\ir 3 KJ w x.clock) (fun _=>0):=by
 cases n with
 |zero=>exact dg.zero
 |succ n=>exact (dg.st3 underlying77 kp rfl rfl rfl kp kp kp (TU n) (UA n) (Xa n)).map (fun a=>(⟨a.1,a.2.1,a.2.2⟩:iO)) (fun _=>rfl) (fun a h=>⟨h.1,h.2.1,h.2.2⟩) (fun _=>wB _)
theorem TM (n:Nat):X_ enc w base spare held S n 60 sl (ir 3 jG w) (fun _=>0):=by
 cases n with
 |zero=>exact dg.zero
 |succ n=>exact (dg.slice (sz:=3) (cells:=Wl) underlying60 kp (by rw[show Program.bytesOf _ _=48 by kernel_rfl];decide) iI (fun _=>rfl) ⟨(⟨⟨#[]⟩,0,⟨none,0,[]⟩⟩:iO)⟩ (Wy n)).map id (fun _=>rfl) (fun x h=>h.imp fun b o y a=>⟨a.2.2.1,a.1 0 _ rfl,a.1 1 _ rfl,a.1 2 _ rfl,a.2.1,a.2.2.2⟩) (fun _=>wB _)
theorem XC (n:Nat):X_ enc w base spare held S n 57 XH (fun x=>x.name.size<=140737488355328/\ir 1 sR w x.tags) (fun _=>0):=by
 cases n with
 |zero=>exact dg.zero
 |succ n=>exact (dg.st2 underlying57 kp rfl rfl kp kp (TU n) (Vk n)).map (fun a=>(⟨a.1,a.2⟩:iW)) (fun _=>rfl) (fun a h=>⟨h.1,h.2⟩) (fun _=>wB _)
theorem Xc (n:Nat):X_ enc w base spare held S n 22 sl (ir 2 sM w) (fun _=>0):=by
 cases n with
 |zero=>exact dg.zero
 |succ n=>exact (dg.slice (sz:=2) (cells:=XH) underlying22 kp (by rw[show Program.bytesOf _ _=40 by kernel_rfl];decide) iI (fun _=>rfl) ⟨(⟨⟨#[]⟩,⟨none,0,[]⟩⟩:iW)⟩ (XC n)).map id (fun _=>rfl) (fun x h=>h.imp fun b o y a=>⟨a.1 0 _ rfl,a.1 1 _ rfl,a.2.1,a.2.2⟩) (fun _=>wB _)
theorem XB (n:Nat):X_ enc w base spare held S n 79 XG (fun x=>ir 1 sR w x.left/\RX w x.right/\FY x.right/\(S->x.right.size<=2000000)) (fun _=>1):=by
 cases n with
 |zero=>exact dg.zero
 |succ n=>exact (dg.st2e underlying79 kp rfl rfl kp kp (Vk n) (V8 n)).map (fun a=>(⟨a.1,a.2⟩:oX)) (fun _=>rfl) (fun a h=>⟨h.1,h.2⟩) (fun _=>Nat.le_add_left 1 _)
theorem V_ (n:Nat):X_ enc w base spare held S n 61 sl (ir 7 (xv S) w) (fun x=>x.l.length):=by
 cases n with
 |zero=>exact dg.zero
 |succ n=>exact (dg.slice (sz:=7) (cells:=XG) underlying61 kp (by rw[show Program.bytesOf _ _=96 by kernel_rfl];decide) iI (fun _=>rfl) ⟨(⟨⟨none,0,[]⟩,default⟩:oX)⟩ (XB n)).map id (fun _=>rfl) (fun x h=>h.imp fun b o y a=>⟨a.2.2.2.1,a.2.2.2.2,a.1 0 _ rfl,VZ fun j u c=>by have:=a.1 (j+1) u c;rwa [show o+(j+1)=o+1+j by omega]at this,a.2.1,a.2.2.1⟩) (fun x=>lI (T8 _).symm)
theorem Xx (n:Nat):X_ enc w base spare held S n 223 Xr (fun x=>RX w x.cond/\FY x.cond/\(S->x.cond.size<=2000000)) (fun _=>1):=by
 cases n with
 |zero=>exact dg.zero
 |succ n=>exact (dg.st3e underlying223 kp rfl rfl rfl kp kp kp (V8 n) (UA n) (Wz n)).map (fun a=>(⟨a.1,a.2.1,a.2.2⟩:ma)) (fun _=>rfl) (fun a h=>h.1) (fun _=>Nat.le_add_left 1 _)
theorem V9 (n:Nat):X_ enc w base spare held S n 182 sl (ir 8 (Eo S) w) (fun x=>x.l.length):=by
 cases n with
 |zero=>exact dg.zero
 |succ n=>exact (dg.slice (sz:=8) (cells:=Xr) underlying182 kp (by rw[show Program.bytesOf _ _=88 by kernel_rfl];decide) iI (fun _=>rfl) ⟨(⟨default,0,false⟩:ma)⟩ (Xx n)).map id (fun _=>rfl) (fun x h=>h.imp fun b o y a=>⟨a.2.2.1,a.2.2.2,⟨a.1 0 _ rfl,a.1 1 _ rfl,a.1 2 _ rfl,a.1 3 _ rfl,a.1 4 _ rfl,a.1 5 _ rfl⟩,a.1 6 _ rfl,a.1 7 _ rfl,a.2.1⟩) (fun x=>lI (T8 _).symm)
theorem WA (n:Nat):X_ enc w base spare held S n 184 Xs (tY S w) (fun x=>Sh x.er)/\X_ enc w base spare held S n 131 XK (zS S w) (fun x=>RR x.er)/\X_ enc w base spare held S n 129 sl (ir 6 (OZ S) w) (fun x=>LI (StT.kv x.l))/\X_ enc w base spare held S n 62 sl (ir 1 (xM S) w) (fun x=>sY (AuT.kv x.l)):=by
 induction n with
 |zero=>exact⟨dg.zero,dg.zero,dg.zero,dg.zero⟩
 |succ n ih=>
 refine⟨?_,?_,?_,?_⟩
 ·refine (dg.st6 underlying184 kp rfl rfl rfl rfl rfl rfl kp kp kp kp kp kp (TU n) (TM n) (V_ n) ih.2.2.2 (V9 n) (V9 n)).map (fun a=>(.mk a.1 a.2.1 a.2.2.1 a.2.2.2.1.A a.2.2.2.1.c a.2.2.2.1.l a.2.2.2.2.1 a.2.2.2.2.2:StT)) (fun _=>rfl) (fun a h=>?_) (fun a=>?_)
  rotate_left
  ·show Sh (.mk _ _ (a.2.2.1.l.map oX.er) (AuT.kv a.2.2.2.1.l) (a.2.2.2.2.1.l.map ma.er) (a.2.2.2.2.2.l.map ma.er))<=_
   rw[Sh,pE,pE,pE];omega
  rw[tY];refine⟨h.1,h.2.1,h.2.2.1,h.2.2.2.2.1,h.2.2.2.2.2,h.2.2.2.1.le,h.2.2.2.1.cap,h.2.2.2.1.len,?_⟩;rcases h.2.2.2.1.cells with e | ⟨b,p,e,hlt,hc⟩
  ·exact .inl e
  exact .inr ⟨b,p,e,hlt,sa.of_get _ _ hc⟩
 ·refine (dg.st1 underlying131 kp rfl kp ih.2.2.1).map (fun a=>(.mk a.A a.c a.l:AuT)) (fun _=>rfl) (fun a h=>?_) (fun a=>?_)
  rotate_left
  ·show RR (.mk (StT.kv a.l))<=_
   rw[RR];omega
  rw[zS];refine⟨h.le,h.cap,h.len,?_⟩;rcases h.cells with e | ⟨b,p,e,hlt,hc⟩
  ·exact .inl e
  exact .inr ⟨b,p,e,hlt,sd.of_get _ _ hc⟩
 ·exact (dg.slice (sz:=6) (cells:=Xs) underlying129 kp (by rw[show Program.bytesOf _ _=136 by kernel_rfl];decide) iI (fun _=>rfl) ⟨.mk ⟨#[]⟩ ⟨none,0,[]⟩ ⟨none,0,[]⟩ none 0 [] ⟨none,0,[]⟩ ⟨none,0,[]⟩⟩ ih.1).map id (fun _=>rfl) (fun x h=>h.imp fun b o y d=>⟨⟨d.1 0 _ rfl,d.1 1 _ rfl,d.1 2 _ rfl,d.1 3 _ rfl,d.1 4 _ rfl,d.1 5 _ rfl⟩,d.2⟩) (fun x=>lI (VS _))
 exact (dg.slice (sz:=1) (cells:=XK) underlying62 kp (by rw[show Program.bytesOf _ _=24 by kernel_rfl];decide) iI (fun _=>rfl) ⟨.mk none 0 []⟩ ih.2.1).map id (fun _=>rfl) (fun x h=>h.imp fun b o y d=>⟨d.1 0 _ rfl,d.2⟩) (fun x=>lI (VV _))
theorem V' (n:Nat):X_ enc w base spare held S n 62 sl (ir 1 (xM S) w) (fun x=>sY (AuT.kv x.l)):=(WA n).2.2.2
theorem XA (n:Nat):X_ enc w base spare held S n 65 XE (fun x=>x.name.size<=140737488355328/\ir 3 jG w x.ins/\ir 3 jG w x.outs/\ir 3 jG w x.locals/\ir 7 (xv S) w x.eqs/\ir 1 (xM S) w x.autos/\ir 6 (Bu S) w x.assume/\ir 6 (Bu S) w x.ensure) (fun x=>x.eqs.l+sY (AuT.kv x.autos.l)):=by
 cases n with
 |zero=>exact dg.zero
 |succ n=>exact (dg.st8 underlying65 kp rfl rfl rfl rfl rfl rfl rfl rfl kp kp kp kp kp kp kp kp (TU n) (TM n) (TM n) (TM n) (V_ n) (V' n) (V7 n) (V7 n)).map (fun a=>(⟨a.1,a.2.1,a.2.2.1,a.2.2.2.1,a.2.2.2.2.1,a.2.2.2.2.2.1,a.2.2.2.2.2.2.1,a.2.2.2.2.2.2.2⟩:nh)) (fun _=>rfl) (fun a h=>h) (fun a=>(by show a.2.2.2.2.1.l.length+sY (AuT.kv a.2.2.2.2.2.1.l)<=_;omega))
theorem Xb (n:Nat):X_ enc w base spare held S n 23 sl (ir 8 (Gy S) w) (fun x=>yh (x.l.map nh.er)):=by
 cases n with
 |zero=>exact dg.zero
 |succ n=>exact (dg.slice (sz:=8) (cells:=XE) underlying23 kp (by rw[show Program.bytesOf _ _=184 by kernel_rfl];decide) iI (fun _=>rfl) ⟨(⟨⟨#[]⟩,⟨none,0,[]⟩,⟨none,0,[]⟩,⟨none,0,[]⟩,⟨none,0,[]⟩,⟨none,0,[]⟩,⟨none,0,[]⟩,⟨none,0,[]⟩⟩:nh)⟩ (XA n)).map id (fun _=>rfl) (fun x h=>h.imp fun b o y a=>⟨a.1 0 _ rfl,a.1 1 _ rfl,a.1 2 _ rfl,a.1 3 _ rfl,a.1 4 _ rfl,a.1 5 _ rfl,a.1 6 _ rfl,a.1 7 _ rfl,a.2.1,a.2.2.1,a.2.2.2.1,a.2.2.2.2.1,a.2.2.2.2.2.1,a.2.2.2.2.2.2.1,a.2.2.2.2.2.2.2.1,a.2.2.2.2.2.2.2.2⟩) (fun x=>lI (VU _))
theorem Xy (n:Nat):X_ enc w base spare held S n 25 Xw (FJ S w) (fun x=>yh (x.nodes.l.map nh.er)):=by
 cases n with
 |zero=>exact dg.zero
 |succ n=>exact (dg.st2 underlying25 kp rfl rfl kp kp (Xc n) (Xb n)).map (fun a=>(⟨a.1,a.2⟩:Il)) (fun _=>rfl) (fun a h=>⟨h.1,h.2⟩) (fun a=>(by show yh (a.2.l.map nh.er)<=_;omega))
end
theorem VD {H:Type} {enc:TypeId×Value->H} {w:yM} {base b0:Nat} {spare:Nat->Bool} {held:Bool} {r:Reach} {v:Value} {d:DataW H} {p:List MemPlace} {S:Prop}
  (hv:Value.okWide prog w r b0 25 v) (h:DataW.Trod enc prog w base spare held 25 v d p) (hz:∀n∈d.weights prog 25,n<=reachBytes) (hS:S->Rows.uptoBulk d<=1048576) :
  ∃(eA nA:zA) (ec nc:Nat) (el:List iW) (nl:List nh),v=.agg #[(eA,el,ec),(nA,nl,nc)]/\FJ S w ⟨⟨eA,ec,el⟩,⟨nA,nc,nl⟩⟩/\(S->yh (nl.map nh.er)<=1048576):=by
 obtain⟨a,rfl,e⟩:=okWide_struct underlying25 hv;obtain⟨n,f⟩:=h;obtain⟨⟨⟨eA,ec,el⟩,⟨nA,nc,nl⟩⟩,g,b,c⟩:=Xy (S:=S) n _ _ f ⟨hz,hS⟩;refine⟨eA,nA,ec,nc,el,nl,?_,b,fun h=>jW c (hS h)⟩;have:a=(Xw ⟨⟨eA,ec,el⟩,⟨nA,nc,nl⟩⟩).toArray:=by rw[<- (show a.toList=_ from g)]
 rw[this];rfl
end
end Go.Proofs.YtnigblndonocfaaGreatDoor
