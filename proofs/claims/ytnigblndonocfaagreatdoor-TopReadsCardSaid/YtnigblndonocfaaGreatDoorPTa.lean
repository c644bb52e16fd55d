/- A part of the proof. -/
import Derived.Test.YtnigblndonocfaaGreatDoorPDs
set_option linter.unusedVariables false
set_option linter.unusedSimpArgs false
namespace Go.Proofs.YtnigblndonocfaaGreatDoor
set_option maxRecDepth 100000
set_option maxHeartbeats 6400000
open Go.Proofs.Tryz
open Go.RowKit Go.BigFrame
section
section
variable {B:World} {q:Nat} {A:Option Addr} {c:Nat} {L:List Tk} {en:Int} {eA:Option Addr} {ec:Nat} {el:List iW} {w w0 w1:World} {i:Nat}
mutual
theorem AX.Su {el:List iW}:∀(y:Tx),AX el y.er->∀x∈y.list,x.ty<=2000
 |.mk k o t v s A c xs,h,x,hx=>by
  rw[Tx.er,AX]at h;rw[Tx.list]at hx;rcases uW.1 hx with rfl | hx
  ·exact h.1.tb
  exact tj.Su xs h.2 x hx
theorem tj.Su {el:List iW}:∀(ys:List Tx),tj el (Tx.kv ys)->∀x∈Tx.lists ys,x.ty<=2000
 |[],_,x,hx=>by rw[Tx.lists]at hx;cases hx
 |y::ys,h,x,hx=>by
  rw[Tx.kv,tj]at h;rw[Tx.lists]at hx;rcases ue.1 hx with hx | hx
  ·exact AX.Su y h.1 x hx
  exact tj.Su ys h.2 x hx
end
mutual
theorem zg:∀(y:Tx),y.size=mK y.er
 |.mk k o t v s A c xs=>by rw[Tx.size,Tx.er,mK,Gk xs,Nat.add_comm]
theorem Gk:∀(ys:List Tx),Tx.sizes ys=ks (Tx.kv ys)
 |[]=>rfl
 |y::ys=>by rw[Tx.sizes,Tx.kv,ks,zg y,Gk ys]
end
theorem C' {el:List iW} {y:Tx} {x:Ex} {ts r:List Tk} {k:Nat} (htag:∀u∈el,u.tags.l.length<=16) (hel:el.length<=1000) (hy:y.er=x) (h:jg el k ts=some (x,r)) (hl:ts.length<=65536):FY y/\y.size<=70000:=by
 have j:=uN htag hel h;rw[<- hy]at j;exact⟨fun x o=>Int.le_trans (AX.Su y j.1 x o) iI,by rw[zg];have:=j.2;omega⟩
def pN (y:oX):List Value:=.slice y.left.A y.left.l.length y.left.c::jj y.right
structure JT (w:World) (y:oX):Prop where
 lf:ir 1 sR w y.left
 ri:RX w y.right
 tb:FY y.right
 sz:y.right.size<=70000
theorem pe:pH JT:=⟨fun W W' y hb h=>⟨h.lf.below lD hb,h.ri.below hb,h.tb,h.sz⟩,fun W w y k h=>⟨h.lf.sub sj k,h.ri.sub k,h.tb,h.sz⟩⟩
theorem Rh {W:World} {b o:Nat} {y:oX} {S:Prop} (h:JT W y) (hj:∀j u,(pN y)[j]?=some u->W.cell? ⟨b,o+j,none⟩=some u):xv S W b o y:=
 ⟨h.tb,fun _=>jW h.sz iI,hj 0 _ rfl,⟨hj 1 _ rfl,hj 2 _ rfl,hj 3 _ rfl,hj 4 _ rfl,hj 5 _ rfl,hj 6 _ rfl⟩,h.lf,h.ri⟩
def mz (y:ByteArray):List Value:=[.string y]
def rk (w:World) (y:ByteArray):Prop:=y.size<=65536
theorem lS:pH rk:=⟨fun _ _ _ _ h=>h,fun _ _ _ _ h=>h⟩
theorem J7:(prog.info? 9).map (fun i=>(i.zero,i.size,i.bytes))=some (some (.string ⟨#[]⟩),1,16):=by kernel_rfl
def zm (el:List iW) (k:Nat) (l:List ByteArray) (ts:List Tk):Option (En×List Tk):=(iF [⟨#[61]⟩] ts).bind fun (_,r)=>(jg el k r).bind fun (x,r)=>(iF [⟨#[59]⟩] r).bind fun (_,r)=>some (⟨l,x⟩,r)
theorem Md (el:List iW) (k:Nat) (ts:List Tk):Lm el k ts=if jq ⟨#[40]⟩ ts then (nR 64 [] ts.tail).bind fun (l,r)=>(iF [⟨#[41]⟩] r).bind fun (_,r)=>zm el k l r else (pV ts).bind fun (s,r)=>zm el k [s] r:=by
 unfold Lm;by_cases h:jq ⟨#[40]⟩ ts=true
 ·rw[iG h,iG h]
  cases nR 64 [] ts.tail with
  |none=>rfl
  |some p=>
  show ((iF [⟨#[41]⟩] p.2).bind _).bind _=(iF [⟨#[41]⟩] p.2).bind _
  cases iF [⟨#[41]⟩] p.2<;>rfl
 rw[iV h,iV h];cases pV ts<;>rfl
theorem zd {k:Nat} (htag:∀u∈el,u.tags.l.length<=16) (hel:el.length<=1000) (h:Rd B q A c L en eA ec el w i) (hk:20*(L.length-i)+10<=k):Calls prog 118 #[.pointer (some q)] w (pk B q A c L en eA ec el w i (Lm el k (L.drop i)) (VG pN JT oX.er w.heap.size)):=by
 obtain⟨X,hX⟩:=jt (Lm el k (L.drop i));rw[hX];obtain⟨i0,cm⟩:=jt (i);rw[cm]at hX h hk⊢;clear cm;have J:=iy hX.symm;have dc:Hid (i0<=i0):=js _;clear hX;have hq:=h.blk.lt;have ds:=h.base;obtain⟨r,hr⟩:=jt (w.heap.size);have aQ:r≠q:=by omega
 have ek:q<r:=by omega
 obtain⟨w0,dh,aw0,B0,R0,s0⟩:=Ls h hr aQ #[.slice none 0 0,.int .i64 0,.int .i64 0,.int .i64 0,.int .i64 0,.string ⟨#[]⟩,.slice none 0 0] 79;have HB:=iy B0;have a0:ik (iz q w0) (iz q w0):=iq _;have dR:q<w0.heap.size:=iu;have dS:B.heap.size<=w0.heap.size:=iu;clear h B0;go_in;go_wp2_with fail;try rw[hr]
 try rw[dh]
 obtain⟨ra,br⟩:=jt (r+1);obtain⟨w1,c_,b3,R1,a1,s1⟩:∃z,w0.alloc (.cells #[.slice none 0 0,.int .i64 0,.int .i64 0,.int .i64 0,.int .i64 0,.string ⟨#[]⟩,.slice none 0 0] 79)=z/\Hid (iP z ra 79 #[.slice none 0 0,.int .i64 0,.int .i64 0,.int .i64 0,.int .i64 0,.string ⟨#[]⟩,.slice none 0 0])/\Hid (Rd B q A c L en eA ec el z i0)/\ik (iz q w0) (iz q z)/\z.heap.size=ra+1:=⟨_,rfl,by rw[<- br,<- s0];exact jC ..,R0.after iR,im iR,by rw[iH,s0,br]⟩;try rw[br]
 try rw[c_]
 clear c_;have db:=dc;have a':ra≠q:=iu;have et:r<ra:=iu;obtain⟨n1,ef⟩:=jt (ra+1);have bl:ra<n1:=iu;have a_:q<n1:=iu;have ee:w0.heap.size<=n1:=iu;have aa:n1<=w1.heap.size:=iu;have J:Hid (X=if jq ⟨#[40]⟩ (L.drop i0) then (nR 64 [] (L.drop i0).tail).bind fun (l,r)=>(iF [⟨#[41]⟩] r).bind fun (_,r)=>zm el k l r else (pV (L.drop i0)).bind fun (s,r)=>zm el k [s] r):=by (show _=_;rw[J.out,Md])
 go_wp2_with fail;refine Dx ⟨#[40]⟩ R1 J a1 db ?_ ?_
 ·clear J;intro w2 R2 J aT a2 bp
  replace b3:=iy (kq b3 a' aT);have aa:n1<=w2.heap.size:=by have h1:=lZ aT;omega
  go_wp2_with fail;refine td (qb R2) J a2 bp ?_;clear J;intro w3 x3 v3 i3 dm R3 J da ep ct a3;obtain⟨rfl,cj⟩:=dm;have I:=kq b3 a' ct;have aa:n1<=w3.heap.size:=by have h1:=lZ ct;omega
  obtain⟨s,hs⟩:=jt (x3);rw[hs]at J cj⊢;clear hs;obtain⟨g,hg⟩:=jt (w3.heap.size);obtain⟨d_,aP,cF,dF,cJ,aA⟩:∃z,w3.alloc (.cells #[s] 9)=z/\Rd B q A c L en eA ec el z i3/\ik (iz q w0) (iz q z)/\iP z g 9 #[s]/\iP z ra 79 #[.slice none 0 0,.int .i64 0,.int .i64 0,.int .i64 0,.int .i64 0,.string ⟨#[]⟩,.slice none 0 0]:=⟨_,rfl,R3.after iR,ij a3 (im iR),by rw[<- hg];exact jC ..,iP.alloc I _⟩;have dr:g≠ra:=iu;obtain⟨m0,m1,m2,m3,m4,m5,m6⟩:=wv aA;have ml:=jo aA;obtain⟨ak,aj,ai,ah,ag,af,ae⟩:=yG aA;obtain⟨b6,aL,dO,dE,bE,R⟩:∃z,d_.setCell ra (.slice (some g) 1 1)=z/\Hid (Rd B q A c L en eA ec el z i3)/\ik (iz q w0) (iz q z)/\iP z g 9 #[s]/\Hid (iP z ra 79 #[.slice (some g) 1 1,.int .i64 0,.int .i64 0,.int .i64 0,.int .i64 0,.string ⟨#[]⟩,.slice none 0 0]):=⟨_,rfl,cF.set a' iu 0 _,iJ (k:=⟨by rw[iZ];omega⟩) (h:=dF) _ _,cJ.qU (p:=⟨ra,0,none⟩) dr _,aA.jx 0 _⟩;have LF:Hid (ir 1 sR (old n1 b6) ⟨some ⟨g,0,none⟩,1,[s]⟩):=⟨.inr ⟨g,0,rfl,by rw[ku];exact bE.lt,fun j y hy=>by
    have:j=0:=by have:=(rq.1 hy).1;simpa using this
    subst this;simp at hy;subst hy;exact⟨((yV bE iu).cell 0).trans rfl,jW cj iI⟩⟩,js 1,(show 1<=9223372036854775807 by decide),(show 1<=140737488355328 by decide)⟩
  have c2:=da;have bo:n1<=b6.heap.size:=by rw[<- aL,jc,<- aP,iH];omega
  go_wp2_with fail;try rw[hg]
  try rw[aP]
  try rw[aL]
  clear aL aP m0 m1 m2 m3 m4 m5 m6 ml ak aj ai ah ag af ae aA I cF cJ bE;obtain⟨lA,bu⟩:=jt (some (⟨g,0,none⟩:Addr));obtain⟨lc,bt⟩:∃a:Nat,1=a:=⟨_,rfl⟩;obtain⟨ll,aB⟩:=jt ([s]);have J:Hid (X=zm el k ll (L.drop i3)):=by (show _=_;rw[<- aB];exact J)
  have cy:Hid (iP b6 ra 79 #[(.slice lA ll.length lc),.int .i64 0,.int .i64 0,.int .i64 0,.int .i64 0,.string ⟨#[]⟩,.slice none 0 0]):=by rw[<- bu,<- bt,<- aB];exact R
  have cI:Hid (ir 1 sR (old n1 b6) ⟨lA,lc,ll⟩):=by rw[<- bu,<- bt,<- aB];exact LF
  clear R LF bu bt aB;have R:=cy;have LF:=cI;clear cy cI;have J:Hid (X=(iF [⟨#[61]⟩] (L.drop i3)).bind fun (_,r)=>(jg el k r).bind fun (x,r)=>(iF [⟨#[59]⟩] r).bind fun (_,r)=>some (⟨ll,x⟩,r)):=J;go_wp2_with fail;refine td (jH dO.out [⟨#[61]⟩] iI) J dE c2 ?_;clear J;intro cZ e5 ed ei ch dN J b_ dZ b2 dD;subst ch;have I:=iy (kq R a' b2);have a8:=iy (LF.below lD (kj (q:=q) a_ b2).below);clear R LF;have R:=I;have LF:=a8;clear I a8;go_wp2_with fail;refine BC (wA htag hel k dN (by have:=b_.out;omega)) J dD b_ ?_;clear J;intro ar bk eb de cr cg cE J c1 dY bg dC;obtain⟨⟨k9,o9,t9,z9,s9,A9,c9,a7⟩,au,rfl,D9⟩:=cg;have I:=iy (kq R a' bg);have a8:=iy (LF.below lD (kj (q:=q) a_ bg).below);clear R LF;have R:=I;have LF:=a8;clear I a8;rw[JQ k9 o9 t9 z9 s9 A9 c9 a7];have av:=C' htag hel au cr (by rw[nY];have:=cE.few;omega);have bm:n1<=cZ.heap.size:=by have h1:=bo;have h2:=lZ b2;omega
  have D9:=D9.sub (iS bm ar);have av:=iy av;have au:=iy au;have a6:=R.out;obtain⟨m0,m1,m2,m3,m4,m5,m6⟩:=wv a6;have ml:=jo a6;obtain⟨ak,aj,ai,ah,ag,af,ae⟩:=yG a6;obtain⟨e7,bd,I,dM,dB,aO,bO⟩:∃W,(((((ar.setCell ⟨ra,1,none⟩ (.int .i64 k9)).setCell ⟨ra,2,none⟩ (.int .i64 o9)).setCell ⟨ra,3,none⟩ (.int .i64 t9)).setCell ⟨ra,4,none⟩ (.int .i64 z9)).setCell ⟨ra,5,none⟩ (.string s9)).setCell ⟨ra,6,none⟩ (.slice A9 a7.length c9)=W/\Hid (iP W ra 79 #[(.slice lA ll.length lc),k9,o9,t9,z9,s9,.slice A9 a7.length c9])/\Hid (Rd B q A c L en eA ec el W de)/\ik (iz q w0) (iz q W)/\ik (old n1 ar) (old n1 W)/\W.heap.size=ar.heap.size:=⟨_,rfl,zi [.int .i64 k9,.int .i64 o9,.int .i64 t9,.int .i64 z9,.string s9,.slice A9 a7.length c9] 1 ar [(.slice lA ll.length lc)] [.int .i64 0,.int .i64 0,.int .i64 0,.int .i64 0,.string ⟨#[]⟩,.slice none 0 0] rfl rfl a6,Bs a' iu [.int .i64 k9,.int .i64 o9,.int .i64 t9,.int .i64 z9,.string s9,.slice A9 a7.length c9] 1 ar cE,Bz iu [.int .i64 k9,.int .i64 o9,.int .i64 t9,.int .i64 z9,.string s9,.slice A9 a7.length c9] 1 ar dC,yZ bl [.int .i64 k9,.int .i64 o9,.int .i64 t9,.int .i64 z9,.string s9,.slice A9 a7.length c9] 1 ar,xz ra [.int .i64 k9,.int .i64 o9,.int .i64 t9,.int .i64 z9,.string s9,.slice A9 a7.length c9] 1 ar⟩;have c0:=c1;have a8:=iy (LF.below lD aO.below);have DZ:=iy (D9.below aO.below);clear LF R D9;have LF:=a8;have R:=I;clear a8 I;go_wp2_with fail;try rw[bd]
  try rw[<- bO]
  clear bO bd m0 m1 m2 m3 m4 m5 m6 ml ak aj ai ah ag af ae a6;go_wp2_with fail;refine td (jH dM.out [⟨#[59]⟩] iI) J dB c0 ?_;clear J;intro cY e4 ea c6 cf dL J bZ dX b1 cw;subst cf;have I:=iy (kq R a' b1);have a8:=iy (LF.below lD (kj (q:=q) a_ b1).below);clear R LF;have R:=I;have LF:=a8;clear I a8;have DY:=DZ.below (kj (q:=q) a_ b1).below;have bD:Hid (X=some (⟨ll,bk⟩,L.drop c6)):=J;have a6:=R.out;obtain⟨m0,m1,m2,m3,m4,m5,m6⟩:=wv a6;have ml:=jo a6;obtain⟨ak,aj,ai,ah,ag,af,ae⟩:=yG a6;have ad:=lM (HB.after (k:=cw)) aQ;obtain⟨cR,cQ,cP,cO,cN,cM,cL⟩:=wv ad;have e0:=jo ad;obtain⟨bL,bK,bJ,bI,bH,bG,bF⟩:=yG ad;obtain⟨W,aS,EW,bA,aW,oW,sW⟩:=tR (zs:=[.slice none 0 0,.int .i64 0,.int .i64 0,.int .i64 0,.int .i64 0,.string ⟨#[]⟩,.slice none 0 0]) ad dL aQ (ij (im aw0) cw) (lI hr) iu [.slice lA ll.length lc,.int .i64 k9,.int .i64 o9,.int .i64 t9,.int .i64 z9,.string s9,.slice A9 a7.length c9] rfl;have hW:(((((((cY.setCell r (.slice lA ll.length lc)).setCell ⟨r,1,none⟩ (.int .i64 k9)).setCell ⟨r,2,none⟩ (.int .i64 o9)).setCell ⟨r,3,none⟩ (.int .i64 t9)).setCell ⟨r,4,none⟩ (.int .i64 z9)).setCell ⟨r,5,none⟩ (.string s9)).setCell ⟨r,6,none⟩ (.slice A9 a7.length c9))=W:=aS;clear aS;have bw:=iy hW;clear hW;go_wp2_with fail;try rw[bw.out]
  obtain⟨u0,u1,u2,u3,u4,u5,u6⟩:=wv EW;exact jR (v:=.agg #[.slice lA ll.length lc,k9,o9,t9,z9,s9,.slice A9 a7.length c9]) (by simp[results,results118,go_sem,u0,u1,u2,u3,u4,u5,u6]) rfl (lN (x:=⟨ll,bk⟩) (show X=some (⟨ll,bk⟩,L.drop c6) from bD) aW (⟨⟨⟨lA,lc,ll⟩,.mk k9 o9 t9 z9 s9 A9 c9 a7⟩,by (show En.mk ll _=_;rw[au.out]),rfl,⟨(LF.below lD (oW n1 iu).below).sub sj (iS iu W),(DY.below (oW n1 iu).below).sub (iS iu W),av.1,av.2⟩⟩) bA rfl (bZ))
 clear J;intro w2 R2 J aT a2 bp eg;rw[tail_drop]at J;have cx:=kq b3 a' aT;clear b3;have bP:n1<=w2.heap.size:=by have h1:=lZ aT;omega
 obtain⟨v0,bq⟩:=jt (Value.slice none 0 0);obtain⟨aG,b7⟩:∃y:List ByteArray,y=[]:=⟨_,rfl⟩;have R:Hid (iP w2 ra 79 #[v0,.int .i64 0,.int .i64 0,.int .i64 0,.int .i64 0,.string ⟨#[]⟩,.slice none 0 0]):=by rw[<- bq];exact cx
 have OL:Hid (kZ n1 9 1 mz rk (fun b=>decide (b<n1)) w2 v0 aG):=by (show kZ n1 9 1 mz rk (fun b=>decide (b<n1)) w2 v0 aG;rw[<- bq,b7];exact vZ)
 have J:Hid (X=(nR 64 aG (L.drop (i0+1))).bind fun (l,r)=>(iF [⟨#[41]⟩] r).bind fun (_,r)=>zm el k l r):=by (show _=_;rw[b7];exact J)
 have aR:Hid (aG.length+64=64):=by (show _=_;rw[b7];rfl)
 clear cx bq b7 aa;go_wp2_with fail;go_loopw [] (fun wr=>∃(i' m:Nat) (v:Value) (ys:List ByteArray),Hid (i0<=i')/\Hid (ys.length+m=64)/\Hid (X=(nR m ys (L.drop i')).bind fun (l,r)=>(iF [⟨#[41]⟩] r).bind fun (_,r)=>zm el k l r)/\Hid (Rd B q A c L en eA ec el wr i')/\ik (iz q w0) (iz q wr)/\n1<=wr.heap.size/\Hid (iP wr ra 79 #[v,.int .i64 0,.int .i64 0,.int .i64 0,.int .i64 0,.string ⟨#[]⟩,.slice none 0 0])/\Hid (kZ n1 9 1 mz rk (fun b=>decide (b<n1)) wr v ys)) (fun wr=>L.length-lO wr q 2)
 case atStart=>exact⟨(i0+1),64,v0,aG,bp,aR,J,R2,a2,bP,R,OL⟩
 case round=>
 clear J R OL aR bP;obtain⟨i2,m,v,ys,bY,aD,J,bC,dA,aa,R,OL⟩:=hrel;have d1:=iy (je bC.fields.2.2.1);have HC:=iy (qv bC 1);obtain⟨zk,hz⟩:=jt (ju 1 (L.drop i2));rw[hz]at HC;have HZ:=iy hz;clear hz;go_wp2_with fail;refine HC.mono ?_;clear HC;rintro e ax ⟨rfl,aN⟩;have bB:=iy (bC.after aN);have b0:ik (iz q wr) (iz q ax):=im (q:=q) aN;have cv:=ij dA b0;have bX:=bY;have aa:n1<=ax.heap.size:=jW aa aN.below.size;clear aN;have I:Hid (iP ax ra 79 #[v,.int .i64 0,.int .i64 0,.int .i64 0,.int .i64 0,.string ⟨#[]⟩,.slice none 0 0]):=iB (kq R a' b0);have ab:Hid (kZ n1 9 1 mz rk (fun b=>decide (b<n1)) ax v ys):=OL.iv lS a_ (lp a_) b0;clear R OL;have R:=I;have OL:=ab;clear I ab;cases zk
 ·skip
  have bs:=BW HZ;have J:Hid (X=(pV (L.drop i2)).bind fun _=>(none:Option (En×List Tk))):=by (show _=_;rw[J.out];cases m with | zero=>(rw[bs];rfl) | succ m=>(rw[nR,bs];rfl))
  have HC:Hid (∀U,ik ax U->Calls prog 32 #[.pointer (some q)] U (pk B q A c L en eA ec el U i2 (pV (L.drop i2)) (fun s w' v=>v=.string s/\s.size<=65536))):=fun U hU=>qb (bB.after hU)
  generalize b8:pV (L.drop i2)=Y at HC J;have a6:=R.out;have HK:Hid (∀U,ik (iz q ax) (iz q U)->U.cell? ra=some v):=fun U hU=>((kq a6 a' hU).cell 0).trans rfl
  have bQ:=jo a6;go_wp2_with fail;refine jm (fun U:World=>U.cell? ra=some v) [5,6,7] (by kernel_rfl) ?_;have aw:(fun U:World=>U.cell? ra=some v) ax.drew:=HK _ inferInstance;refine wT 0 [1,5,6,7] (.pointer (some ra)) aw ?_;try simp only[Act.put,oF,oB,oq]
  refine wT 1 [5,6,7] (v) aw ?_;try simp only[Act.put,oF,oB,oq]
  refine wT 2 [3,4,5,6,7] (.pointer (some q)) aw ?_;try simp only[Act.put,oF,oB,oq]
  clear aw;refine lH 3 ?_;go_simp;go_at_call 32;refine (HC _ inferInstance).mono ?_;clear HC;rintro e w9 ⟨aZ,hY⟩;have aM:ik (iz q ax) (iz q w9):=ij (im inferInstance) aZ;clear aZ;cases Y with
  |none=>
   obtain⟨a,er,rfl,he⟩:=hY;unfold oD;exact⟨rfl,kf J (ij (im aw0) (ij cv aM)) (jz a er he)⟩
  |some y=>
  exact ((show False from by rw[bs]at b8;cases b8)).elim
 obtain⟨A7,c7,dk,_,_⟩:=ji OL.own;subst dk;have aF:=R.out;obtain⟨m0,m1,m2,m3,m4,m5,m6⟩:=wv aF;have ml:=jo aF;obtain⟨ak,aj,ai,ah,ag,af,ae⟩:=yG aF;have HC:=iy (mF bB (ys.length:Int) 64);go_wp2_with fail;refine HC.mono ?_;clear HC m0 m1 m2 m3 m4 m5 m6 ml ak aj ai ah ag af ae;rintro e an ⟨aN,hE⟩;have dK:=iy (bB.after aN);have aY:=im (q:=q) aN;have bz:=ij cv aY;have bW:=bX;have aa:n1<=an.heap.size:=jW aa aN.below.size;clear aN;have I:Hid (iP an ra 79 #[(.slice A7 ys.length c7),.int .i64 0,.int .i64 0,.int .i64 0,.int .i64 0,.string ⟨#[]⟩,.slice none 0 0]):=iy (kq R a' aY);have ab:Hid (kZ n1 9 1 mz rk (fun b=>decide (b<n1)) an (.slice A7 ys.length c7) ys):=OL.iv lS a_ (lp a_) aY;clear R OL;have R:=I;have OL:=ab;clear I ab;rcases hE with⟨hlt4,rfl⟩ | ⟨hge4,hf⟩
 ·skip
  obtain⟨m,rfl⟩:∃j,m=j+1:=⟨m-1,by have:=aD.out;omega⟩;have J:Hid (X=(pV (L.drop i2)).bind fun (s,r)=>(if jq ⟨#[44]⟩ r then nR m (ys++[s]) r.tail else some (ys++[s],r)).bind fun (l,r)=>(iF [⟨#[41]⟩] r).bind fun (_,r)=>zm el k l r):=by (show _=_;rw[J.out,nR];cases pV (L.drop i2)<;>rfl)
  obtain⟨v,hv⟩:∃z,Value.slice A7 ys.length c7=z:=⟨_,rfl⟩;rw[hv]at R OL;have HC:Hid (∀U,ik an U->Calls prog 32 #[.pointer (some q)] U (pk B q A c L en eA ec el U i2 (pV (L.drop i2)) (fun s w' v=>v=.string s/\s.size<=65536))):=fun U hU=>qb (dK.after hU)
  generalize b8:pV (L.drop i2)=Y at HC J;have a6:=R.out;have HK:Hid (∀U,ik (iz q an) (iz q U)->U.cell? ra=some v):=fun U hU=>((kq a6 a' hU).cell 0).trans rfl
  have bQ:=jo a6;go_wp2_with fail;refine jm (fun U:World=>U.cell? ra=some v) [5,6,7] (by kernel_rfl) ?_;have aw:(fun U:World=>U.cell? ra=some v) an.drew:=HK _ inferInstance;refine wT 0 [1,5,6,7] (.pointer (some ra)) aw ?_;try simp only[Act.put,sC]
  refine wT 1 [5,6,7] (v) aw ?_;try simp only[Act.put,sC]
  refine wT 2 [3,4,5,6,7] (.pointer (some q)) aw ?_;try simp only[Act.put,sC]
  clear aw;refine lH 3 ?_;go_simp;go_at_call 32;refine (HC _ iR).mono ?_;clear HC;rintro e w9 ⟨aZ,hY⟩;have aM:ik (iz q an) (iz q w9):=ij (im inferInstance) aZ;clear aZ;cases Y with
  |none=>
   obtain⟨a,er,rfl,he⟩:=hY;unfold oD;exact⟨rfl,kf J (ij (im aw0) (ij bz aM)) (jz a er he)⟩
  |some y=>
  obtain⟨x9,r9⟩:=y;obtain⟨v9,i9,rfl,dj,R9,dp,cl⟩:=hY;subst dp;obtain⟨rfl,dn⟩:=dj
  (first | refine⟨HK _ aM,?_⟩ | refine⟨fun _=>HK _ aM,?_⟩)
  have cn:∀g,v.ownBlock=some g->n1<=g/\g<an.heap.size:=fun g hg=>OL.own.lt g hg
  have cH:=OL.iv lS a_ (lp a_) aM;have aF:=kq a6 a' aM;have dq:ys.length<=100000:=by have:=aD.out;omega
  have c8:n1<=w9.heap.size:=by have h1:=lZ aM;have h2:=aa;omega
  obtain⟨cX,ay,cD,dz,aI⟩:∃v,w9.alloc (.cells #[x9] 9)=v/\Rd B q A c L en eA ec el v i9/\ik (iz q w0) (iz q v)/\ik w9 v:=⟨_,rfl,R9.after iR,ij (ij bz aM) (im iR),iR⟩;have ao:=cH.after lS aI;have cK:rk (old an.drew.heap.size cX) (x9):=dn;have bh:=mZ (w:=w9) (k:=aI) aF;refine lH 4 ?_;go_simp;try rw[ay]
  (first | refine⟨HK _ (ij aM (im aI)),?_⟩ | refine⟨fun _=>HK _ (ij aM (im aI)),?_⟩)
  refine lH 5 ?_;obtain⟨df,be,bb,ba,b'⟩:=info_parts J7;rw[<- ay];refine jZ (w9.alloc (.cells #[x9] 9)) (.tmp 15) (.tmp 18) 55 rfl n1 9 df _ 1 _ underlying55 be bb ba b' rfl iI v ys.length (ys.flatMap mz) rfl (by rw[ay];exact ao.own) _ _ 1 1 [.string x9] rfl (ki (w:=w9) rfl #[x9] 9 _ rfl 1 1 rfl) (by intro u hu;simp only[la]at hu;subst hu;rfl) (by unfold maxLen;omega) iu (by rw[iH];omega) ?_;rw[ay];intro v5 cW aH aE cp;clear be bb ba b';obtain⟨A5,c5,rfl,_,_⟩:=ji aH;have b5:=ao.add lS cK (fun b hb=>by (have hb:=vO hb;have h2:=aa;show b<an.heap.size;omega)) (fun b hb=>(cn b hb).2) aH aE cp;have cC:=cD.grown ao.own aE a_ iu;have dy:=kF dz ao.own aE a_ iu;have az:=oY bh aE (fun e=>by have:=(ao.own.lt ra e.symm).1;omega);have cd:((.slice A5 (ys.length+1) c5):Value).ownBlock≠some ra:=fun e=>by have:=(b5.own.lt ra e).1;omega
  obtain⟨cV,v2,aK,ej,cB,dx,cz,cG⟩:∃z v2,cW.setCell ra (.slice A5 (ys.length+1) c5)=z/\v2.ownBlock≠some ra/\Hid (Rd B q A c L en eA ec el z i9)/\ik (iz q w0) (iz q z)/\Hid (iP z ra 79 #[v2,.int .i64 0,.int .i64 0,.int .i64 0,.int .i64 0,.string ⟨#[]⟩,.slice none 0 0])/\Hid (kZ n1 9 1 mz rk (fun b=>decide (b<n1)) z v2 (ys++[x9])):=⟨_,(.slice A5 (ys.length+1) c5),rfl,cd,cC.set a' iu 0 _,iJ (k:=⟨by rw[iZ];omega⟩) (h:=dy) _ _,az.jx 0 _,b5.set lS (lp bl) cd 0 _⟩;have bV:=iy (jW bW cl);have d':n1<=cV.heap.size:=by rw[<- aK,jc];exact jW (jW c8 aI.below.size) aE.size
  have eo:i2<=i9:=cl;try refine kL ?_
  obtain⟨m0,m1,m2,m3,m4,m5,m6⟩:=wv az;have ml:=jo az;obtain⟨ak,aj,ai,ah,ag,af,ae⟩:=yG az;refine lH 6 ?_;go_simp;try refine kL ?_
  refine lH 7 ?_;go_simp;try refine kL ?_
  try rw[aK]
  refine iT kp ?_ _;clear m0 ak m1 aj m2 ai m3 ah m4 ag m5 af m6 ae ml aK az cC b5 aH aE cp bh cK ao cD ay cH aF R9 HK a6 R OL cn aM bQ dq c8;have R:=cz;have OL:=cG;clear aa;have aa:=d';clear cz cG;have ck:i2<i9:=by have h1:=mm b8;rw[nY,nY]at h1;have:=cB.le;omega
  have aC:Hid ((ys++[x9]).length+m=64):=by (show _=_;rw[mo];have:=aD.out;simp;omega)
  have J:Hid (X=if jq ⟨#[44]⟩ (L.drop i9) then (nR m (ys++[x9]) (L.drop i9).tail).bind (fun (l,r)=>(iF [⟨#[41]⟩] r).bind fun (_,r)=>zm el k l r) else (iF [⟨#[41]⟩] (L.drop i9)).bind fun (_,r)=>zm el k (ys++[x9]) r):=by
   have h9:X=(if jq ⟨#[44]⟩ (L.drop i9) then nR m (ys++[x9]) (L.drop i9).tail else some (ys++[x9],L.drop i9)).bind fun (l,r)=>(iF [⟨#[41]⟩] r).bind fun (_,r)=>zm el k l r:=J
   show _=_
   rw[h9];by_cases hc:jq ⟨#[44]⟩ (L.drop i9)=true
   ·rw[iG hc,iG hc]
   rw[iV hc,iV hc];rfl
  go_wp2_with fail;refine Dx ⟨#[44]⟩ cB J dx bV ?_ ?_
  ·clear J;intro bM b4 J al bx aJ
   have I:=iy (kq R a' al);have ab:=iy (OL.iv lS a_ (lp a_) al);clear R OL;have R:=I;have OL:=ab;clear I ab;go_wp2_with fail;refine td (jH b4.out [⟨#[41]⟩] iI) J bx aJ ?_;clear J;intro cU e3 e' c4 cc dJ J bU dW aX dw;subst cc;have I:=iy (kq R a' aX);have ab:=iy (OL.iv lS a_ (lp a_) aX);clear R OL;have R:=I;have OL:=ab;clear I ab;obtain⟨lA,lc,di,DF⟩:=OL.row (P:=sR) lS (fun b hb=>lp hb) (fun y=>rfl) (by have:=aC.out;omega) (fun W b o y hy hj=>⟨hj 0 _ rfl,jW hy iI⟩);subst di;obtain⟨ll,aB⟩:=jt (ys++[x9]);rw[aB]at R DF J;have LF:=iy DF;have J:Hid (X=zm el k ll (L.drop c4)):=J;have bn:n1<=cU.heap.size:=by have h1:=aX.below.size;have h2:=al.below.size;rw[iZ,iZ]at h1 h2;omega
   clear OL DF aB aC;have J:Hid (X=(iF [⟨#[61]⟩] (L.drop c4)).bind fun (_,r)=>(jg el k r).bind fun (x,r)=>(iF [⟨#[59]⟩] r).bind fun (_,r)=>some (⟨ll,x⟩,r)):=J;go_wp2_with fail;refine td (jH dJ.out [⟨#[61]⟩] iI) J dw bU ?_;clear J;intro cT e2 e_ eh cb dI J b9 dV aV dv;subst cb;have I:=iy (kq R a' aV);have a8:=iy (LF.below lD (kj (q:=q) a_ aV).below);clear R LF;have R:=I;have LF:=a8;clear I a8;go_wp2_with fail;refine BC (wA htag hel k dI (by have:=b9.out;omega)) J dv b9 ?_;clear J;intro aq bj e9 dd cq ca cA J bT dU bf du;obtain⟨⟨k9,o9,t9,z9,s9,A9,c9,a7⟩,au,rfl,D9⟩:=ca;have I:=iy (kq R a' bf);have a8:=iy (LF.below lD (kj (q:=q) a_ bf).below);clear R LF;have R:=I;have LF:=a8;clear I a8;rw[JQ k9 o9 t9 z9 s9 A9 c9 a7];have av:=C' htag hel au cq (by rw[nY];have:=cA.few;omega);have bm:n1<=cT.heap.size:=by have h1:=bn;have h2:=lZ aV;omega
   have D9:=D9.sub (iS bm aq);have av:=iy av;have au:=iy au;have a6:=R.out;obtain⟨m0,m1,m2,m3,m4,m5,m6⟩:=wv a6;have ml:=jo a6;obtain⟨ak,aj,ai,ah,ag,af,ae⟩:=yG a6;obtain⟨e6,bc,I,dH,dt,aO,bN⟩:∃W,(((((aq.setCell ⟨ra,1,none⟩ (.int .i64 k9)).setCell ⟨ra,2,none⟩ (.int .i64 o9)).setCell ⟨ra,3,none⟩ (.int .i64 t9)).setCell ⟨ra,4,none⟩ (.int .i64 z9)).setCell ⟨ra,5,none⟩ (.string s9)).setCell ⟨ra,6,none⟩ (.slice A9 a7.length c9)=W/\Hid (iP W ra 79 #[(.slice lA ll.length lc),k9,o9,t9,z9,s9,.slice A9 a7.length c9])/\Hid (Rd B q A c L en eA ec el W dd)/\ik (iz q w0) (iz q W)/\ik (old n1 aq) (old n1 W)/\W.heap.size=aq.heap.size:=⟨_,rfl,zi [.int .i64 k9,.int .i64 o9,.int .i64 t9,.int .i64 z9,.string s9,.slice A9 a7.length c9] 1 aq [(.slice lA ll.length lc)] [.int .i64 0,.int .i64 0,.int .i64 0,.int .i64 0,.string ⟨#[]⟩,.slice none 0 0] rfl rfl a6,Bs a' iu [.int .i64 k9,.int .i64 o9,.int .i64 t9,.int .i64 z9,.string s9,.slice A9 a7.length c9] 1 aq cA,Bz iu [.int .i64 k9,.int .i64 o9,.int .i64 t9,.int .i64 z9,.string s9,.slice A9 a7.length c9] 1 aq du,yZ bl [.int .i64 k9,.int .i64 o9,.int .i64 t9,.int .i64 z9,.string s9,.slice A9 a7.length c9] 1 aq,xz ra [.int .i64 k9,.int .i64 o9,.int .i64 t9,.int .i64 z9,.string s9,.slice A9 a7.length c9] 1 aq⟩;have bS:=bT;have a8:=iy (LF.below lD aO.below);have DZ:=iy (D9.below aO.below);clear LF R D9;have LF:=a8;have R:=I;clear a8 I;go_wp2_with fail;try rw[bc]
   try rw[<- bN]
   clear bN bc m0 m1 m2 m3 m4 m5 m6 ml ak aj ai ah ag af ae a6;go_wp2_with fail;refine td (jH dH.out [⟨#[59]⟩] iI) J dt bS ?_;clear J;intro cS e1 e8 c3 c' dG J bR dT aU cu;subst c';have I:=iy (kq R a' aU);have a8:=iy (LF.below lD (kj (q:=q) a_ aU).below);clear R LF;have R:=I;have LF:=a8;clear I a8;have DY:=DZ.below (kj (q:=q) a_ aU).below;have bD:Hid (X=some (⟨ll,bj⟩,L.drop c3)):=J;have a6:=R.out;obtain⟨m0,m1,m2,m3,m4,m5,m6⟩:=wv a6;obtain⟨ak,aj,ai,ah,ag,af,ae⟩:=yG a6;have ad:=lM (HB.after (k:=cu)) aQ;obtain⟨cR,cQ,cP,cO,cN,cM,cL⟩:=wv ad;obtain⟨bL,bK,bJ,bI,bH,bG,bF⟩:=yG ad;obtain⟨W,aS,EW,bA,aW,oW,sW⟩:=tR (zs:=[.slice none 0 0,.int .i64 0,.int .i64 0,.int .i64 0,.int .i64 0,.string ⟨#[]⟩,.slice none 0 0]) ad dG aQ (ij (im aw0) cu) (lI hr) iu [.slice lA ll.length lc,.int .i64 k9,.int .i64 o9,.int .i64 t9,.int .i64 z9,.string s9,.slice A9 a7.length c9] rfl;have hW:(((((((cS.setCell r (.slice lA ll.length lc)).setCell ⟨r,1,none⟩ (.int .i64 k9)).setCell ⟨r,2,none⟩ (.int .i64 o9)).setCell ⟨r,3,none⟩ (.int .i64 t9)).setCell ⟨r,4,none⟩ (.int .i64 z9)).setCell ⟨r,5,none⟩ (.string s9)).setCell ⟨r,6,none⟩ (.slice A9 a7.length c9))=W:=aS;clear aS;have bw:=iy hW;clear hW;go_wp2_with fail;try rw[bw.out]
   obtain⟨u0,u1,u2,u3,u4,u5,u6⟩:=wv EW;exact jR (v:=.agg #[.slice lA ll.length lc,k9,o9,t9,z9,s9,.slice A9 a7.length c9]) (by simp[results,results118,go_sem,u0,u1,u2,u3,u4,u5,u6]) rfl (lN (x:=⟨ll,bj⟩) (show X=some (⟨ll,bj⟩,L.drop c3) from bD) aW (⟨⟨⟨lA,lc,ll⟩,.mk k9 o9 t9 z9 s9 A9 c9 a7⟩,by (show En.mk ll _=_;rw[au.out]),rfl,⟨(LF.below lD (oW n1 iu).below).sub sj (iS iu W),(DY.below (oW n1 iu).below).sub (iS iu W),av.1,av.2⟩⟩) bA rfl (bR))
  clear J;intro bM b4 J al bx aJ dQ;rw[tail_drop]at J;have I:=iy (kq R a' al);have ab:=iy (OL.iv lS a_ (lp a_) al);clear R OL;have R:=I;have OL:=ab;clear I ab;have aa:n1<=bM.heap.size:=by have h2:=lZ al;omega
  go_wp2;go_roundw
  case rel=>exact⟨i9+1,m,v2,_,aJ,aC,J,b4,bx,aa,R,OL⟩
  case measure=>(rw[je b4.out.fields.2.2.1,d1.out];have h1:=ck;have h2:=b4.le;omega)
 obtain rfl:m=0:=by have:=aD.out;omega
 have dP:Hid (X=none):=J;obtain⟨a,er,rfl,he⟩:=hf;unfold oD;go_wp2;exact⟨rfl,kf dP (ij (im aw0) bz) (jz a er he)⟩
end
end
section
section
variable {α:Type} {n0:Nat} {T:TypeId} {sz:Nat} {cells:α->List Value} {ok:World->α->Prop} {S0:Nat->Bool} {w w':World} {v vB vB':Value} {l:List α}
theorem kZ.other (h:kZ n0 T sz cells ok (iD S0 vB) w v l) (hm:pH ok) (g:w.grownBy w' vB.ownBlock) (hb:vB'.ownBlock=vB.ownBlock\/vB'.ownBlock=some w.heap.size) (hne:∀b,v.ownBlock=some b->vB.ownBlock≠some b):kZ n0 T sz cells ok (iD S0 vB') w' v l:=by
 refine⟨⟨h.own.1,?_⟩,fun y j=>?_⟩
 ·rcases h.own.2 with U | ⟨gg,cap,cur,e,hbb,hgg,rest⟩
  ·exact .inl U
  refine .inr ⟨gg,cap,cur,e,hbb,?_,rest⟩;have o:gg<w.heap.size:=by
   rcases qa gg w.heap.size with J | J
   ·exact J
   rw[FF J]at hgg;cases hgg
  rw[g.block gg o (fun R=>hne gg (by rw[e];rfl) R.symm)];exact hgg
 have j:=h.inn y j;rcases hb with hb | hb
 ·have e:iD (iD S0 vB') v=iD (iD S0 vB) v:=by unfold iD;rw[hb]
  rw[e];exact hm.below _ _ _ (xo g fun b hb=>by unfold iD;rw[hb];simp).below j
 have a:ik (kK (iD (iD S0 vB) v) w) (kK (fun b=>iD (iD S0 vB) v b||iD (iD S0 vB') v b) w'):=by
  refine vx g.os g.tape g.output g.size fun b I=>⟨?_,fun e=>g.block b I fun R=>?_⟩
  ·have hne:(vB'.ownBlock==some b)=false:=by
    rw[hb];simp;omega
   unfold iD;rw[hne];cases S0 b<;>cases (vB.ownBlock==some b)<;>cases (v.ownBlock==some b)<;>rfl
  unfold iD at e;rw[<- R]at e;simp at e
 exact hm.sub _ _ _ (rp (fun b hb=>by rw[hb,Bool.or_true]) w') (hm.below _ _ _ a.below j)
end
def kx (y:ma):List Value:=jj y.cond++[.int .i64 y.dst,.bool y.res]
structure vo (w:World) (y:ma):Prop where
 co:RX w y.cond
 tb:FY y.cond
 sz:y.cond.size<=70000
theorem jF:pH vo:=⟨fun W W' y hb h=>⟨h.co.below hb,h.tb,h.sz⟩,fun W w y k h=>⟨h.co.sub k,h.tb,h.sz⟩⟩
def qg (y:ByteArray×Nat):List Value:=[.string y.1,.int .i64 (y.2:Nat)]
def GF (w:World) (y:ByteArray×Nat):Prop:=y.1.size<=65536/\y.2<=65536
theorem pG:pH GF:=⟨fun _ _ _ _ h=>h,fun _ _ _ _ h=>h⟩
theorem ME:(prog.info? 223).map (fun i=>(i.zero,i.size,i.bytes))=some (some (.agg #[.int .i64 0,.int .i64 0,.int .i64 0,.int .i64 0,.string ⟨#[]⟩,.slice none 0 0,.int .i64 0,.bool false]),8,88):=by kernel_rfl
theorem Nl:(prog.info? 241).map (fun i=>(i.zero,i.size,i.bytes))=some (some (.agg #[.string ⟨#[]⟩,.int .i64 0]),2,24):=by kernel_rfl
def VT (n:Nat) (x:List wo) (w:World) (v:Value):Prop:=∃(vA vB:Value) (trs:List ma) (gls:List (ByteArray×Nat)),v=.tuple #[vA,vB] /\
 kZ n 223 8 kx vo (iD (fun b=>decide (b<n)) vB) w vA trs/\kZ n 241 2 qg GF (iD (fun b=>decide (b<n)) vA) w vB gls /\
 (∀b,vA.ownBlock=some b->vB.ownBlock≠some b)/\trs.length=gls.length/\trs.length<=4/\x=List.zipWith (fun (t:ma) (g:ByteArray×Nat)=>wo.mk t.cond.er t.res g.1) trs gls/\∀t∈trs,t.dst=0
end
end Go.Proofs.YtnigblndonocfaaGreatDoor
