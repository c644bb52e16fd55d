/- A part of the proof. -/
import Derived.Test.YtnigblndonocfaaGreatDoorP6
import Derived.Maps.StringElems
set_option linter.unusedVariables false
set_option linter.unusedSimpArgs false
namespace Go.Proofs.YtnigblndonocfaaGreatDoor
set_option maxRecDepth 100000
set_option maxHeartbeats 6400000
open Go.RowKit Go.BigFrame Go.Proofs.Tryz
section
variable {B:yM} {q:Nat} {A:zA} {c:Nat} {L:List Tk} {en:Int} {eA:zA} {ec:Nat} {el:List iW} {w w0 w1:yM} {i:Nat}
mutual
theorem AX.Su {el:List iW}:∀(y:Tx),AX el y.er->∀x∈y.list,x.ty<=2000
 |.mk k o t v s A c xs,h,x,hx=>by
  rw[Tx.er,AX]at h;rw[Tx.list]at hx;rcases uW.1 hx with rfl | hx
  ·exact h.1.tb
  exact tj.Su xs h.2 x hx
theorem tj.Su {el:List iW}:∀(ys:List Tx),tj el (Tx.kv ys)->∀x∈Tx.lists ys,x.ty<=2000
 |[],_,x,hx=>by rw[Tx.lists]at hx;cases hx
 |y::ys,h,x,hx=>by
  rw[Tx.kv,tj]at h;rw[Tx.lists]at hx;rcases ue.1 hx with hx | hx
  ·exact AX.Su y h.1 x hx
  exact tj.Su ys h.2 x hx
end
mutual
theorem zg:∀(y:Tx),y.size=mK y.er
 |.mk k o t v s A c xs=>by rw[Tx.size,Tx.er,mK,Gk xs,Nat.add_comm]
theorem Gk:∀(ys:List Tx),Tx.sizes ys=ks (Tx.kv ys)
 |[]=>rfl
 |y::ys=>by rw[Tx.sizes,Tx.kv,ks,zg y,Gk ys]
end
theorem C' {el:List iW} {y:Tx} {x:Ex} {ts r:List Tk} {k:Nat} (htag:∀u∈el,u.tags.l.length<=16) (hel:el.length<=1000) (hy:y.er=x) (h:jg el k ts=some (x,r)) (hl:ts.length<=65536):FY y/\y.size<=70000:=by
 have j:=uN htag hel h;rw[<- hy]at j;exact⟨fun x o=>Int.le_trans (AX.Su y j.1 x o) iI,by rw[zg];have:=j.2;omega⟩
def pN (y:oX):zO:=.slice y.left.A y.left.l.length y.left.c::jj y.right
structure JT (w:yM) (y:oX):Prop where
 lf:ir 1 sR w y.left
 ri:RX w y.right
 tb:FY y.right
 sz:y.right.size<=70000
theorem pe:pH JT:=⟨fun W W' y hb h=>⟨h.lf.below lD hb,h.ri.below hb,h.tb,h.sz⟩,fun W w y k h=>⟨h.lf.sub sj k,h.ri.sub k,h.tb,h.sz⟩⟩
theorem Rh {W:yM} {b o:Nat} {y:oX} {S:Prop} (h:JT W y) (hj:∀j u,(pN y)[j]?=some u->W.cell? ⟨b,o+j,none⟩=some u):xv S W b o y:=
 ⟨h.tb,fun _=>jW h.sz iI,hj 0 _ rfl,⟨hj 1 _ rfl,hj 2 _ rfl,hj 3 _ rfl,hj 4 _ rfl,hj 5 _ rfl,hj 6 _ rfl⟩,h.lf,h.ri⟩
def mz (y:yB):zO:=[y]
def rk (w:yM) (y:yB):Prop:=y.size<=65536
theorem lS:pH rk:=⟨fun _ _ _ _ h=>h,fun _ _ _ _ h=>h⟩
theorem J7:(prog.info? 9).map (fun i=>(i.zero,i.size,i.bytes))=some (some (.string ⟨#[]⟩),1,16):=by kernel_rfl
def zm (el:List iW) (k:Nat) (l:List yB) (ts:List Tk):Option (En×List Tk):=(iF [⟨#[61]⟩] ts).bind fun (_,r)=>(jg el k r).bind fun (x,r)=>(iF [⟨#[59]⟩] r).bind fun (_,r)=>some (⟨l,x⟩,r)
theorem Md (el:List iW) (k:Nat) (ts:List Tk):Lm el k ts=if jq ⟨#[40]⟩ ts then (nR 64 [] ts.tail).bind fun (l,r)=>(iF [⟨#[41]⟩] r).bind fun (_,r)=>zm el k l r else (pV ts).bind fun (s,r)=>zm el k [s] r:=by
 unfold Lm;by_cases h:jq ⟨#[40]⟩ ts=true
 ·rw[iG h,iG h]
  cases nR 64 [] ts.tail with
  |none=>rfl
  |some p=>
  show ((iF [⟨#[41]⟩] p.2).bind _).bind _=(iF [⟨#[41]⟩] p.2).bind _
  cases iF [⟨#[41]⟩] p.2<;>rfl
 rw[iV h,iV h];cases pV ts<;>rfl
theorem zd {k:Nat} (htag:∀u∈el,u.tags.l.length<=16) (hel:el.length<=1000) (h:Rd B q A c L en eA ec el w i) (hk:20*(L.length-i)+10<=k):Calls prog 118 #[.pointer (some q)] w (pk B q A c L en eA ec el w i (Lm el k (L.drop i)) (VG pN JT oX.er w.heap.size)):=by
 obtain⟨X,hX⟩:=jt (Lm el k (L.drop i));rw[hX];obtain⟨i0,cm⟩:=jt (i);rw[cm]at hX h hk⊢;clear cm;have J:=iy hX.symm;have dc:Hid (i0<=i0):=js _;clear hX;have hq:=h.blk.lt;have ds:=h.base;obtain⟨r,hr⟩:=jt (w.heap.size);have aQ:r≠q:=by omega
 have ek:q<r:=by omega
 obtain⟨w0,dh,aw0,B0,R0,s0⟩:=Ls h hr aQ #[(),JX,JX,JX,JX,.string ⟨#[]⟩,()] 79;have HB:=iy B0;have a0:ik (iz q w0) (iz q w0):=iq _;have dR:q<w0.heap.size:=iu;have dS:B.heap.size<=w0.heap.size:=iu;clear h B0;go_in;go_wp2_with fail;try rw[hr]
 try rw[dh]
 obtain⟨ra,br⟩:=jt (r+1);obtain⟨w1,c_,b3,R1,a1,s1⟩:∃z,w0.alloc (.cells #[(),JX,JX,JX,JX,.string ⟨#[]⟩,()] 79)=z/\Hid (iP z ra 79 #[(),JX,JX,JX,JX,.string ⟨#[]⟩,()])/\Hid (Rd B q A c L en eA ec el z i0)/\ik (iz q w0) (iz q z)/\z.heap.size=ra+1:=⟨_,rfl,by rw[<- br,<- s0];exact jC ..,R0.after iR,im iR,by rw[iH,s0,br]⟩;try rw[br]
 try rw[c_]
 clear c_;have db:=dc;have a':ra≠q:=iu;have et:r<ra:=iu;obtain⟨n1,ef⟩:=jt (ra+1);have bl:ra<n1:=iu;have a_:q<n1:=iu;have ee:w0.heap.size<=n1:=iu;have aa:n1<=w1.heap.size:=iu;have J:Hid (X=if jq ⟨#[40]⟩ (L.drop i0) then (nR 64 [] (L.drop i0).tail).bind fun (l,r)=>(iF [⟨#[41]⟩] r).bind fun (_,r)=>zm el k l r else (pV (L.drop i0)).bind fun (s,r)=>zm el k [s] r):=by (show _=_;rw[J.out,Md])
 go_wp2_with fail;refine Dx ⟨#[40]⟩ R1 J a1 db ?_ ?_
 ·clear J;intro w2 R2 J aT a2 bp
  replace b3:=iy (kq b3 a' aT);have aa:n1<=w2.heap.size:=by have h1:=lZ aT;omega
  go_wp2_with fail;refine td (qb R2) J a2 bp ?_;clear J;intro w3 x3 v3 i3 dm R3 J da ep ct a3;obtain⟨rfl,cj⟩:=dm;have I:=kq b3 a' ct;have aa:n1<=w3.heap.size:=by have h1:=lZ ct;omega
  obtain⟨s,hs⟩:=jt (x3);rw[hs]at J cj⊢;clear hs;obtain⟨g,hg⟩:=jt (w3.heap.size);obtain⟨d_,aP,cF,dF,cJ,aA⟩:∃z,w3.alloc (.cells #[s] 9)=z/\Rd B q A c L en eA ec el z i3/\ik (iz q w0) (iz q z)/\iP z g 9 #[s]/\iP z ra 79 #[(),JX,JX,JX,JX,.string ⟨#[]⟩,()]:=⟨_,rfl,R3.after iR,ij a3 (im iR),by rw[<- hg];exact jC ..,iP.alloc I _⟩;have dr:g≠ra:=iu;obtain⟨m0,m1,m2,m3,m4,m5,m6⟩:=wv aA;have ml:=jo aA;obtain⟨ak,aj,ai,ah,ag,af,ae⟩:=yG aA;obtain⟨b6,aL,dO,dE,bE,R⟩:∃z,d_.setCell ra (.slice g 1 1)=z/\Hid (Rd B q A c L en eA ec el z i3)/\ik (iz q w0) (iz q z)/\iP z g 9 #[s]/\Hid (iP z ra 79 #[.slice g 1 1,JX,JX,JX,JX,.string ⟨#[]⟩,()]):=⟨_,rfl,cF.set a' iu 0 _,iJ (k:=⟨by rw[iZ];omega⟩) (h:=dF) _ _,cJ.qU (p:=ra) dr _,aA.jx 0 _⟩;have LF:Hid (ir 1 sR (old n1 b6) ⟨some g,1,[s]⟩):=⟨.inr ⟨g,0,rfl,by rw[ku];exact bE.lt,fun j y hy=>by
    have:j=0:=by have:=(rq.1 hy).1;simpa using this
    subst this;simp at hy;subst hy;exact⟨((yV bE iu).cell 0).trans rfl,jW cj iI⟩⟩,js 1,(show 1<=9223372036854775807 by decide),(show 1<=140737488355328 by decide)⟩
  have c2:=da;have bo:n1<=b6.heap.size:=by rw[<- aL,jc,<- aP,iH];omega
  go_wp2_with fail;try rw[hg]
  try rw[aP]
  try rw[aL]
  clear aL aP m0 m1 m2 m3 m4 m5 m6 ml ak aj ai ah ag af ae aA I cF cJ bE;obtain⟨lA,bu⟩:=jt (some (⟨g,0,none⟩:Addr));obtain⟨lc,bt⟩:∃a:Nat,1=a:=⟨_,rfl⟩;obtain⟨ll,aB⟩:=jt ([s]);have J:Hid (X=zm el k ll (L.drop i3)):=by (show _=_;rw[<- aB];exact J)
  have cy:Hid (iP b6 ra 79 #[(.slice lA ll.length lc),JX,JX,JX,JX,.string ⟨#[]⟩,()]):=by rw[<- bu,<- bt,<- aB];exact R
  have cI:Hid (ir 1 sR (old n1 b6) ⟨lA,lc,ll⟩):=by rw[<- bu,<- bt,<- aB];exact LF
  clear R LF bu bt aB;have R:=cy;have LF:=cI;clear cy cI;have J:Hid (X=(iF [⟨#[61]⟩] (L.drop i3)).bind fun (_,r)=>(jg el k r).bind fun (x,r)=>(iF [⟨#[59]⟩] r).bind fun (_,r)=>some (⟨ll,x⟩,r)):=J;go_wp2_with fail;refine td (jH dO.out [⟨#[61]⟩] iI) J dE c2 ?_;clear J;intro cZ e5 ed ei ch dN J b_ dZ b2 dD;subst ch;have I:=iy (kq R a' b2);have a8:=iy (LF.below lD (kj (q:=q) a_ b2).below);clear R LF;have R:=I;have LF:=a8;clear I a8;go_wp2_with fail;refine BC (wA htag hel k dN (by have:=b_.out;omega)) J dD b_ ?_;clear J;intro ar bk eb de cr cg cE J c1 dY bg dC;obtain⟨⟨k9,o9,t9,z9,s9,A9,c9,a7⟩,au,rfl,D9⟩:=cg;have I:=iy (kq R a' bg);have a8:=iy (LF.below lD (kj (q:=q) a_ bg).below);clear R LF;have R:=I;have LF:=a8;clear I a8;rw[JQ k9 o9 t9 z9 s9 A9 c9 a7];have av:=C' htag hel au cr (by rw[nY];have:=cE.few;omega);have bm:n1<=cZ.heap.size:=by have h1:=bo;have h2:=lZ b2;omega
  have D9:=D9.sub (iS bm ar);have av:=iy av;have au:=iy au;have a6:=R.out;obtain⟨m0,m1,m2,m3,m4,m5,m6⟩:=wv a6;have ml:=jo a6;obtain⟨ak,aj,ai,ah,ag,af,ae⟩:=yG a6;obtain⟨e7,bd,I,dM,dB,aO,bO⟩:∃W,(((((ar.setCell ⟨ra,1,none⟩ (.int .i64 k9)).setCell ⟨ra,2,none⟩ (.int .i64 o9)).setCell ⟨ra,3,none⟩ (.int .i64 t9)).setCell ⟨ra,4,none⟩ (.int .i64 z9)).setCell ⟨ra,5,none⟩ (.string s9)).setCell ⟨ra,6,none⟩ (.slice A9 a7.length c9)=W/\Hid (iP W ra 79 #[(.slice lA ll.length lc),k9,o9,t9,z9,s9,.slice A9 a7.length c9])/\Hid (Rd B q A c L en eA ec el W de)/\ik (iz q w0) (iz q W)/\ik (old n1 ar) (old n1 W)/\W.heap.size=ar.heap.size:=⟨_,rfl,zi [.int .i64 k9,.int .i64 o9,.int .i64 t9,.int .i64 z9,.string s9,.slice A9 a7.length c9] 1 ar [(.slice lA ll.length lc)] [.int .i64 0,.int .i64 0,.int .i64 0,.int .i64 0,.string ⟨#[]⟩,.slice none 0 0] rfl rfl a6,Bs a' iu [.int .i64 k9,.int .i64 o9,.int .i64 t9,.int .i64 z9,.string s9,.slice A9 a7.length c9] 1 ar cE,Bz iu [.int .i64 k9,.int .i64 o9,.int .i64 t9,.int .i64 z9,.string s9,.slice A9 a7.length c9] 1 ar dC,yZ bl [.int .i64 k9,.int .i64 o9,.int .i64 t9,.int .i64 z9,.string s9,.slice A9 a7.length c9] 1 ar,xz ra [.int .i64 k9,.int .i64 o9,.int .i64 t9,.int .i64 z9,.string s9,.slice A9 a7.length c9] 1 ar⟩;have c0:=c1;have a8:=iy (LF.below lD aO.below);have DZ:=iy (D9.below aO.below);clear LF R D9;have LF:=a8;have R:=I;clear a8 I;go_wp2_with fail;try rw[bd]
  try rw[<- bO]
  clear bO bd m0 m1 m2 m3 m4 m5 m6 ml ak aj ai ah ag af ae a6;go_wp2_with fail;refine td (jH dM.out [⟨#[59]⟩] iI) J dB c0 ?_;clear J;intro cY e4 ea c6 cf dL J bZ dX b1 cw;subst cf;have I:=iy (kq R a' b1);have a8:=iy (LF.below lD (kj (q:=q) a_ b1).below);clear R LF;have R:=I;have LF:=a8;clear I a8;have DY:=DZ.below (kj (q:=q) a_ b1).below;have bD:Hid (X=some (⟨ll,bk⟩,L.drop c6)):=J;have a6:=R.out;obtain⟨m0,m1,m2,m3,m4,m5,m6⟩:=wv a6;have ml:=jo a6;obtain⟨ak,aj,ai,ah,ag,af,ae⟩:=yG a6;have ad:=lM (HB.after (k:=cw)) aQ;obtain⟨cR,cQ,cP,cO,cN,cM,cL⟩:=wv ad;have e0:=jo ad;obtain⟨bL,bK,bJ,bI,bH,bG,bF⟩:=yG ad;obtain⟨W,aS,EW,bA,aW,oW,sW⟩:=tR (zs:=[(),JX,JX,JX,JX,.string ⟨#[]⟩,()]) ad dL aQ (ij (im aw0) cw) (lI hr) iu [(lA,ll.length,lc),k9,o9,t9,z9,s9,(A9,a7.length,c9)] rfl;have hW:(((((((cY.setCell r (.slice lA ll.length lc)).setCell (r,1) (.int .i64 k9)).setCell (r,2) (.int .i64 o9)).setCell (r,3) (.int .i64 t9)).setCell (r,4) (.int .i64 z9)).setCell (r,5) (.string s9)).setCell (r,6) (.slice A9 a7.length c9))=W:=aS;clear aS;have bw:=iy hW;clear hW;go_wp2_with fail;try rw[bw.out]
  obtain⟨u0,u1,u2,u3,u4,u5,u6⟩:=wv EW;exact jR (v:=.agg #[(lA,ll.length,lc),k9,o9,t9,z9,s9,(A9,a7.length,c9)]) (by simp[results,results118,go_sem,u0,u1,u2,u3,u4,u5,u6]) rfl (lN (x:=⟨ll,bk⟩) (show X=some (⟨ll,bk⟩,L.drop c6) from bD) aW (⟨⟨⟨lA,lc,ll⟩,.mk k9 o9 t9 z9 s9 A9 c9 a7⟩,by (show En.mk ll _=_;rw[au.out]),rfl,⟨(LF.below lD (oW n1 iu).below).sub sj (iS iu W),(DY.below (oW n1 iu).below).sub (iS iu W),av.1,av.2⟩⟩) bA rfl (bZ))
 clear J;intro w2 R2 J aT a2 bp eg;rw[tail_drop]at J;have cx:=kq b3 a' aT;clear b3;have bP:n1<=w2.heap.size:=by have h1:=lZ aT;omega
 obtain⟨v0,bq⟩:=jt (Value.slice none 0 0);obtain⟨aG,b7⟩:∃y:List yB,y=[]:=⟨_,rfl⟩;have R:Hid (iP w2 ra 79 #[v0,JX,JX,JX,JX,.string ⟨#[]⟩,()]):=by rw[<- bq];exact cx
 have OL:Hid (kZ n1 9 1 mz rk (fun b=>decide (b<n1)) w2 v0 aG):=by (show kZ n1 9 1 mz rk (fun b=>decide (b<n1)) w2 v0 aG;rw[<- bq,b7];exact vZ)
 have J:Hid (X=(nR 64 aG (L.drop (i0+1))).bind fun (l,r)=>(iF [⟨#[41]⟩] r).bind fun (_,r)=>zm el k l r):=by (show _=_;rw[b7];exact J)
 have aR:Hid (aG.length+64=64):=by (show _=_;rw[b7];rfl)
 clear cx bq b7 aa;go_wp2_with fail;go_loopw [] (fun wr=>∃(i' m:Nat) (v:Value) (ys:List yB),Hid (i0<=i')/\Hid (ys.length+m=64)/\Hid (X=(nR m ys (L.drop i')).bind fun (l,r)=>(iF [⟨#[41]⟩] r).bind fun (_,r)=>zm el k l r)/\Hid (Rd B q A c L en eA ec el wr i')/\ik (iz q w0) (iz q wr)/\n1<=wr.heap.size/\Hid (iP wr ra 79 #[v,JX,JX,JX,JX,.string ⟨#[]⟩,()])/\Hid (kZ n1 9 1 mz rk (fun b=>decide (b<n1)) wr v ys)) (fun wr=>L.length-lO wr q 2)
 ·exact⟨(i0+1),64,v0,aG,bp,aR,J,R2,a2,bP,R,OL⟩
 case round=>
 clear J R OL aR bP;obtain⟨i2,m,v,ys,bY,aD,J,bC,dA,aa,R,OL⟩:=hrel;have d1:=iy (je bC.fields.2.2.1);have HC:=iy (qv bC 1);obtain⟨zk,hz⟩:=jt (ju 1 (L.drop i2));rw[hz]at HC;have HZ:=iy hz;clear hz;go_wp2_with fail;refine HC.mono ?_;clear HC;rintro e ax ⟨rfl,aN⟩;have bB:=iy (bC.after aN);have b0:ik (iz q wr) (iz q ax):=im (q:=q) aN;have cv:=ij dA b0;have bX:=bY;have aa:n1<=ax.heap.size:=jW aa aN.below.size;clear aN;have I:Hid (iP ax ra 79 #[v,JX,JX,JX,JX,.string ⟨#[]⟩,()]):=iB (kq R a' b0);have ab:Hid (kZ n1 9 1 mz rk (fun b=>decide (b<n1)) ax v ys):=OL.iv lS a_ (lp a_) b0;clear R OL;have R:=I;have OL:=ab;clear I ab;cases zk
 ·skip
  have bs:=BW HZ;have J:Hid (X=(pV (L.drop i2)).bind fun _=>(none:Option (En×List Tk))):=by (show _=_;rw[J.out];cases m with | zero=>(rw[bs];rfl) | succ m=>(rw[nR,bs];rfl))
  have HC:Hid (∀U,ik ax U->Calls prog 32 #[.pointer q] U (pk B q A c L en eA ec el U i2 (pV (L.drop i2)) (fun s w' v=>v=.string s/\s.size<=65536))):=fun U hU=>qb (bB.after hU)
  generalize b8:pV (L.drop i2)=Y at HC J;have a6:=R.out;have HK:Hid (∀U,ik (iz q ax) (iz q U)->U.cell? ra=some v):=fun U hU=>((kq a6 a' hU).cell 0).trans rfl
  have bQ:=jo a6;go_wp2_with fail;refine jm (fun U:yM=>U.cell? ra=some v) [5,6,7] (by kernel_rfl) ?_;have aw:(fun U:yM=>U.cell? ra=some v) ax.drew:=HK _ zc;refine wT 0 [1,5,6,7] (.pointer ra) aw ?_;try simp only[Act.put,oF,oB,oq]
  refine wT 1 [5,6,7] (v) aw ?_;try simp only[Act.put,oF,oB,oq]
  refine wT 2 [3,4,5,6,7] (.pointer q) aw ?_;try simp only[Act.put,oF,oB,oq]
  clear aw;refine lH 3 ?_;go_simp;go_at_call 32;refine (HC _ zc).mono ?_;clear HC;rintro e w9 ⟨aZ,hY⟩;have aM:ik (iz q ax) (iz q w9):=ij (im zc) aZ;clear aZ;cases Y with
  |none=>
   obtain⟨a,er,rfl,he⟩:=hY;unfold oD;exact⟨rfl,kf J (ij (im aw0) (ij cv aM)) (jz a er he)⟩
  |some y=>
  exact ((show False from by rw[bs]at b8;cases b8)).elim
 obtain⟨A7,c7,dk,_,_⟩:=ji OL.own;subst dk;have aF:=R.out;obtain⟨m0,m1,m2,m3,m4,m5,m6⟩:=wv aF;have ml:=jo aF;obtain⟨ak,aj,ai,ah,ag,af,ae⟩:=yG aF;have HC:=iy (mF bB (ys.length:Int) 64);go_wp2_with fail;refine HC.mono ?_;clear HC m0 m1 m2 m3 m4 m5 m6 ml ak aj ai ah ag af ae;rintro e an ⟨aN,hE⟩;have dK:=iy (bB.after aN);have aY:=im (q:=q) aN;have bz:=ij cv aY;have bW:=bX;have aa:n1<=an.heap.size:=jW aa aN.below.size;clear aN;have I:Hid (iP an ra 79 #[(.slice A7 ys.length c7),JX,JX,JX,JX,.string ⟨#[]⟩,()]):=iy (kq R a' aY);have ab:Hid (kZ n1 9 1 mz rk (fun b=>decide (b<n1)) an (.slice A7 ys.length c7) ys):=OL.iv lS a_ (lp a_) aY;clear R OL;have R:=I;have OL:=ab;clear I ab;rcases hE with⟨hlt4,rfl⟩ | ⟨hge4,hf⟩
 ·skip
  obtain⟨m,rfl⟩:∃j,m=j+1:=⟨m-1,by have:=aD.out;omega⟩;have J:Hid (X=(pV (L.drop i2)).bind fun (s,r)=>(if jq ⟨#[44]⟩ r then nR m (ys++[s]) r.tail else some (ys++[s],r)).bind fun (l,r)=>(iF [⟨#[41]⟩] r).bind fun (_,r)=>zm el k l r):=by (show _=_;rw[J.out,nR];cases pV (L.drop i2)<;>rfl)
  obtain⟨v,hv⟩:=jt (Value.slice A7 ys.length c7);rw[hv]at R OL;have HC:Hid (∀U,ik an U->Calls prog 32 #[.pointer q] U (pk B q A c L en eA ec el U i2 (pV (L.drop i2)) (fun s w' v=>v=.string s/\s.size<=65536))):=fun U hU=>qb (dK.after hU)
  generalize b8:pV (L.drop i2)=Y at HC J;have a6:=R.out;have HK:Hid (∀U,ik (iz q an) (iz q U)->U.cell? ra=some v):=fun U hU=>((kq a6 a' hU).cell 0).trans rfl
  have bQ:=jo a6;go_wp2_with fail;refine jm (fun U:yM=>U.cell? ra=some v) [5,6,7] (by kernel_rfl) ?_;have aw:(fun U:yM=>U.cell? ra=some v) an.drew:=HK _ zc;refine wT 0 [1,5,6,7] (.pointer ra) aw ?_;try simp only[Act.put,sC]
  refine wT 1 [5,6,7] (v) aw ?_;try simp only[Act.put,sC]
  refine wT 2 [3,4,5,6,7] (.pointer q) aw ?_;try simp only[Act.put,sC]
  clear aw;refine lH 3 ?_;go_simp;go_at_call 32;refine (HC _ iR).mono ?_;clear HC;rintro e w9 ⟨aZ,hY⟩;have aM:ik (iz q an) (iz q w9):=ij (im zc) aZ;clear aZ;cases Y with
  |none=>
   obtain⟨a,er,rfl,he⟩:=hY;unfold oD;exact⟨rfl,kf J (ij (im aw0) (ij bz aM)) (jz a er he)⟩
  |some y=>
  obtain⟨x9,r9⟩:=y;obtain⟨v9,i9,rfl,dj,R9,dp,cl⟩:=hY;subst dp;obtain⟨rfl,dn⟩:=dj
  (first | refine⟨HK _ aM,?_⟩ | refine⟨fun _=>HK _ aM,?_⟩)
  have cn:∀g,v.ownBlock=some g->n1<=g/\g<an.heap.size:=fun g hg=>OL.own.lt g hg
  have cH:=OL.iv lS a_ (lp a_) aM;have aF:=kq a6 a' aM;have dq:ys.length<=100000:=by have:=aD.out;omega
  have c8:n1<=w9.heap.size:=by have h1:=lZ aM;have h2:=aa;omega
  obtain⟨cX,ay,cD,dz,aI⟩:∃v,w9.alloc (.cells #[x9] 9)=v/\Rd B q A c L en eA ec el v i9/\ik (iz q w0) (iz q v)/\ik w9 v:=⟨_,rfl,R9.after iR,ij (ij bz aM) (im iR),iR⟩;have ao:=cH.after lS aI;have cK:rk (old an.drew.heap.size cX) (x9):=dn;have bh:=mZ (w:=w9) (k:=aI) aF;refine lH 4 ?_;go_simp;try rw[ay]
  (first | refine⟨HK _ (ij aM (im aI)),?_⟩ | refine⟨fun _=>HK _ (ij aM (im aI)),?_⟩)
  refine lH 5 ?_;obtain⟨df,be,bb,ba,b'⟩:=info_parts J7;rw[<- ay];refine jZ (w9.alloc (.cells #[x9] 9)) (.tmp 15) (.tmp 18) 55 rfl n1 9 df _ 1 _ underlying55 be bb ba b' rfl iI v ys.length (ys.flatMap mz) rfl (by rw[ay];exact ao.own) _ _ 1 1 [x9] rfl (ki (w:=w9) rfl #[x9] 9 _ rfl 1 1 rfl) (by intro u hu;simp only[la]at hu;subst hu;rfl) (by unfold maxLen;omega) iu (by rw[iH];omega) ?_;rw[ay];intro v5 cW aH aE cp;clear be bb ba b';obtain⟨A5,c5,rfl,_,_⟩:=ji aH;have b5:=ao.add lS cK (fun b hb=>by (have hb:=vO hb;have h2:=aa;show b<an.heap.size;omega)) (fun b hb=>(cn b hb).2) aH aE cp;have cC:=cD.grown ao.own aE a_ iu;have dy:=kF dz ao.own aE a_ iu;have az:=oY bh aE (fun e=>by have:=(ao.own.lt ra e.symm).1;omega);have cd:((.slice A5 (ys.length+1) c5):Value).ownBlock≠some ra:=fun e=>by have:=(b5.own.lt ra e).1;omega
  obtain⟨cV,v2,aK,ej,cB,dx,cz,cG⟩:∃z v2,cW.setCell ra (.slice A5 (ys.length+1) c5)=z/\v2.ownBlock≠some ra/\Hid (Rd B q A c L en eA ec el z i9)/\ik (iz q w0) (iz q z)/\Hid (iP z ra 79 #[v2,JX,JX,JX,JX,.string ⟨#[]⟩,()])/\Hid (kZ n1 9 1 mz rk (fun b=>decide (b<n1)) z v2 (ys++[x9])):=⟨_,(.slice A5 (ys.length+1) c5),rfl,cd,cC.set a' iu 0 _,iJ (k:=⟨by rw[iZ];omega⟩) (h:=dy) _ _,az.jx 0 _,b5.set lS (lp bl) cd 0 _⟩;have bV:=iy (jW bW cl);have d':n1<=cV.heap.size:=by rw[<- aK,jc];exact jW (jW c8 aI.below.size) aE.size
  have eo:i2<=i9:=cl;try refine kL ?_
  obtain⟨m0,m1,m2,m3,m4,m5,m6⟩:=wv az;have ml:=jo az;obtain⟨ak,aj,ai,ah,ag,af,ae⟩:=yG az;refine lH 6 ?_;go_simp;try refine kL ?_
  refine lH 7 ?_;go_simp;try refine kL ?_
  try rw[aK]
  refine iT kp ?_ _;clear m0 ak m1 aj m2 ai m3 ah m4 ag m5 af m6 ae ml aK az cC b5 aH aE cp bh cK ao cD ay cH aF R9 HK a6 R OL cn aM bQ dq c8;have R:=cz;have OL:=cG;clear aa;have aa:=d';clear cz cG;have ck:i2<i9:=by have h1:=mm b8;rw[nY,nY]at h1;have:=cB.le;omega
  have aC:Hid ((ys++[x9]).length+m=64):=by (show _=_;rw[mo];have:=aD.out;simp;omega)
  have J:Hid (X=if jq ⟨#[44]⟩ (L.drop i9) then (nR m (ys++[x9]) (L.drop i9).tail).bind (fun (l,r)=>(iF [⟨#[41]⟩] r).bind fun (_,r)=>zm el k l r) else (iF [⟨#[41]⟩] (L.drop i9)).bind fun (_,r)=>zm el k (ys++[x9]) r):=by
   have h9:X=(if jq ⟨#[44]⟩ (L.drop i9) then nR m (ys++[x9]) (L.drop i9).tail else some (ys++[x9],L.drop i9)).bind fun (l,r)=>(iF [⟨#[41]⟩] r).bind fun (_,r)=>zm el k l r:=J
   show _=_
   rw[h9];by_cases hc:jq ⟨#[44]⟩ (L.drop i9)=true
   ·rw[iG hc,iG hc]
   rw[iV hc,iV hc];rfl
  go_wp2_with fail;refine Dx ⟨#[44]⟩ cB J dx bV ?_ ?_
  ·clear J;intro bM b4 J al bx aJ
   have I:=iy (kq R a' al);have ab:=iy (OL.iv lS a_ (lp a_) al);clear R OL;have R:=I;have OL:=ab;clear I ab;go_wp2_with fail;refine td (jH b4.out [⟨#[41]⟩] iI) J bx aJ ?_;clear J;intro cU e3 e' c4 cc dJ J bU dW aX dw;subst cc;have I:=iy (kq R a' aX);have ab:=iy (OL.iv lS a_ (lp a_) aX);clear R OL;have R:=I;have OL:=ab;clear I ab;obtain⟨lA,lc,di,DF⟩:=OL.row (P:=sR) lS (fun b hb=>lp hb) (fun y=>rfl) (by have:=aC.out;omega) (fun W b o y hy hj=>⟨hj 0 _ rfl,jW hy iI⟩);subst di;obtain⟨ll,aB⟩:=jt (ys++[x9]);rw[aB]at R DF J;have LF:=iy DF;have J:Hid (X=zm el k ll (L.drop c4)):=J;have bn:n1<=cU.heap.size:=by have h1:=aX.below.size;have h2:=al.below.size;rw[iZ,iZ]at h1 h2;omega
   clear OL DF aB aC;have J:Hid (X=(iF [⟨#[61]⟩] (L.drop c4)).bind fun (_,r)=>(jg el k r).bind fun (x,r)=>(iF [⟨#[59]⟩] r).bind fun (_,r)=>some (⟨ll,x⟩,r)):=J;go_wp2_with fail;refine td (jH dJ.out [⟨#[61]⟩] iI) J dw bU ?_;clear J;intro cT e2 e_ eh cb dI J b9 dV aV dv;subst cb;have I:=iy (kq R a' aV);have a8:=iy (LF.below lD (kj (q:=q) a_ aV).below);clear R LF;have R:=I;have LF:=a8;clear I a8;go_wp2_with fail;refine BC (wA htag hel k dI (by have:=b9.out;omega)) J dv b9 ?_;clear J;intro aq bj e9 dd cq ca cA J bT dU bf du;obtain⟨⟨k9,o9,t9,z9,s9,A9,c9,a7⟩,au,rfl,D9⟩:=ca;have I:=iy (kq R a' bf);have a8:=iy (LF.below lD (kj (q:=q) a_ bf).below);clear R LF;have R:=I;have LF:=a8;clear I a8;rw[JQ k9 o9 t9 z9 s9 A9 c9 a7];have av:=C' htag hel au cq (by rw[nY];have:=cA.few;omega);have bm:n1<=cT.heap.size:=by have h1:=bn;have h2:=lZ aV;omega
   have D9:=D9.sub (iS bm aq);have av:=iy av;have au:=iy au;have a6:=R.out;obtain⟨m0,m1,m2,m3,m4,m5,m6⟩:=wv a6;have ml:=jo a6;obtain⟨ak,aj,ai,ah,ag,af,ae⟩:=yG a6;obtain⟨e6,bc,I,dH,dt,aO,bN⟩:∃W,(((((aq.setCell ⟨ra,1,none⟩ (.int .i64 k9)).setCell ⟨ra,2,none⟩ (.int .i64 o9)).setCell ⟨ra,3,none⟩ (.int .i64 t9)).setCell ⟨ra,4,none⟩ (.int .i64 z9)).setCell ⟨ra,5,none⟩ (.string s9)).setCell ⟨ra,6,none⟩ (.slice A9 a7.length c9)=W/\Hid (iP W ra 79 #[(.slice lA ll.length lc),k9,o9,t9,z9,s9,.slice A9 a7.length c9])/\Hid (Rd B q A c L en eA ec el W dd)/\ik (iz q w0) (iz q W)/\ik (old n1 aq) (old n1 W)/\W.heap.size=aq.heap.size:=⟨_,rfl,zi [.int .i64 k9,.int .i64 o9,.int .i64 t9,.int .i64 z9,.string s9,.slice A9 a7.length c9] 1 aq [(.slice lA ll.length lc)] [.int .i64 0,.int .i64 0,.int .i64 0,.int .i64 0,.string ⟨#[]⟩,.slice none 0 0] rfl rfl a6,Bs a' iu [.int .i64 k9,.int .i64 o9,.int .i64 t9,.int .i64 z9,.string s9,.slice A9 a7.length c9] 1 aq cA,Bz iu [.int .i64 k9,.int .i64 o9,.int .i64 t9,.int .i64 z9,.string s9,.slice A9 a7.length c9] 1 aq du,yZ bl [.int .i64 k9,.int .i64 o9,.int .i64 t9,.int .i64 z9,.string s9,.slice A9 a7.length c9] 1 aq,xz ra [.int .i64 k9,.int .i64 o9,.int .i64 t9,.int .i64 z9,.string s9,.slice A9 a7.length c9] 1 aq⟩;have bS:=bT;have a8:=iy (LF.below lD aO.below);have DZ:=iy (D9.below aO.below);clear LF R D9;have LF:=a8;have R:=I;clear a8 I;go_wp2_with fail;try rw[bc]
   try rw[<- bN]
   clear bN bc m0 m1 m2 m3 m4 m5 m6 ml ak aj ai ah ag af ae a6;go_wp2_with fail;refine td (jH dH.out [⟨#[59]⟩] iI) J dt bS ?_;clear J;intro cS e1 e8 c3 c' dG J bR dT aU cu;subst c';have I:=iy (kq R a' aU);have a8:=iy (LF.below lD (kj (q:=q) a_ aU).below);clear R LF;have R:=I;have LF:=a8;clear I a8;have DY:=DZ.below (kj (q:=q) a_ aU).below;have bD:Hid (X=some (⟨ll,bj⟩,L.drop c3)):=J;have a6:=R.out;obtain⟨m0,m1,m2,m3,m4,m5,m6⟩:=wv a6;obtain⟨ak,aj,ai,ah,ag,af,ae⟩:=yG a6;have ad:=lM (HB.after (k:=cu)) aQ;obtain⟨cR,cQ,cP,cO,cN,cM,cL⟩:=wv ad;obtain⟨bL,bK,bJ,bI,bH,bG,bF⟩:=yG ad;obtain⟨W,aS,EW,bA,aW,oW,sW⟩:=tR (zs:=[(),JX,JX,JX,JX,.string ⟨#[]⟩,()]) ad dG aQ (ij (im aw0) cu) (lI hr) iu [(lA,ll.length,lc),k9,o9,t9,z9,s9,(A9,a7.length,c9)] rfl;have hW:(((((((cS.setCell r (.slice lA ll.length lc)).setCell (r,1) (.int .i64 k9)).setCell (r,2) (.int .i64 o9)).setCell (r,3) (.int .i64 t9)).setCell (r,4) (.int .i64 z9)).setCell (r,5) (.string s9)).setCell (r,6) (.slice A9 a7.length c9))=W:=aS;clear aS;have bw:=iy hW;clear hW;go_wp2_with fail;try rw[bw.out]
   obtain⟨u0,u1,u2,u3,u4,u5,u6⟩:=wv EW;exact jR (v:=.agg #[(lA,ll.length,lc),k9,o9,t9,z9,s9,(A9,a7.length,c9)]) (by simp[results,results118,go_sem,u0,u1,u2,u3,u4,u5,u6]) rfl (lN (x:=⟨ll,bj⟩) (show X=some (⟨ll,bj⟩,L.drop c3) from bD) aW (⟨⟨⟨lA,lc,ll⟩,.mk k9 o9 t9 z9 s9 A9 c9 a7⟩,by (show En.mk ll _=_;rw[au.out]),rfl,⟨(LF.below lD (oW n1 iu).below).sub sj (iS iu W),(DY.below (oW n1 iu).below).sub (iS iu W),av.1,av.2⟩⟩) bA rfl (bR))
  clear J;intro bM b4 J al bx aJ dQ;rw[tail_drop]at J;have I:=iy (kq R a' al);have ab:=iy (OL.iv lS a_ (lp a_) al);clear R OL;have R:=I;have OL:=ab;clear I ab;have aa:n1<=bM.heap.size:=by have h2:=lZ al;omega
  go_wp2;go_roundw
  case rel=>exact⟨i9+1,m,v2,_,aJ,aC,J,b4,bx,aa,R,OL⟩
  case measure=>(rw[je b4.out.fields.2.2.1,d1.out];have h1:=ck;have h2:=b4.le;omega)
 obtain rfl:m=0:=by have:=aD.out;omega
 have dP:Hid (X=none):=J;obtain⟨a,er,rfl,he⟩:=hf;unfold oD;go_wp2;exact⟨rfl,kf dP (ij (im aw0) bz) (jz a er he)⟩
end
section
variable {α:Type} {n0:Nat} {T:TypeId} {sz:Nat} {cells:α->zO} {ok:yM->α->Prop} {S0:Nat->Bool} {w w':yM} {v vB vB':Value} {l:List α}
theorem kZ.other (h:kZ n0 T sz cells ok (iD S0 vB) w v l) (hm:pH ok) (g:w.grownBy w' vB.ownBlock) (hb:vB'.ownBlock=vB.ownBlock\/vB'.ownBlock=some w) (hne:∀b,v.ownBlock=some b->vB.ownBlock≠some b):kZ n0 T sz cells ok (iD S0 vB') w' v l:=by
 refine⟨⟨h.own.1,?_⟩,fun y j=>?_⟩
 ·rcases h.own.2 with U | ⟨gg,cap,cur,e,hbb,hgg,rest⟩
  ·exact .inl U
  refine .inr ⟨gg,cap,cur,e,hbb,?_,rest⟩;have o:gg<w:=by
   rcases qa gg w with J | J
   ·exact J
   rw[FF J]at hgg;cases hgg
  rw[g.block gg o (fun R=>hne gg (by rw[e];rfl) R.symm)];exact hgg
 have j:=h.inn y j;rcases hb with hb | hb
 ·have e:iD (iD S0 vB') v=iD (iD S0 vB) v:=by unfold iD;rw[hb]
  rw[e];exact hm.below _ _ _ (xo g fun b hb=>by unfold iD;rw[hb];simp).below j
 have a:ik (kK (iD (iD S0 vB) v) w) (kK (fun b=>iD (iD S0 vB) v b||iD (iD S0 vB') v b) w'):=by
  refine vx g.os g.tape g.output g.size fun b I=>⟨?_,fun e=>g.block b I fun R=>?_⟩
  ·have hne:(vB'.ownBlock==some b)=false:=by
    rw[hb];simp;omega
   unfold iD;rw[hne];cases S0 b<;>cases (vB.ownBlock==some b)<;>cases (v.ownBlock==some b)<;>rfl
  unfold iD at e;rw[<- R]at e;simp at e
 exact hm.sub _ _ _ (rp (fun b hb=>by rw[hb,Bool.or_true]) w') (hm.below _ _ _ a.below j)
end
def kx (y:ma):zO:=jj y.cond++[.int .i64 y.dst,.bool y.res]
structure vo (w:yM) (y:ma):Prop where
 co:RX w y.cond
 tb:FY y.cond
 sz:y.cond.size<=70000
theorem jF:pH vo:=⟨fun W W' y hb h=>⟨h.co.below hb,h.tb,h.sz⟩,fun W w y k h=>⟨h.co.sub k,h.tb,h.sz⟩⟩
def qg (y:yB×Nat):zO:=[y.1,(y.2:Nat)]
def GF (w:yM) (y:yB×Nat):Prop:=y.1.size<=65536/\y.2<=65536
theorem pG:pH GF:=⟨fun _ _ _ _ h=>h,fun _ _ _ _ h=>h⟩
theorem ME:(prog.info? 223).map (fun i=>(i.zero,i.size,i.bytes))=some (some (.agg #[JX,JX,JX,JX,.string ⟨#[]⟩,(),JX,false]),8,88):=by kernel_rfl
theorem Nl:(prog.info? 241).map (fun i=>(i.zero,i.size,i.bytes))=some (some (.agg #[.string ⟨#[]⟩,JX]),2,24):=by kernel_rfl
def VT (n:Nat) (x:List wo) (w:yM) (v:Value):Prop:=∃(vA vB:Value) (trs:List ma) (gls:List (yB×Nat)),v=.tuple #[vA,vB] /\
 kZ n 223 8 kx vo (iD (fun b=>decide (b<n)) vB) w vA trs/\kZ n 241 2 qg GF (iD (fun b=>decide (b<n)) vA) w vB gls /\
 (∀b,vA.ownBlock=some b->vB.ownBlock≠some b)/\trs.length=gls/\trs.length<=4/\x=List.zipWith (fun (t:ma) (g:yB×Nat)=>wo.mk t.cond.er t.res g.1) trs gls/\∀t∈trs,t.dst=0
section
variable {B:yM} {q:Nat} {A:zA} {c:Nat} {L:List Tk} {en:Int} {eA:zA} {ec:Nat} {el:List iW} {w w0 w1:yM} {i:Nat}
def P2 (el:List iW) (k:Nat) (wd:yB):Nat->List wo->List Tk->Option (List wo×List Tk)
 |0,_,_=>none
 |m+1,l,ts=>(jg el k ts).bind fun (x,r)=>(if jq ⟨#[99,111,110,116,105,110,117,101]⟩ r then some (true,r.tail) else (iF [⟨#[116,104,101,110]⟩] r).bind fun (_,r)=>some (false,r)).bind fun (b,r)=>(pV r).bind fun (s,r)=>(iF [⟨#[59]⟩] r).bind fun (_,r)=>pD el k wd m (l++[⟨x,b,s⟩]) r
theorem Kn (el:List iW) (k:Nat) (wd:yB) (m:Nat) (l:List wo) (ts:List Tk):pD el k wd m l ts=if jq wd ts then P2 el k wd m l ts.tail else some (l,ts):=by
 cases m with
 |zero=>rw[pD];rfl
 |succ m=>rw[pD];rfl
theorem Hr {α:Type} {ok:yM->α->Prop} {S0:Nat->Bool} {w w':yM} {v vB vB':Value} {y:α} (hm:pH ok) (hy:ok (kK (iD (iD S0 vB) v) w) y) (g:w.grownBy w' vB.ownBlock) (hb:vB'.ownBlock=vB.ownBlock\/vB'.ownBlock=some w):ok (kK (iD (iD S0 vB') v) w') y:=by
 rcases hb with hb | hb
 ·have e:iD (iD S0 vB') v=iD (iD S0 vB) v:=by unfold iD;rw[hb]
  rw[e];exact hm.below _ _ _ (xo g fun b hb=>by unfold iD;rw[hb];simp).below hy
 have a:ik (kK (iD (iD S0 vB) v) w) (kK (fun b=>iD (iD S0 vB) v b||iD (iD S0 vB') v b) w'):=by
  refine vx g.os g.tape g.output g.size fun b o=>⟨?_,fun e=>g.block b o fun I=>?_⟩
  ·have j:(vB'.ownBlock==some b)=false:=by
    rw[hb];simp;omega
   unfold iD;rw[j];cases S0 b<;>cases (vB.ownBlock==some b)<;>cases (v.ownBlock==some b)<;>rfl
  unfold iD at e;rw[<- I]at e;simp at e
 exact hm.sub _ _ _ (rp (fun b hb=>by rw[hb,Bool.or_true]) w') (hm.below _ _ _ a.below hy)
theorem kZ.Sv {α:Type} {n0:Nat} {T:TypeId} {sz:Nat} {cells:α->zO} {ok:yM->α->Prop} {S:Nat->Bool} {w w':yM} {v v':Value} {l:List α} (h:kZ n0 T sz cells ok S w v l) (hm:pH ok) {y:α} (hy:ok (kK (iD S v) w) y)
  (own:w'.ownsRow n0 T sz v' (l+1) (l.flatMap cells++cells y)) (g:w.grownBy w' v.ownBlock) (hb:v'.ownBlock=v.ownBlock\/v'.ownBlock=some w):kZ n0 T sz cells ok S w' v' (l++[y]):=by
 have J:∀z∈l++[y],ok (kK (iD S v) w) z:=fun z j=>by
  rcases ue.1 j with j | j
  ·exact h.inn z j
  simp only[la]at j;subst j;exact hy
 refine⟨by rw[mo,Fa];simpa using own,fun z j=>?_⟩;have j:=J z j;rcases hb with hb | hb
 ·have e:iD S v'=iD S v:=by unfold iD;rw[hb]
  rw[e];exact hm.below _ _ _ (xo g fun b hb=>by unfold iD;rw[hb];simp).below j
 have a:ik (kK (iD S v) w) (kK (fun b=>iD S v b||iD S v' b) w'):=by
  refine vx g.os g.tape g.output g.size fun b I=>⟨?_,fun e=>g.block b I fun R=>?_⟩
  ·have o:(v'.ownBlock==some b)=false:=by
    rw[hb];simp;omega
   unfold iD;rw[o];cases S b<;>simp
  unfold iD at e;rw[<- R]at e;simp at e
 exact hm.sub _ _ _ (rp (fun b hb=>by rw[hb,Bool.or_true]) w') (hm.below _ _ _ a.below j)
theorem vT {k:Nat} (wd:yB) (htag:∀u∈el,u.tags.l.length<=16) (hel:el.length<=1000) (h:Rd B q A c L en eA ec el w i) (hk:20*(L-i)+10<=k):Calls prog 154 #[.pointer q,wd] w (pk B q A c L en eA ec el w i (pD el k wd 4 [] (L.drop i)) (VT w)):=by
 obtain⟨X,hX⟩:=jt (pD el k wd 4 [] (L.drop i));rw[hX];obtain⟨i0,cn⟩:=jt i;rw[cn]at hX h hk⊢;clear cn;have HX:=iB hX.symm;have cD:Hid (i0<=i0):=js _;clear hX;have hq:=h.blk.lt;have cJ:=h.base;obtain⟨w0,rfl⟩:∃v,v=w:=⟨_,rfl⟩;have aw0:ik w0 w0:=iq _;have R0:=iB h;have a0:ik (iz q w0) (iz q w0):=iq _;have cV:q<w0:=by omega
 have cW:B.heap.size<=w0:=by omega
 clear h;go_in;go_wp2_with fail;obtain⟨n1,bg⟩:=jt w0.heap.size;have R:q<n1:=by omega
 have ah:n1<=w0:=lI bg.symm;have bh:B<=n1:=by omega
 have bf:w0<=n1:=lI bg;go_loopw [6,7] (fun v6 v7 wr=>∃(i' m:Nat) (o:List ma) (I:List (yB×Nat)),Hid (i0<=i')/\Hid (o+m=4)/\Hid (o.length=I)/\Hid (X=pD el k wd m (List.zipWith (fun (t:ma) (g:yB×Nat)=>wo.mk t.cond.er t.res g.1) o I) (L.drop i'))/\Hid (Rd B q A c L en eA ec el wr i')/\ik (iz q w0) (iz q wr)/\n1<=wr.heap.size/\Hid (kZ n1 223 8 kx vo (iD (fun b=>decide (b<n1)) v7) wr v6 o)/\Hid (kZ n1 241 2 qg GF (iD (fun b=>decide (b<n1)) v6) wr v7 I)/\Hid (∀b,v6.ownBlock=some b->v7.ownBlock≠some b)/\Hid (∀t∈o,t.dst=0)) (fun _ _ wr=>L.length-lO wr q 2)
 ·exact⟨i0,4,[],[],cD,iB rfl,iB rfl,HX,R0,a0,ah,vZ,vZ,iB (fun b U=>by cases U),iB (fun t ht=>by cases ht)⟩
 case round=>
 clear HX R0 ah;obtain⟨i2,m,o,I,bm,ad,aC,HX,c_,cQ,ah,OA,OB,aZ,hz⟩:=hrel;have d1:Hid (lO wr q 2=i2):=iB (je c_.out.fields.2.2.1);obtain⟨A6,c6,cG,_,_⟩:=ji OA.out.own;subst cG;obtain⟨A7,c7,cF,_,_⟩:=ji OB.out.own;subst cF;have HC:=iB (nK c_.out wd);obtain⟨zk,bI⟩:=jt (jq wd (L.drop i2));rw[bI]at HC;have HZ:=iB bI;clear bI;go_wp2_with fail;refine HC.out.mono ?_;clear HC;rintro e aK ⟨rfl,aN⟩;have c5:=iB (c_.out.after aN);have b':ik (iz q wr) (iz q aK):=im (q:=q) aN;have cv:=ij cQ b';have bl:=bm;have ah:n1<=aK:=jW ah aN.below.size;clear aN;have a7:Hid (kZ n1 223 8 kx vo (iD (fun b=>decide (b<n1)) (.slice A7 I c7)) aK (.slice A6 o c6) o):=OA.out.iv jF R (by unfold iD;simp[R]) b';have a6:Hid (kZ n1 241 2 qg GF (iD (fun b=>decide (b<n1)) (.slice A6 o c6)) aK (.slice A7 I c7) I):=OB.out.iv pG R (by unfold iD;simp[R]) b';clear OA OB;have OA:=a7;have OB:=a6;clear a7 a6;cases zk
 ·skip
  have cT:Hid (X=some (List.zipWith (fun (t:ma) (g:yB×Nat)=>wo.mk t.cond.er t.res g.1) o I,L.drop i2)):=by (show _=_;rw[HX.out,Kn,HZ.out];rfl)
  go_wp2;exact jR (v:=.tuple #[(.slice A6 o c6),(.slice A7 I c7)]) (by simp[results,results154,go_sem]) rfl (lN (x:=List.zipWith (fun (t:ma) (g:yB×Nat)=>wo.mk t.cond.er t.res g.1) o I) cT.out (ij (im aw0) cv) ⟨(.slice A6 o c6),(.slice A7 I c7),o,I,rfl,by rw[bg];exact OA.out,by rw[bg];exact OB.out,aZ.out,aC.out,by have:=ad.out;omega,rfl,hz.out⟩ c5.out rfl bl.out)
 have c':Hid (X=P2 el k wd m (List.zipWith (fun (t:ma) (g:yB×Nat)=>wo.mk t.cond.er t.res g.1) o I) (L.drop (i2+1))):=by (show _=_;rw[HX.out,Kn,HZ.out,iG rfl,tail_drop])
 clear HX;have cf:=pI HZ.out;have HC:=iB (mF c5.out (o:Int) 4);go_wp2_with fail;refine HC.out.mono ?_;clear HC;rintro e aH ⟨aN,hE⟩;have c4:=iB (c5.out.after aN);have b_:ik (iz q aK) (iz q aH):=im (q:=q) aN;have cu:=ij cv b_;have ck:=bl;have ah:n1<=aH:=jW ah aN.below.size;clear aN;have a7:Hid (kZ n1 223 8 kx vo (iD (fun b=>decide (b<n1)) (.slice A7 I c7)) aH (.slice A6 o c6) o):=OA.out.iv jF R (by unfold iD;simp[R]) b_;have a6:Hid (kZ n1 241 2 qg GF (iD (fun b=>decide (b<n1)) (.slice A6 o c6)) aH (.slice A7 I c7) I):=OB.out.iv pG R (by unfold iD;simp[R]) b_;clear OA OB;have OA:=a7;have OB:=a6;clear a7 a6;rcases hE with⟨hlt4,rfl⟩ | ⟨hge4,hf⟩
 ·skip
  obtain⟨m,rfl⟩:∃j,m=j+1:=⟨m-1,by have:=ad.out;omega⟩;have HX:Hid (X=(jg el k (L.drop (i2+1))).bind fun (x,r)=>(if jq ⟨#[99,111,110,116,105,110,117,101]⟩ r then some (true,r.tail) else (iF [⟨#[116,104,101,110]⟩] r).bind fun (_,r)=>some (false,r)).bind fun (b,r)=>(pV r).bind fun (s,r)=>(iF [⟨#[59]⟩] r).bind fun (_,r)=>pD el k wd m (List.zipWith (fun (t:ma) (g:yB×Nat)=>wo.mk t.cond.er t.res g.1) o I++[⟨x,b,s⟩]) r):=c'.out;clear c';obtain⟨c0,c1,b7,c3,f2,l0⟩:=c4.out.fields;have cY:=c4.out.few;obtain⟨a8,bp,cx,cP,bt,cd⟩:∃z,aH.setCell (q,2) (.int .i64 ((i2:Int)+1))=z/\Hid (Rd B q A c L en eA ec el z (i2+1))/\ik (iz q w0) (iz q z)/\ik (iz q aH) (iz q z)/\n1<=z:=⟨_,rfl,c4.out.move (j:=i2+1) cf,by rw[jJ];exact cu,by rw[jJ];exact iq _,by rw[jc];exact ah⟩;replace ah:=cd;clear cd;have cj:Hid (i0<=i2+1):=iB (wc ck.out);go_wp2_with fail;try rw[bp]
  clear bp c0 c1 b7 c3 f2 l0;have a7:Hid (kZ n1 223 8 kx vo (iD (fun b=>decide (b<n1)) (.slice A7 I c7)) a8 (.slice A6 o c6) o):=OA.out.iv jF R (by unfold iD;simp[R]) bt;have a6:Hid (kZ n1 241 2 qg GF (iD (fun b=>decide (b<n1)) (.slice A6 o c6)) a8 (.slice A7 I c7) I):=OB.out.iv pG R (by unfold iD;simp[R]) bt;clear OA OB;have OA:=a7;have OB:=a6;clear a7 a6;go_wp2_with fail;refine BC (wA htag hel k cx.out (by have:=bm.out;omega)) HX cP cj ?_;clear HX;intro cc aA da ai cq cm cw HX ch bq bs cO;obtain⟨⟨k9,o9,t9,z9,s9,A9,c9,J⟩,aU,rfl,D9⟩:=cm;rw[JQ k9 o9 t9 z9 s9 A9 c9 J];have bj:=iB (C' htag hel aU cq (by rw[nY];have:=cw.out.few;omega));have aU:=iB aU;have D9:=iB D9;obtain⟨b8,bk⟩:=jt cc.heap.size;have cp:a8<=b8:=by have h1:=lZ bs;omega
  have ay:b8≠q:=by omega
  obtain⟨cA,bo,cR,cN,aP,B8,db⟩:∃z,cc.alloc (.cells #[k9,o9,t9,z9,s9,(A9,J,c9),JX,false] 223)=z/\Hid (Rd B q A c L en eA ec el z ai)/\ik (iz q w0) (iz q z)/\ik (iz q a8) (iz q z)/\Hid (iP z b8 223 #[k9,o9,t9,z9,s9,(A9,J,c9),JX,false])/\Hid (b8+1=z):=⟨_,rfl,cw.out.after zc,ij cO (im zc),ij bs (im zc),by rw[<- bk];exact jC ..,by (show _=_;rw[iH,bk])⟩;have aV:=iB bo;clear bo;have cg:=ch;have br:Hid (X=(if jq ⟨#[99,111,110,116,105,110,117,101]⟩ (L.drop ai) then some (true,(L.drop ai).tail) else (iF [⟨#[116,104,101,110]⟩] (L.drop ai)).bind fun (_,r)=>some (false,r)).bind fun (b,r)=>(pV r).bind fun (s,r)=>(iF [⟨#[59]⟩] r).bind fun (_,r)=>pD el k wd m (List.zipWith (fun (t:ma) (g:yB×Nat)=>wo.mk t.cond.er t.res g.1) o I++[⟨aA,b,s⟩]) r):=HX.out;have HX:Hid (X=if jq ⟨#[99,111,110,116,105,110,117,101]⟩ (L.drop ai) then (pV (L.drop ai).tail).bind fun (s,r)=>(iF [⟨#[59]⟩] r).bind fun (_,r)=>pD el k wd m (List.zipWith (fun (t:ma) (g:yB×Nat)=>wo.mk t.cond.er t.res g.1) o I++[⟨aA,true,s⟩]) r else (iF [⟨#[116,104,101,110]⟩] (L.drop ai)).bind fun (_,r)=>(pV r).bind fun (s,r)=>(iF [⟨#[59]⟩] r).bind fun (_,r)=>pD el k wd m (List.zipWith (fun (t:ma) (g:yB×Nat)=>wo.mk t.cond.er t.res g.1) o I++[⟨aA,false,s⟩]) r):=by
   show _=_
   rw[br.out];by_cases hc:jq ⟨#[99,111,110,116,105,110,117,101]⟩ (L.drop ai)=true
   ·rw[iG hc,iG hc];rfl
   rw[iV hc,iV hc];cases iF [⟨#[116,104,101,110]⟩] (L.drop ai)<;>rfl
  clear br;go_wp2_with fail;try rw[bk]
  try rw[aV.out]
  replace D9:Hid (RX (nw b8 a8 cA) (.mk k9 o9 t9 z9 s9 A9 c9 J)):=D9.out.below (by rw[<- aV.out];exact (FE _ bk).below);have aL:q<a8:=cx.out.blk.lt;have aJ:∀b,((.slice A6 o c6):Value).ownBlock=some b->b<a8.heap.size:=fun b U=>(OA.out.own.lt b U).2
  have aI:∀b,((.slice A7 I c7):Value).ownBlock=some b->b<a8.heap.size:=fun b U=>(OB.out.own.lt b U).2
  go_wp2_with fail;refine Dx ⟨#[99,111,110,116,105,110,117,101]⟩ cR.out HX cN cg ?_ ?_
  ·clear HX;intro aG c2 HX aj bV aT
   replace aP:=ij aP aj;replace B8:Hid (iP aG b8 223 #[k9,o9,t9,z9,s9,(A9,J,c9),JX,false]):=iB (kq B8.out ay aj);replace D9:Hid (RX (nw b8 a8 aG) (.mk k9 o9 t9 z9 s9 A9 c9 J)):=D9.out.below (tS (q:=q) aL aj).below;go_wp2_with fail;refine td (jH c2.out [⟨#[116,104,101,110]⟩] (by decide)) HX bV aT ?_;clear HX;intro bw d_ d' cE cl bZ HX aS cX b9 bU;subst cl;replace aP:=ij aP b9;replace B8:Hid (iP bw b8 223 #[k9,o9,t9,z9,s9,(A9,J,c9),JX,false]):=iB (kq B8.out ay b9);replace D9:Hid (RX (nw b8 a8 bw) (.mk k9 o9 t9 z9 s9 A9 c9 J)):=D9.out.below (tS (q:=q) aL b9).below;have HX:Hid (X=(pV (L.drop cE)).bind fun (s,r)=>(iF [⟨#[59]⟩] r).bind fun (_,r)=>pD el k wd m (List.zipWith (fun (t:ma) (g:yB×Nat)=>wo.mk t.cond.er t.res g.1) o I++[⟨aA,false,s⟩]) r):=HX.out;go_wp2_with fail;refine BC (qb bZ.out) HX bU aS ?_;clear HX;intro a1 bu cC i28 b4 aX al HX aR b2 ak bT;obtain⟨rfl,aw⟩:=aX;obtain⟨s,hs⟩:=jt bu;rw[hs]at HX aw⊢;clear hs;have cM:1<=i28:=by have h1:=mm b4;rw[nY,nY]at h1;have:=al.out.le;omega
   have cL:=al.out.few;have bN:i2<i28:=by have h1:=b2;have h2:=bq;omega
   have cK:=al.out.le;replace aP:=ij aP ak;replace B8:Hid (iP a1 b8 223 #[k9,o9,t9,z9,s9,(A9,J,c9),JX,false]):=iB (kq B8.out ay ak);replace D9:Hid (RX (nw b8 a8 a1) (.mk k9 o9 t9 z9 s9 A9 c9 J)):=D9.out.below (tS (q:=q) aL ak).below;have ao:=aP;have aF:=B8.out;have a7:Hid (kZ n1 223 8 kx vo (iD (fun b=>decide (b<n1)) (.slice A7 I c7)) a1 (.slice A6 o c6) o):=OA.out.iv jF R (by unfold iD;simp[R]) ao;have a6:Hid (kZ n1 241 2 qg GF (iD (fun b=>decide (b<n1)) (.slice A6 o c6)) a1 (.slice A7 I c7) I):=OB.out.iv pG R (by unfold iD;simp[R]) ao;clear OA OB;have OA:=a7;have OB:=a6;clear a7 a6;have b6:(i28:Int)-1=((i28-1:Nat):Int):=by omega
   have aM:n1<=a1:=by have h1:=lZ ao;omega
   have b3:b8<a1:=aF.lt;have cI:I.length<=4:=by have:=aC.out;have:=ad.out;omega
   obtain⟨aB,av,ba,bS,ab⟩:∃z,a1.alloc (.cells #[s,((i28-1:Nat):Int)] 241)=z/\Rd B q A c L en eA ec el z i28/\ik (iz q w0) (iz q z)/\ik a1 z:=⟨_,rfl,al.out.after zc,ij bT (im zc),zc⟩;have az:=OA.out.after jF ab;have aa:=OB.out.after pG ab;have bd:iP aB b8 223 #[k9,o9,t9,z9,s9,(A9,J,c9),JX,false]:=mZ (w:=a1) (k:=ab) aF;obtain⟨c0,c1,b7,c3,f2,l0⟩:=al.out.fields;have af:=iB av;clear av;have b5:=iB b6;clear b6;go_wp2_with (at_builtin;rw[b5.out];obtain⟨i0_,hi0_,hz0_,hz1_,hz2_⟩:=info_parts Nl;refine ka (a1.alloc (.cells #[s,((i28-1:Nat):Int)] 241)) rfl (.tmp 35) (.tmp 43) 237 rfl n1 241 i0_ _ 2 _ underlying237 hi0_ hz0_ hz1_ hz2_ rfl (by decide) (.slice A7 I c7) I.length (I.flatMap qg) rfl (by rw[af.out];exact aa.own) _ _ 1 1 [s,((i28-1:Nat):Int)] rfl (ki (w:=a1) rfl #[s,((i28-1:Nat):Int)] 241 _ rfl 1 2 rfl) (by intro u hu;simp only[la]at hu;rcases hu with rfl | rfl<;>rfl) (by unfold maxLen;omega) (by omega) (by rw[iH];omega) ?_;rw[af.out];intro v5 w30 own5 hg5 hb5;clear hi0_ hz0_ hz1_ hz2_;have own5:=iB own5;have hg5:=iB hg5;have hb5:=iB hb5)
   obtain⟨A8,c8,bK,_,_⟩:=ji own5.out;have an:Hid (kZ n1 241 2 qg GF (iD (fun b=>decide (b<n1)) (.slice A6 o c6)) w30 v5 (I++[((s,i28-1):yB×Nat)])):=aa.add (m:=a1.heap.size) pG (show GF _ ((s,i28-1):yB×Nat) from⟨aw,by show i28-1<=65536;omega⟩) (fun b U=>by (unfold iD at U;simp only[uG,decide_eq_true_eq,beq_iff_eq]at U;rcases U with U | U;omega;have:=aJ b U;omega)) (fun b U=>by have:=aI b U;omega) own5.out hg5.out hb5.out;have aq:Hid (kZ n1 223 8 kx vo (iD (fun b=>decide (b<n1)) v5) w30 (.slice A6 o c6) o):=az.other jF hg5.out hb5.out aZ.out;have bY:=iB (ba.grown aa.own hg5.out R bh);have bR:=kF bS aa.own hg5.out R bf;have aQ:=aR;have B8:Hid (iP w30 b8 223 #[k9,o9,t9,z9,s9,(A9,J,c9),JX,false]):=iB (oY bd hg5.out (fun e=>by have:=aI b8 e.symm;omega));have bc:vo (kK (iD (iD (fun b=>decide (b<n1)) (.slice A7 I c7)) (.slice A6 o c6)) aB) (ma.mk (.mk k9 o9 t9 z9 s9 A9 c9 J) 0 false):=jF.sub _ _ _ (nO aB (n:=a8.heap.size) (fun b U=>by (unfold iD at U;simp only[uG,decide_eq_true_eq,beq_iff_eq]at U;rcases U with (U | U) | U;have:=ah;omega;exact aI b U;exact aJ b U))) ⟨(D9.out.sub zV).below (jK ab).below,bj.out.1,bj.out.2⟩;have DM:Hid (vo (kK (iD (iD (fun b=>decide (b<n1)) v5) (.slice A6 o c6)) w30) (ma.mk (.mk k9 o9 t9 z9 s9 A9 c9 J) 0 false)):=iB (Hr jF bc hg5.out hb5.out);clear bc D9;have ax:Hid (∀b,((.slice A6 o c6):Value).ownBlock=some b->v5.ownBlock≠some b):=iB (fun b U=>by rcases hb5.out with h1 | h1;rw[h1];exact aZ.out b U;rw[h1];intro e;injection e with e;have:=aJ b U;have:=ab.below.size;omega)
   have bM:∀b,v5.ownBlock=some b->b<w30.heap.size:=fun b U=>(an.out.own.lt b U).2
   have bz:n1<=w30:=jW (jW aM ab.below.size) hg5.out.size;have cr:a8.heap.size<=w30:=by have h1:=lZ ao;exact jW (jW h1 ab.below.size) hg5.out.size
   subst bK;clear OA OB;have OA:=aq;have OB:=an;clear aq an own5 hg5 hb5 az aa bd aF ba af c0 c1 b7 c3 f2 l0 aM b3;have HX:Hid (X=(iF [⟨#[59]⟩] (L.drop i28)).bind fun (_,r)=>pD el k wd m (List.zipWith (fun (t:ma) (g:yB×Nat)=>wo.mk t.cond.er t.res g.1) o I++[⟨aA,false,s⟩]) r):=HX.out;go_wp2_with fail;refine BC (jH bY.out [⟨#[59]⟩] (by decide)) HX bR aQ ?_;clear HX;intro a_ cz cB i31 cZ aW bX HX aO b1 a' bQ;subst aW;have a7:Hid (kZ n1 223 8 kx vo (iD (fun b=>decide (b<n1)) (.slice A8 (I+1) c8)) a_ (.slice A6 o c6) o):=OA.out.iv jF R (by unfold iD;simp[R]) a';have a6:Hid (kZ n1 241 2 qg GF (iD (fun b=>decide (b<n1)) (.slice A6 o c6)) a_ (.slice A8 (I+1) c8) (I++[((s,i28-1):yB×Nat)])):=OB.out.iv pG R (by unfold iD;simp[R]) a';clear OA OB;have OA:=a7;have OB:=a6;clear a7 a6;have ar:iP a_ b8 223 #[k9,o9,t9,z9,s9,(A9,J,c9),JX,false]:=kq B8.out ay a';have ca:vo (kK (iD (iD (fun b=>decide (b<n1)) (.slice A8 (I+1) c8)) (.slice A6 o c6)) a_) (ma.mk (.mk k9 o9 t9 z9 s9 A9 c9 J) 0 false):=jF.below _ _ _ (j_ (q:=q) (by unfold iD;simp[R]) a').below DM.out;clear DM B8;have bL:w30.heap.size<=a_:=by have h1:=lZ a';exact h1
   obtain⟨cb,au,bW,bP,ag⟩:∃z,a_.alloc (.cells #[k9,o9,t9,z9,s9,(A9,J,c9),JX,false] 223)=z/\Rd B q A c L en eA ec el z i31/\ik (iz q w0) (iz q z)/\ik a_ z:=⟨_,rfl,bX.out.after zc,ij bQ (im zc),zc⟩;have ae:=OA.out.after jF ag;have bb:=OB.out.after pG ag;have DT:vo (kK (iD (iD (fun b=>decide (b<n1)) (.slice A8 (I+1) c8)) (.slice A6 o c6)) cb) (ma.mk (.mk k9 o9 t9 z9 s9 A9 c9 J) 0 false):=jF.below _ _ _ (oS ag).below ca;have cH:o.length<=4:=by have:=ad.out;omega
   have af:=iB au;clear au;obtain⟨m0,m1,m2,m3,m4,m5,m6,m7⟩:=sX ar;have ml:=jo ar;obtain⟨bH,bG,bF,bE,bD,bC,bB,bA⟩:=tC ar;go_wp2_with (at_builtin;obtain⟨i0_,hi0_,hz0_,hz1_,hz2_⟩:=info_parts ME;refine ka (a_.alloc (.cells #[k9,o9,t9,z9,s9,(A9,J,c9),JX,false] 223)) rfl (.tmp 48) (.tmp 50) 182 rfl n1 223 i0_ _ 8 _ underlying182 hi0_ hz0_ hz1_ hz2_ rfl (by decide) (.slice A6 o c6) o.length (o.flatMap kx) rfl (by rw[af.out];exact ae.own) _ _ 1 1 [k9,o9,t9,z9,s9,(A9,J,c9),JX,false] rfl (ki (w:=a_) rfl #[k9,o9,t9,z9,s9,(A9,J,c9),JX,false] 223 _ rfl 1 8 rfl) (by intro u hu;simp only[la]at hu;rcases hu with rfl | rfl | rfl | rfl | rfl | rfl | rfl | rfl<;>rfl) (by unfold maxLen;omega) (by omega) (by rw[iH];omega) ?_;rw[af.out];intro v6 w33 own5 hg5 hb5;clear hi0_ hz0_ hz1_ hz2_;have own5:=iB own5;have hg5:=iB hg5;have hb5:=iB hb5)
   have aq:Hid (kZ n1 223 8 kx vo (iD (fun b=>decide (b<n1)) (.slice A8 (I+1) c8)) w33 v6 (o++[(ma.mk (.mk k9 o9 t9 z9 s9 A9 c9 J) 0 false)])):=ae.Sv jF DT own5.out hg5.out hb5.out;have an:Hid (kZ n1 241 2 qg GF (iD (fun b=>decide (b<n1)) v6) w33 (.slice A8 (I+1) c8) (I++[((s,i28-1):yB×Nat)])):=bb.other pG hg5.out hb5.out (fun b U e=>ax.out b e U);have aE:=iB (bW.grown ae.own hg5.out R bh);have bO:=kF bP ae.own hg5.out R bf;have aY:Hid (∀b,v6.ownBlock=some b->((.slice A8 (I+1) c8):Value).ownBlock≠some b):=iB (fun b U=>by rcases hb5.out with h1 | h1;rw[h1]at U;exact ax.out b U;rw[h1]at U;injection U with U;intro e;have h2:=bM b e;have h3:=ag.below.size;omega);have bx:n1<=w33:=jW (jW (jW bz bL) ag.below.size) hg5.out.size;have aD:Hid ((o++[(ma.mk (.mk k9 o9 t9 z9 s9 A9 c9 J) 0 false)]).length+m=4):=by (show _=_;rw[mo];have:=ad.out;simp;omega)
   have b0:Hid ((o++[(ma.mk (.mk k9 o9 t9 z9 s9 A9 c9 J) 0 false)]).length=(I++[((s,i28-1):yB×Nat)]).length):=by (show _=_;rw[mo,mo,aC.out];rfl)
   have bJ:Hid (∀t∈(o++[(ma.mk (.mk k9 o9 t9 z9 s9 A9 c9 J) 0 false)]),t.dst=0):=iB (fun t ht=>by rcases ue.1 ht with ht | ht;exact hz.out t ht;simp only[la]at ht;subst ht;rfl);have HX:Hid (X=pD el k wd m (List.zipWith (fun (t:ma) (g:yB×Nat)=>wo.mk t.cond.er t.res g.1) (o++[(ma.mk (.mk k9 o9 t9 z9 s9 A9 c9 J) 0 false)]) (I++[((s,i28-1):yB×Nat)])) (L.drop i31)):=by (show _=_;rw[List.zipWith_append aC.out];show X=pD el k wd m (List.zipWith (fun (t:ma) (g:yB×Nat)=>wo.mk t.cond.er t.res g.1) o I++[⟨(.mk k9 o9 t9 z9 s9 A9 c9 J:Tx).er,false,s⟩]) (L.drop i31);rw[aU.out];exact HX.out)
   have hI:i2<i31:=by have h1:=b1;have h2:=bN;omega
   exact⟨⟨i31,m,(o++[(ma.mk (.mk k9 o9 t9 z9 s9 A9 c9 J) 0 false)]),(I++[((s,i28-1):yB×Nat)]),aO,aD,b0,HX,aE,bO,bx,aq,an,aY,bJ⟩,by (rw[je aE.out.fields.2.2.1,d1.out];have:=aE.out.le;omega)⟩
  clear HX;intro aG c2 HX aj bV aT cU;rw[tail_drop]at HX;replace aP:=ij aP aj;replace B8:Hid (iP aG b8 223 #[k9,o9,t9,z9,s9,(A9,J,c9),JX,false]):=iB (kq B8.out ay aj);replace D9:Hid (RX (nw b8 a8 aG) (.mk k9 o9 t9 z9 s9 A9 c9 J)):=D9.out.below (tS (q:=q) aL aj).below;have be:=B8.out;obtain⟨m0,m1,m2,m3,m4,m5,m6,m7⟩:=sX be;have ml:=jo be;obtain⟨bH,bG,bF,bE,bD,bC,bB,bA⟩:=tC be;obtain⟨bw,bn,bZ,bU,ct,ar,cy⟩:∃z,aG.setCell (b8,7) (.bool true)=z/\Hid (Rd B q A c L en eA ec el z (ai+1))/\ik (iz q w0) (iz q z)/\ik (iz q a8) (iz q z)/\Hid (iP z b8 223 #[k9,o9,t9,z9,s9,(A9,J,c9),JX,true])/\Hid (RX (nw b8 a8 z) (.mk k9 o9 t9 z9 s9 A9 c9 J)):=⟨_,rfl,c2.out.set ay (by omega) 7 _,iJ (k:=ko (by omega)) (h:=bV) _ _,iJ (k:=ko cp) (h:=aP) _ _,be.jx 7 (.bool true),D9.out.below (yo _ 7 _).below⟩;have aS:=aT;clear aP B8 D9;have aP:=ct;have B8:=ar;have D9:=cy;clear ct ar cy;go_wp2_with fail;try rw[bn]
  clear bn be m0 m1 m2 m3 m4 m5 m6 m7 ml bH bG bF bE bD bC bB bA;have HX:Hid (X=(pV (L.drop (ai+1))).bind fun (s,r)=>(iF [⟨#[59]⟩] r).bind fun (_,r)=>pD el k wd m (List.zipWith (fun (t:ma) (g:yB×Nat)=>wo.mk t.cond.er t.res g.1) o I++[⟨aA,true,s⟩]) r):=HX.out;go_wp2_with fail;refine BC (qb bZ.out) HX bU aS ?_;clear HX;intro a1 bu cC i28 b4 aX al HX aR b2 ak bT;obtain⟨rfl,aw⟩:=aX;obtain⟨s,hs⟩:=jt bu;rw[hs]at HX aw⊢;clear hs;have cM:1<=i28:=by have h1:=mm b4;rw[nY,nY]at h1;have:=al.out.le;omega
  have cL:=al.out.few;have bN:i2<i28:=by have h1:=b2;have h2:=bq;omega
  have cK:=al.out.le;replace aP:=ij aP ak;replace B8:Hid (iP a1 b8 223 #[k9,o9,t9,z9,s9,(A9,J,c9),JX,true]):=iB (kq B8.out ay ak);replace D9:Hid (RX (nw b8 a8 a1) (.mk k9 o9 t9 z9 s9 A9 c9 J)):=D9.out.below (tS (q:=q) aL ak).below;have ao:=aP;have aF:=B8.out;have a7:Hid (kZ n1 223 8 kx vo (iD (fun b=>decide (b<n1)) (.slice A7 I c7)) a1 (.slice A6 o c6) o):=OA.out.iv jF R (by unfold iD;simp[R]) ao;have a6:Hid (kZ n1 241 2 qg GF (iD (fun b=>decide (b<n1)) (.slice A6 o c6)) a1 (.slice A7 I c7) I):=OB.out.iv pG R (by unfold iD;simp[R]) ao;clear OA OB;have OA:=a7;have OB:=a6;clear a7 a6;have b6:(i28:Int)-1=((i28-1:Nat):Int):=by omega
  have aM:n1<=a1:=by have h1:=lZ ao;omega
  have b3:b8<a1:=aF.lt;have cI:I.length<=4:=by have:=aC.out;have:=ad.out;omega
  obtain⟨aB,av,ba,bS,ab⟩:∃z,a1.alloc (.cells #[s,((i28-1:Nat):Int)] 241)=z/\Rd B q A c L en eA ec el z i28/\ik (iz q w0) (iz q z)/\ik a1 z:=⟨_,rfl,al.out.after zc,ij bT (im zc),zc⟩;have az:=OA.out.after jF ab;have aa:=OB.out.after pG ab;have bd:iP aB b8 223 #[k9,o9,t9,z9,s9,(A9,J,c9),JX,true]:=mZ (w:=a1) (k:=ab) aF;obtain⟨c0,c1,b7,c3,f2,l0⟩:=al.out.fields;have af:=iB av;clear av;have b5:=iB b6;clear b6;go_wp2_with (at_builtin;rw[b5.out];obtain⟨i0_,hi0_,hz0_,hz1_,hz2_⟩:=info_parts Nl;refine ka (a1.alloc (.cells #[s,((i28-1:Nat):Int)] 241)) rfl (.tmp 35) (.tmp 43) 237 rfl n1 241 i0_ _ 2 _ underlying237 hi0_ hz0_ hz1_ hz2_ rfl (by decide) (.slice A7 I c7) I.length (I.flatMap qg) rfl (by rw[af.out];exact aa.own) _ _ 1 1 [s,((i28-1:Nat):Int)] rfl (ki (w:=a1) rfl #[s,((i28-1:Nat):Int)] 241 _ rfl 1 2 rfl) (by intro u hu;simp only[la]at hu;rcases hu with rfl | rfl<;>rfl) (by unfold maxLen;omega) (by omega) (by rw[iH];omega) ?_;rw[af.out];intro v5 w30 own5 hg5 hb5;clear hi0_ hz0_ hz1_ hz2_;have own5:=iB own5;have hg5:=iB hg5;have hb5:=iB hb5)
  obtain⟨A8,c8,bK,_,_⟩:=ji own5.out;have an:Hid (kZ n1 241 2 qg GF (iD (fun b=>decide (b<n1)) (.slice A6 o c6)) w30 v5 (I++[((s,i28-1):yB×Nat)])):=aa.add (m:=a1.heap.size) pG (show GF _ ((s,i28-1):yB×Nat) from⟨aw,by show i28-1<=65536;omega⟩) (fun b U=>by (unfold iD at U;simp only[uG,decide_eq_true_eq,beq_iff_eq]at U;rcases U with U | U;omega;have:=aJ b U;omega)) (fun b U=>by have:=aI b U;omega) own5.out hg5.out hb5.out;have aq:Hid (kZ n1 223 8 kx vo (iD (fun b=>decide (b<n1)) v5) w30 (.slice A6 o c6) o):=az.other jF hg5.out hb5.out aZ.out;have bY:=iB (ba.grown aa.own hg5.out R bh);have bR:=kF bS aa.own hg5.out R bf;have aQ:=aR;have B8:Hid (iP w30 b8 223 #[k9,o9,t9,z9,s9,(A9,J,c9),JX,true]):=iB (oY bd hg5.out (fun e=>by have:=aI b8 e.symm;omega));have bc:vo (kK (iD (iD (fun b=>decide (b<n1)) (.slice A7 I c7)) (.slice A6 o c6)) aB) (ma.mk (.mk k9 o9 t9 z9 s9 A9 c9 J) 0 true):=jF.sub _ _ _ (nO aB (n:=a8.heap.size) (fun b U=>by (unfold iD at U;simp only[uG,decide_eq_true_eq,beq_iff_eq]at U;rcases U with (U | U) | U;have:=ah;omega;exact aI b U;exact aJ b U))) ⟨(D9.out.sub zV).below (jK ab).below,bj.out.1,bj.out.2⟩;have DM:=iy (Hr jF bc hg5.out hb5.out);clear bc D9;have ax:Hid (∀b,((.slice A6 o c6):Value).ownBlock=some b->v5.ownBlock≠some b):=iy (fun b U=>by rcases hb5.out with h1 | h1;rw[h1];exact aZ.out b U;rw[h1];intro e;injection e with e;have:=aJ b U;have:=ab.below.size;omega)
  have bM:∀b,v5.ownBlock=some b->b<w30.heap.size:=fun b U=>(an.out.own.lt b U).2
  have bz:n1<=w30:=jW (jW aM ab.below.size) hg5.out.size;have cr:a8.heap.size<=w30:=by have h1:=lZ ao;exact jW (jW h1 ab.below.size) hg5.out.size
  subst bK;clear OA OB;have OA:=aq;have OB:=an;clear aq an own5 hg5 hb5 az aa bd aF ba af c0 c1 b7 c3 f2 l0 aM b3;have HX:Hid (X=(iF [⟨#[59]⟩] (L.drop i28)).bind fun (_,r)=>pD el k wd m (List.zipWith (fun (t:ma) (g:yB×Nat)=>wo.mk t.cond.er t.res g.1) o I++[⟨aA,true,s⟩]) r):=HX.out;go_wp2_with fail;refine td (jH bY.out [⟨#[59]⟩] iI) HX bR aQ ?_;clear HX;intro a_ cz cB i31 aW bX HX aO b1 a' bQ;subst aW;have a7:Hid (kZ n1 223 8 kx vo (iD (fun b=>decide (b<n1)) (.slice A8 (I+1) c8)) a_ (.slice A6 o c6) o):=OA.out.iv jF R (by unfold iD;simp[R]) a';have a6:Hid (kZ n1 241 2 qg GF (iD (fun b=>decide (b<n1)) (.slice A6 o c6)) a_ (.slice A8 (I+1) c8) (I++[((s,i28-1):yB×Nat)])):=OB.out.iv pG R (by unfold iD;simp[R]) a';clear OA OB;have OA:=a7;have OB:=a6;clear a7 a6;have ar:=kq B8.out ay a';have ca:=jF.below _ _ _ (j_ (q:=q) (by unfold iD;simp[R]) a').below DM.out;clear DM B8;have bL:w30.heap.size<=a_:=by have h1:=lZ a';exact h1
  obtain⟨cb,au,bW,bP,ag⟩:∃z,a_.alloc (.cells #[k9,o9,t9,z9,s9,(A9,J,c9),JX,true] 223)=z/\Rd B q A c L en eA ec el z i31/\ik (iz q w0) (iz q z)/\ik a_ z:=⟨_,rfl,bX.out.after iR,ij bQ (im iR),iR⟩;have ae:=OA.out.after jF ag;have bb:=OB.out.after pG ag;have DT:=jF.below _ _ _ (oS ag).below ca;have cH:o.length<=4:=by have:=ad.out;omega
  have af:=iy au;clear au;obtain⟨m0,m1,m2,m3,m4,m5,m6,m7⟩:=sX ar;obtain⟨bH,bG,bF,bE,bD,bC,bB,bA⟩:=tC ar;go_wp2_with (at_builtin;obtain⟨i0_,hi0_,hz0_,hz1_,hz2_⟩:=info_parts ME;refine ka (a_.alloc (.cells #[k9,o9,t9,z9,s9,(A9,J,c9),JX,true] 223)) rfl (.tmp 48) (.tmp 50) 182 rfl n1 223 i0_ _ 8 _ underlying182 hi0_ hz0_ hz1_ hz2_ rfl iI (.slice A6 o c6) o.length (o.flatMap kx) rfl (by rw[af.out];exact ae.own) _ _ 1 1 [k9,o9,t9,z9,s9,(A9,J,c9),JX,true] rfl (ki (w:=a_) rfl #[k9,o9,t9,z9,s9,(A9,J,c9),JX,true] 223 _ rfl 1 8 rfl) (by intro u hu;simp only[la]at hu;rcases hu with rfl | rfl | rfl | rfl | rfl | rfl | rfl | rfl<;>rfl) (by unfold maxLen;omega) iu (by rw[iH];omega) ?_;rw[af.out];intro v6 w33 own5 hg5 hb5;clear hi0_ hz0_ hz1_ hz2_;have own5:=iy own5;have hg5:=iy hg5;have hb5:=iy hb5)
  have aq:=iy (ae.Sv jF DT own5.out hg5.out hb5.out);have an:Hid (kZ n1 241 2 qg GF (iD (fun b=>decide (b<n1)) v6) w33 (.slice A8 (I+1) c8) (I++[((s,i28-1):yB×Nat)])):=bb.other pG hg5.out hb5.out (fun b U e=>ax.out b e U);have aE:=iy (bW.grown ae.own hg5 R bh);have bO:=kF bP ae.own hg5.out R bf;have aY:Hid (∀b,v6.ownBlock=some b->((.slice A8 (I+1) c8):Value).ownBlock≠some b):=iy (fun b U=>by rcases hb5 with h1 | h1;rw[h1]at U;exact ax b U;rw[h1]at U;injection U with U;intro e;have h2:=bM b e;have h3:=ag.below.size;omega);have bx:n1<=w33:=jW (jW (jW bz bL) ag.below.size) hg5.out.size;have aD:Hid ((o++[(ma.mk (.mk k9 o9 t9 z9 s9 A9 c9 J) 0 true)]).length+m=4):=by (show _=_;rw[mo];have:=ad.out;simp;omega)
  have b0:Hid ((o++[(ma.mk (.mk k9 o9 t9 z9 s9 A9 c9 J) 0 true)]).length=(I++[((s,i28-1):yB×Nat)]).length):=by (show _=_;rw[mo,mo,aC.out];rfl)
  have bJ:Hid (∀t∈(o++[(ma.mk (.mk k9 o9 t9 z9 s9 A9 c9 J) 0 true)]),t.dst=0):=iy (fun t ht=>by rcases ue.1 ht with ht | ht;exact hz t ht;simp only[la]at ht;subst ht;rfl);have HX:Hid (X=pD el k wd m (List.zipWith (fun (t:ma) (g:yB×Nat)=>wo.mk t.cond.er t.res g.1) (o++[(ma.mk (.mk k9 o9 t9 z9 s9 A9 c9 J) 0 true)]) (I++[((s,i28-1):yB×Nat)])) (L.drop i31)):=by (show _=_;rw[List.zipWith_append aC.out];show X=pD el k wd m (List.zipWith (fun (t:ma) (g:yB×Nat)=>wo.mk t.cond.er t.res g.1) o I++[⟨(.mk k9 o9 t9 z9 s9 A9 c9 J:Tx).er,true,s⟩]) (L.drop i31);rw[aU.out];exact HX)
  have hI:i2<i31:=by have h1:=b1;have h2:=bN;omega
  exact⟨⟨i31,m,(o++[(ma.mk (.mk k9 o9 t9 z9 s9 A9 c9 J) 0 true)]),(I++[((s,i28-1):yB×Nat)]),aO,aD,b0,HX,aE,bO,bx,aq,an,aY,bJ⟩,by (rw[je aE.out.fields.2.2.1,d1.out];have:=aE.le;omega)⟩
 obtain rfl:m=0:=by have:=ad.out;omega
 have cS:Hid (X=none):=c';obtain⟨a,er,rfl,he⟩:=hf;unfold oD;go_wp2;exact⟨rfl,kf cS (ij (im aw0) cu) (jz a er he)⟩
end
def pM (y:AuT):zO:=[(y.ad,y.states,y.cap)]
def FC (w:yM) (y:AuT):Prop:=zS True w y
theorem oT:pH FC:=⟨fun W W' y hb h=>zS.below hb y h,fun W w y k h=>zS.sub k y h⟩
theorem QN {W:yM} {b o:Nat} {y:AuT} (h:FC W y) (hj:∀j u,(pM y)[j]?=some u->W.cell? ⟨b,o+j,none⟩=some u):xM True W b o y:=⟨hj 0 _ rfl,h⟩
theorem QH:(prog.info? 131).map (fun i=>(i.zero,i.size,i.bytes))=some (some (.agg #[()]),1,24):=by kernel_rfl
theorem NP:(prog.info? 79).map (fun i=>(i.zero,i.size,i.bytes))=some (some (.agg #[(),JX,JX,JX,JX,.string ⟨#[]⟩,()]),7,96):=by kernel_rfl
def VB (n:Nat) (x:List En×List BU) (w:yM) (v:Value):Prop:=∃(eA:zA) (ec:Nat) (es:List oX) (aA:zA) (ac:Nat) (as_:List AuT),v=.tuple #[(eA,es,ec),(aA,as_,ac)] /\
 es.map oX.er=x.1/\as_.map AuT.er=x.2/\ir 7 (xv True) (old n w) ⟨eA,ec,es⟩/\ir 1 (xM True) (old n w) ⟨aA,ac,as_⟩/\es.length<=256/\as_.length<=8
structure CB (B:yM) (q:Nat) (A:zA) (c:Nat) (L:List Tk) (en:Int) (eA:zA) (ec:Nat) (el:List iW) (k:Nat):Prop where
 b:∀(w:yM) (i m:Nat),m<=3->Rd B q A c L en eA ec el w i->20*(L-i)+30<=k->Calls prog 72 #[.pointer q,((3-m:Nat):Int)] w (pk B q A c L en eA ec el w i (mu el k m [] [] (L.drop i)) (VB w))
 a:∀(w:yM) (i m:Nat),m<=3->1<=m->Rd B q A c L en eA ec el w i->20*(L-i)+40<=k->Calls prog 117 #[.pointer q,((3-m:Nat):Int)] w (pk B q A c L en eA ec el w i (pq el k m [] (L.drop i)) (VG pM FC AuT.er w))
theorem CT:∀{m:Nat} {l l':List yB} {ts r:List Tk},nR m l ts=some (l',r)->r.length+1<=ts
 |0,l,l',ts,r,h=>by rw[nR]at h;cases h
 |m+1,l,l',ts,r,h=>by
  rw[nR]at h;obtain⟨⟨s,r1⟩,h1,h2⟩:=mW.1 h;have l1:=mm h1;dsimp only at h2;split at h2
  ·have h3:=CT h2
   have:=OQ r1;omega
  injection h2 with h2;injection h2 with e1 e2;subst e2
  omega
theorem GP {el:List iW} (htag:∀u∈el,u.tags.l.length<=16) (hel:el.length<=1000) {k:Nat} {l:List yB} {x:En} {ts r:List Tk} (h:zm el k l ts=some (x,r)):r.length+2<=ts:=by
 unfold zm at h;obtain⟨⟨_,r1⟩,U,I⟩:=mW.1 h;have l1:=mC U;dsimp only at I;obtain⟨⟨x',r2⟩,R,o⟩:=mW.1 I;have l2:=(uN htag hel R).2;dsimp only at o;obtain⟨⟨_,r3⟩,J,j⟩:=mW.1 o;have l3:=mC J;dsimp only at j;injection j with j;injection j with e1 e2;subst e2
 omega
theorem FD {el:List iW} (htag:∀u∈el,u.tags.l.length<=16) (hel:el.length<=1000) {k:Nat} {x:En} {ts r:List Tk} (h:Lm el k ts=some (x,r)):r.length+1<=ts:=by
 rw[Md]at h;split at h
 ·rename_i hc
  have l0:=lT hc;obtain⟨⟨l,J⟩,o,j⟩:=mW.1 h;have R:=CT o;dsimp only at j;obtain⟨⟨_,r2⟩,h3,U⟩:=mW.1 j;have l2:=mC h3;have I:=GP htag hel U;dsimp only at I;omega
 obtain⟨⟨s,J⟩,o,j⟩:=mW.1 h;have R:=mm o;have I:=GP htag hel j;omega
def Tf (el:List iW) (t:Int):Prop:=3<=t->∃(s:yB) (j:Nat),uv s el 0=some j/\t=3+(j:Int)
def RC (el:List iW) (o:sO):Prop:=3<=o.t->FV el o.t o.tag
def Kx (el:List iW) (d:FZ):Prop:=Tf el d.ty/\∀o∈d.clock,RC el o
def SI (el:List iW) (nms:List yB) (t:Qb):Prop:=AX el t.cond/\∃(s:yB) (j:Nat),vM s nms 0=some j/\t.dst=(j:Int)
def F5.nm:F5->yB | .mk n _ _ _ _ _=>n
mutual
def Ry (el:List iW):BU->Prop
 |.mk l=>Fs el (l.map F5.nm) l
def tZ (el:List iW):List BU->Prop
 |[]=>True
 |a::l=>Ry el a/\tZ el l
def P3 (el:List iW) (nms:List yB):F5->Prop
 |.mk n l e a u v=>(∀d∈l,Kx el d)/\(∀q∈e,AX el q.right)/\tZ el a/\(∀t∈u,SI el nms t)/\∀t∈v,SI el nms t
def Fs (el:List iW) (nms:List yB):List F5->Prop
 |[]=>True
 |x::l=>P3 el nms x/\Fs el nms l
end
mutual
def RR:BU->Nat
 |.mk l=>1+LI l
def sY:List BU->Nat
 |[]=>0
 |a::l=>RR a+sY l
def Sh:F5->Nat
 |.mk n l e a u v=>1+e.length+sY a+u+v
def LI:List F5->Nat
 |[]=>0
 |x::l=>Sh x+LI l
end
structure QB (el:List iW) (n:D8):Prop where
 i:∀d∈n.ins,Kx el d
 o:∀d∈n.outs,Kx el d
 l:∀d∈n.locals,Kx el d
 q:∀q∈n.eqs,AX el q.right
 a:tZ el n.autos
 s:∀x∈n.assume,AX el x
 e:∀x∈n.ensure,AX el x
section
variable {el:List iW}
def yh:List D8->Nat
 |[]=>0
 |n::l=>n.eqs.length+sY n.autos+yh l
end
section
open Go.Proofs.Tryz
theorem jh {A B:yB} {a b:List UInt8} (ha:A=lG a) (hb:B=lG b) (h:a.length+b<=9223372036854775807) :
  ∃S,S=lG (a++b)/\∀w:yM,(Op.stringOp .add A B).run prog w=.ok (.string S) w:=
 ⟨_,rfl,fun w=>by rw[run_string_add_sum w A B (by rw[ha,hb,yK,yK];exact h),ha,hb,Pw]⟩
section
variable {w0:yM} {eA:zA} {ec:Nat} {el:List iW} {mb:Nat}
theorem Ak (h:ID w0 eA ec el) (w:yM) (hw:ik w0 w) (t v:Int) (ht:qS el t) (hv:nq el t v=true) :
  Calls prog 87 #[.agg #[(eA,el,ec),.map (some mb)],t,v] w fun e w'=>e=.returned (.string (lG (iY (wm el t v))))/\∃y,w'=w.more y:=by
 have j:=iy (fun U (o:ik w U)=>Mw h U (ij hw o) t v ht hv);rw[<- PC]at j;generalize lG (iY (wm el t v))=s at j;go_in;go_wp2_with fail;refine (j _ iR).mono ?_;rintro e w' ⟨rfl,y,rfl⟩;go_wp2;go_ret;exact⟨rfl,jP _ _⟩
theorem IB (w:yM) (k o t v:Int) (s:yB) (A:zA) (n c:Nat) (xs:List Ex) :
  Calls prog 133 #[.agg #[k,o,t,v,s,(A,n,c)]] w fun e w'=>e=.returned (.bool (kb (.mk k o t v s xs)))/\∃y,w'=w.more y:=by
 rw[kb];by_cases h2:k=2
 ·subst h2
  go_in;go_wp2;go_ret;exact⟨rfl,jP _ _⟩
 by_cases j:k=11
 ·subst j
  go_in;go_wp2;go_ret;exact⟨rfl,jP _ _⟩
 by_cases I:k=10
 ·subst I
  go_in;go_wp2;go_ret;exact⟨rfl,jP _ _⟩
 have b2:(k==2)=false:=by simpa using h2
 have J:(k==11)=false:=by simpa using j
 have R:(k==10)=false:=by simpa using I
 by_cases h1:k=1
 ·subst h1
  by_cases U:t=2
  ·subst U
   go_in;go_wp2;go_ret;exact⟨by simp,jP _ _⟩
  have bt:(t==2)=false:=by simpa using U
  go_in;go_wp2;go_ret;exact⟨by rw[bt];rfl,jP _ _⟩
 have b1:(k==1)=false:=by simpa using h1
 go_in;go_wp2;go_ret;exact⟨by rw[b1,b2,R,J];rfl,jP _ _⟩
theorem yH (h:ID w0 eA ec el) (w:yM) (hw:ik w0 w) (t v:Int) (s:yB) (hs:s.size<=140737488355328) (ht:qS el t) (hv:nq el t v=true) (hl:(iY (wm el t v)).length<=140737488355328) :
  Calls prog 90 #[.agg #[(eA,el,ec),.map (some mb)],.agg #[s,t,v]] w fun e w'=>e=.returned (.string (lG (iY (FX el t v s))))/\∃y,w'=w.more y:=by
 have HC:=iy (fun U (hU:ik w U)=>Ak (mb:=mb) h U (ij hw hU) t v ht hv);have j:lG (iY (FX el t v s))=lG (((([119,104,101,110,32]++iY (wm el t v))++[40])++s.data.toList)++[41]):=by
  unfold FX;rw[kH,jn,iC,jl,lQ,jl,ja];simp
 rw[j];generalize iY (wm el t v)=x at HC hl;obtain⟨S1,R,c1⟩:=jh (A:=⟨#[119,104,101,110,32]⟩) (a:=[119,104,101,110,32]) (B:=lG x) rfl rfl (by simp;omega);obtain⟨S2,J,c2⟩:=jh (B:=⟨#[40]⟩) (b:=[40]) R rfl (by simp;omega);obtain⟨S3,I,c3⟩:=jh (B:=s) J (qd s).symm (by simp;omega);obtain⟨S4,o,c4⟩:=jh (B:=⟨#[41]⟩) (b:=[41]) I rfl (by simp;omega);rw[<- o];clear h ht hv j R J I o;go_in;go_wp2_with fail;refine iE kp kp ?_;repeat (go_big_quiet_step ((go_at_call 87;with_reducible exact mR (HC.out _ iR))))
 refine wpQuiet_nil ?_;rintro _ ⟨y,rfl⟩;go_wp2;go_ret;exact⟨rfl,jP _ _⟩
def qE (eA:zA) (n ec mb:Nat):Value:=.agg #[(eA,n,ec),.map (some mb)]
def vr (k o t v:Int) (s:yB) (A:zA) (n c:Nat):Value:=.agg #[k,o,t,v,s,(A,n,c)]
def oC (f:Nat) (w:yM) (W x:Value) (l:List Pc):Prop:=∀U,ik w U->Calls prog f #[W,x] U fun e w'=>e=.returned (.string (lG (iY l)))/\∃z,w'=U.more z
theorem Ge (w:yM) (k o t v:Int) (s:yB) (A:zA) (n c:Nat) (xs:List Ex) (l:List Pc) (hl:(iY l).length<=140737488355328) (ci:Bool)
  (HX:oC 47 w (qE eA el ec mb) (vr k o t v s A n c) l) :
  oC 89 w (qE eA el ec mb) (vr k o t v s A n c) (kM ⟨kb (.mk k o t v s xs),ci,l⟩):=by
 intro U hU;have j:=iy (fun U=>IB U k o t v s A n c xs);have I:=iy (fun V (hV:ik U V)=>HX V (ij hU hV));unfold qE vr at I⊢;cases hp:kb (.mk k o t v s xs) with
 |true=>
  rw[hp]at j;unfold kM;rw[iG rfl];clear hp HX;go_in;go_wp2_with fail;refine (j _).mono ?_;rintro e J ⟨rfl,y,rfl⟩;go_wp2_with fail;refine (I _ iR).mono ?_;rintro e J ⟨rfl,y2,rfl⟩;go_wp2;go_ret;exact⟨rfl,jP _ _⟩
 |false=>
 rw[hp]at j;have R:lG (iY (kM ⟨false,ci,l⟩))=lG (([40]++iY l)++[41]):=by
  unfold kM;rw[iV (by simp),jl,iC,jl,ja];rfl
 rw[R];generalize iY l=x at I hl;obtain⟨S1,e1,c1⟩:=jh (A:=⟨#[40]⟩) (a:=[40]) (B:=lG x) rfl rfl (by simp;omega);obtain⟨S2,e2,c2⟩:=jh (B:=⟨#[41]⟩) (b:=[41]) e1 rfl (by simp;omega);rw[<- e2];clear hp HX R e1 e2;go_in;go_wp2_with fail;refine (j _).mono ?_;rintro e J ⟨rfl,y,rfl⟩;go_wp2_with fail;refine (I _ iR).mono ?_;rintro e J ⟨rfl,y2,rfl⟩;go_wp2;go_ret;exact⟨rfl,jP _ _⟩
end
def Td:List (Int×yB):=[(3,⟨#[97,110,100]⟩),(4,⟨#[111,114]⟩),(5,⟨#[120,111,114]⟩),(6,⟨#[43]⟩),(7,⟨#[45]⟩),(8,⟨#[42]⟩),(9,⟨#[47]⟩),(10,⟨#[109,111,100]⟩),(11,⟨#[61]⟩),(12,⟨#[60,62]⟩),(13,⟨#[60]⟩),(14,⟨#[60,61]⟩),(15,⟨#[62]⟩),(16,⟨#[62,61]⟩)]
def GG:DataW Unit:=Td.foldl (fun D x=>D.put (.int .i64 x.1) (.lit (.string x.2.data.toList))) (.map [])
abbrev uH (w:yM) (b n:Nat) (D:DataW Unit):Prop:=w.ownsMap prog 3 (plainElem prog 9) b n D
theorem Nk:Maps.Keyed prog 3:=Maps.int_keyed underlying3
theorem uH.put {w:yM} {b n:Nat} {D:DataW Unit} (h:uH w b n D) (hn:n<100) (k:Int) (hk:(Lit.int .i64 k).wf=true) (s:yB) (hs:s.size<=100) :
  ∃w',(Instr.mapUpdate 45 (.map (some b)) (.int .i64 k) (.string s)).run prog w=.ok () w'/\uH w' b (n+1) (D.put (.int .i64 k) (.lit (.string s.data.toList)))/\w.grownBy w' (some b):=
 World.ownsMap.update h Nk underlying45 (by unfold maxLen;omega) (Maps.keyOf_int_mk underlying3 hk) (plainElem_string underlying9 (by unfold maxLen;omega))
theorem uH.here {w:yM} {b n:Nat} {D:DataW Unit} (h:uH w b n D) (U:yM) (a:ik w U):uH U b n D:=by
 have o:=World.ownsMap.lt h;obtain⟨es,j,J,F,I,R⟩:=h;exact⟨es,j,(a.below.block b o).trans J,F,I,R⟩
def IJ (o:Int):yB:=match GG.atKey (.int .i64 o) (.lit (.string [])) with
 |.lit (.string c)=>lG c
 |_=>⟨#[]⟩
theorem MT {w:yM} {b n:Nat} (h:uH w b n GG) (o:Int) (ho:(Lit.int .i64 o).wf=true) (U:yM) [a:ik w U] :
  (Instr.lookup 45 (.map (some b)) (.int .i64 o) false).run prog U=.ok (.string (IJ o)) U:=by
 have R:=h.here U a;obtain⟨v,ps,j,I⟩:=World.ownsMap.lookup R Nk underlying45 (z:=.string ⟨#[]⟩) kp (plainElem_string underlying9 iI) (Maps.keyOf_int_mk underlying3 ho);obtain⟨c,rfl,J,_⟩:=plainElem_string_inv underlying9 I;rw[j];have h9:GG.atKey (.int .i64 o) (.lit (.string []))=.lit (.string c.data.toList):=nQ Prod.fst J;have:IJ o=c:=by unfold IJ;rw[h9];exact qd c
 rw[this]
theorem Nx (o:Int) (h3:3<=o) (h16:o<=16):(IJ o).data.toList=iY [z_ o]:=by
 rcases (by omega:o=3\/o=4\/o=5\/o=6\/o=7\/o=8\/o=9\/o=10\/o=11\/o=12\/o=13\/o=14\/o=15\/o=16) with h | h | h | h | h | h | h | h | h | h | h | h | h | h<;>(subst h;decide +kernel)
theorem Dw (A:zA) (n c:Nat) (w:yM):Calls prog 16 #[(A,n,c)] w fun e w'=>∃b,e=.returned (qE A n c b)/\uH w' b 14 GG/\w.heap.size<=b/\ik w w':=by
 have aq:=@run_makeMap prog;have o0:uH ((w.alloc (.cells #[(),.map none] 47)).alloc (.map #[] 0)) (w+1) 0 (.map []):=by
  have:=World.ownsMap_made (w.alloc (.cells #[(),.map none] 47)) prog 3 (plainElem (H:=Unit) prog 9);simpa using this
 obtain⟨w1,r1,o1,g1⟩:=o0.put (by decide) 3 (by decide) ⟨#[97,110,100]⟩ (by decide);obtain⟨w2,r2,o2,g2⟩:=o1.put (by decide) 4 (by decide) ⟨#[111,114]⟩ (by decide);obtain⟨w3,r3,o3,g3⟩:=o2.put (by decide) 5 (by decide) ⟨#[120,111,114]⟩ (by decide);obtain⟨w4,r4,o4,g4⟩:=o3.put (by decide) 6 (by decide) ⟨#[43]⟩ (by decide);obtain⟨w5,r5,o5,g5⟩:=o4.put (by decide) 7 (by decide) ⟨#[45]⟩ (by decide);obtain⟨w6,r6,o6,g6⟩:=o5.put (by decide) 8 (by decide) ⟨#[42]⟩ (by decide);obtain⟨w7,r7,o7,g7⟩:=o6.put (by decide) 9 (by decide) ⟨#[47]⟩ (by decide);obtain⟨w8,r8,o8,g8⟩:=o7.put (by decide) 10 (by decide) ⟨#[109,111,100]⟩ (by decide);obtain⟨w9,r9,o9,g9⟩:=o8.put (by decide) 11 (by decide) ⟨#[61]⟩ (by decide);obtain⟨ah,an,ab,a7⟩:=o9.put (by decide) 12 (by decide) ⟨#[60,62]⟩ (by decide);obtain⟨ag,al,aa,a6⟩:=ab.put (by decide) 13 (by decide) ⟨#[60]⟩ (by decide);obtain⟨af,ak,a',a1⟩:=aa.put (by decide) 14 (by decide) ⟨#[60,61]⟩ (by decide);obtain⟨ae,aj,a_,U⟩:=a'.put (by decide) 15 (by decide) ⟨#[62]⟩ (by decide);obtain⟨o,ai,a8,R⟩:=a_.put (by decide) 16 (by decide) ⟨#[62,61]⟩ (by decide);have j:some w.heap.size≠some (w.heap.size+1):=by simp
 have B0:iP ((w.alloc (.cells #[(),.map none] 47)).alloc (.map #[] 0)) w.heap.size 47 #[(),.map none]:=(jC w _ _).alloc _;have J:iP o w.heap.size 47 #[(),.map none]:=((((((((((((((B0.grown g1 j).grown g2 j).grown g3 j).grown g4 j).grown g5 j).grown g6 j).grown g7 j).grown g8 j).grown g9 j).grown a7 j).grown a6 j).grown a1 j).grown U j).grown R j);have k0:=J.cell 0;have k1:=J.cell 1;have f0:=J.frozen 0;have f1:=J.frozen 1;have ao:w.heap.size<o.heap.size:=J.lt;have HO:=iB a8;have HA:Hid (ik w o):=jS (jS (jS (jS (jS (jS (jS (jS (jS (jS (jS (jS (jS (jS (w1:=(w.alloc (.cells #[(),.map none] 47)).alloc (.map #[] 0)) zc g1 (uR _)) g2 (uR _)) g3 (uR _)) g4 (uR _)) g5 (uR _)) g6 (uR _)) g7 (uR _)) g8 (uR _)) g9 (uR _)) a7 (uR _)) a6 (uR _)) a1 (uR _)) U (uR _)) R (uR _);have HZ:=iB J;go_in;go_wp2_with fail;have r2:=(HZ.jx 0 (.slice A n c)).jx 1 (.map (some (w.heap.size+1)));have c0:=r2.cell 0;have c1:=r2.cell 1;refine jR (v:=qE A n c (w.heap.size+1)) (by simp[results,results16,go_sem,c0,c1,qE]) rfl ?_;have ad:=HO.out;refine⟨_,rfl,?_,uR _,?_⟩
 ·obtain⟨es,I,hb,F,hz,hD⟩:=ad
  exact⟨es,I,((Below.heap_setCell _ ⟨w,1,none⟩ _ (w+1) (by simp)).trans (Below.heap_setCell _ ⟨w,0,none⟩ _ (w+1) (by simp))).trans hb,F,hz,hD⟩
 have:=HA.out;exact pQ (h:=pQ (h:=this) (k:=⟨js _⟩) _ _) (k:=⟨js _⟩) _ _
end
def S9:Tx->Value
 |.mk k o t v s A c xs=>vr k o t v s A xs c
def q_ (el:List iW) (w:yM) (W:Value) (xs:List Tx):Prop:=∀(i:Nat) (a:Tx),xs[i]?=some a->oC 47 w W (S9 a) (kX el a.er)/\(iY (kX el a.er)).length<=1000000
theorem wS (a:Ar):(iY (kM a)).length<=(iY a.l).length+2:=by
 unfold kM;split
 ·omega
 rw[jl,iC,jl,ja];simp
section
variable {eA:zA} {ec:Nat} {el:List iW} {mb:Nat}
theorem C_ {w0:yM} {W:Value} {xs:List Tx} (HA:q_ el w0 (qE eA el ec mb) xs) (w:yM) (hw:ik w0 w) {i:Nat} {k1 o1 t1 v1:Int} {s1:yB} {A1:zA} {c1:Nat} {xs1:List Tx} (hi:xs[i]?=some (.mk k1 o1 t1 v1 s1 A1 c1 xs1)) :
  ∃l,(pF (jy el (Tx.kv xs)) i).l=l/\(iY l).length<=1000000/\oC 47 w (qE eA el ec mb) (vr k1 o1 t1 v1 s1 A1 xs1 c1) l /\
   oC 89 w (qE eA el ec mb) (vr k1 o1 t1 v1 s1 A1 xs1 c1) (kM (pF (jy el (Tx.kv xs)) i))/\(pF (jy el (Tx.kv xs)) i).c=(k1==1&&t1==2):=by
 have h:=HA i _ hi;have o:(Tx.kv xs)[i]?=some (Tx.er (.mk k1 o1 t1 v1 s1 A1 c1 xs1)):=by rw[EK,hi];rfl
 have j:oC 47 w (qE eA el ec mb) (vr k1 o1 t1 v1 s1 A1 xs1 c1) (kX el (Tx.er (.mk k1 o1 t1 v1 s1 A1 c1 xs1))):=fun U I=>h.1 U (ij hw I)
 rw[pz el o];refine⟨_,rfl,h.2,j,?_,?_⟩
 ·have:=Ge w k1 o1 t1 v1 s1 A1 xs1 c1 (Tx.kv xs1) _ (by have:=h.2;omega) (kG (Tx.er (.mk k1 o1 t1 v1 s1 A1 c1 xs1))) j
  rw[Tx.er]at this⊢;exact this
 rw[Tx.er,kG]
theorem GV {w0:yM} {t v:Int} {s:yB} {A:zA} {c:Nat} {xs:List Tx} (hR:RX w0 (.mk 3 1 t v s A c xs)) (hn:xs.length=1) (HA:q_ el w0 (qE eA el ec mb) xs) :
  oC 88 w0 (qE eA el ec mb) (vr 3 1 t v s A xs c) (EA 1 (jy el (Tx.kv xs))):=by
 intro w hw;obtain⟨b,p,k1,o1,t1,v1,s1,A1,c1,J,rfl,a6,HY,HR,d0,d1,d2,d3,d4,d5⟩:=(hR.below hw.below).part (i:=0) iu;obtain⟨l,hl,U,R,o,a1⟩:=C_ (W:=qE eA el ec mb) HA w hw HY;unfold EA;rw[iG rfl];have j:=wS (pF (jy el (Tx.kv xs)) 0);rw[hl]at j;generalize kM (pF (jy el (Tx.kv xs)) 0)=q at j o⊢;have hx:lG (iY (mB [110,111,116]::.sp 32::q))=lG ([110,111,116,32]++iY q):=by rw[kH,jn];rfl
 rw[hx];have I:=iy o;unfold oC at I;generalize iY q=y at I j;obtain⟨S1,e1,a7⟩:=jh (A:=⟨#[110,111,116,32]⟩) (a:=[110,111,116,32]) (B:=lG y) rfl rfl (by simp;omega);rw[<- e1];rw[hn];generalize J=n1 at d5 I;simp only[zH,xP]at d0 d1 d2 d3 d4 d5;unfold qE vr at I⊢;clear hx e1 hR HA HY HR R o a1 hl U j;go_in;go_wp2_with fail;refine (I.out _ iR).mono ?_;rintro e w' ⟨rfl,y2,rfl⟩;go_wp2;go_ret;exact⟨rfl,jP _ _⟩
theorem Gg {w0:yM} {t v:Int} {s:yB} {A:zA} {c:Nat} {xs:List Tx} (hR:RX w0 (.mk 3 2 t v s A c xs)) (hn:xs.length=1) (HA:q_ el w0 (qE eA el ec mb) xs) :
  oC 88 w0 (qE eA el ec mb) (vr 3 2 t v s A xs c) (EA 2 (jy el (Tx.kv xs))):=by
 intro w hw;obtain⟨b,p,k1,o1,t1,v1,s1,A1,c1,U,rfl,a7,HY,HR,d0,d1,d2,d3,d4,d5⟩:=(hR.below hw.below).part (i:=0) iu;obtain⟨l,hl,a1,J,I,R⟩:=C_ (W:=qE eA el ec mb) HA w hw HY;unfold EA;rw[iV iI,iG rfl];have o:=wS (pF (jy el (Tx.kv xs)) 0);rw[hl]at o;rw[R,hl];generalize kM (pF (jy el (Tx.kv xs)) 0)=q at o I⊢;rw[hn];simp only[zH,xP]at d0 d1 d2 d3 d4 d5;by_cases hc:k1=1/\t1=2
 ·obtain⟨rfl,rfl⟩:=hc
  have hx:lG (iY (if ((1:Int)==1&&(2:Int)==2)=true then mf [45]::mf [40]::(l++[mf [41]]) else mf [45]::q))=lG (([45,40]++iY l)++[41]):=by
   rw[iG (show ((1:Int)==1&&(2:Int)==2)=true by decide),jl,jl,iC,jl,ja];rfl
  rw[hx];have j:=iy J;unfold oC at j;generalize iY l=y at j a1;obtain⟨S1,e1,a6⟩:=jh (A:=⟨#[45,40]⟩) (a:=[45,40]) (B:=lG y) rfl rfl (by simp;omega);obtain⟨S2,e2,a8⟩:=jh (B:=⟨#[41]⟩) (b:=[41]) e1 rfl (by simp;omega);rw[<- e2];generalize U=n1 at d5 j;unfold qE vr at j⊢;clear hx e1 e2 hR HA HY HR J I R hl o;go_in;go_wp2_with fail;refine (j.out _ iR).mono ?_;rintro e w' ⟨rfl,y2,rfl⟩;go_wp2;go_ret;exact⟨rfl,jP _ _⟩
 have hx:lG (iY (if (k1==1&&t1==2)=true then mf [45]::mf [40]::(l++[mf [41]]) else mf [45]::q))=lG ([45]++iY q):=by
  rw[iV (by simpa using hc),jl]
 rw[hx];have j:=iy I;unfold oC at j;generalize iY q=y at j o;obtain⟨S1,e1,a6⟩:=jh (A:=⟨#[45]⟩) (a:=[45]) (B:=lG y) rfl rfl (by simp;omega);rw[<- e1];generalize U=n1 at d5 j;unfold qE vr at j⊢;clear hx e1 hR HA HY HR J I R hl a1 o;by_cases hk:k1=1
 ·subst hk
  go_in;go_wp2_with fail;refine (j.out _ iR).mono ?_;rintro e w' ⟨rfl,y2,rfl⟩;go_wp2;go_ret;exact⟨rfl,jP _ _⟩
 go_in;go_wp2_with fail;refine (j.out _ iR).mono ?_;rintro e w' ⟨rfl,y2,rfl⟩;go_wp2;go_ret;exact⟨rfl,jP _ _⟩
theorem GS {w0:yM} {o t v:Int} {s:yB} {A:zA} {c:Nat} {xs:List Tx} (ho:3<=o/\o<=16) (hR:RX w0 (.mk 3 o t v s A c xs)) (hn:xs.length=2) (HA:q_ el w0 (qE eA el ec mb) xs) (HS:uH w0 mb 14 GG) :
  oC 88 w0 (qE eA el ec mb) (vr 3 o t v s A xs c) (EA o (jy el (Tx.kv xs))):=by
 intro w hw;obtain⟨b,p,k1,o1,t1,v1,s1,A1,c1,ag,rfl,aw,HY,HR,d0,d1,d2,d3,d4,d5⟩:=(hR.below hw.below).part (i:=0) iu;obtain⟨b',p',k2,o2,t2,v2,s2,A2,c2,af,ak,av,ae,au,ar,aq,ao,an,al,ad⟩:=(hR.below hw.below).part (i:=1) iu;cases ak;obtain⟨l,hl,ai,ah,a6,aj⟩:=C_ (W:=qE eA el ec mb) HA w hw HY;obtain⟨l',aa,a',a_,J,ab⟩:=C_ (W:=qE eA el ec mb) HA w hw ae.out;unfold EA;rw[iV iu,iV iu];have a1:=wS (pF (jy el (Tx.kv xs)) 0);rw[hl]at a1;have j:=wS (pF (jy el (Tx.kv xs)) 1);rw[aa]at j;generalize kM (pF (jy el (Tx.kv xs)) 0)=q at a1 a6⊢;generalize kM (pF (jy el (Tx.kv xs)) 1)=q' at j J⊢;rw[hn];simp only[zH,xP,Nat.one_mul,CL,Nat.reduceAdd]at d0 d1 d2 d3 d4 d5 ar aq ao an al ad;have a8:=Nx o ho.1 ho.2;have I:(IJ o).data.toList.length<=3:=by
  rcases (by omega:o=3\/o=4\/o=5\/o=6\/o=7\/o=8\/o=9\/o=10\/o=11\/o=12\/o=13\/o=14\/o=15\/o=16) with h | h | h | h | h | h | h | h | h | h | h | h | h | h<;>(subst h;decide +kernel)
 have hx:lG (iY (q++.sp 32::z_ o::.sp 32::q'))=lG ((((iY q++[32])++(IJ o).data.toList)++[32])++iY q'):=by
  rw[iC,jn,a8,show ∀z,iY (z_ o::z)=iY [z_ o]++iY z from fun z=>iC [z_ o] z,jn];simp
 rw[hx];have a7:(Lit.int .i64 o).wf=true:=by
  rcases (by omega:o=3\/o=4\/o=5\/o=6\/o=7\/o=8\/o=9\/o=10\/o=11\/o=12\/o=13\/o=14\/o=15\/o=16) with h | h | h | h | h | h | h | h | h | h | h | h | h | h<;>(subst h;decide +kernel)
 have HL:=fun (U:yM) [hU:ik w U]=>MT (HS.here w hw) o a7 U
 have HO:=iy a6;have R:=iy J;unfold oC at HO R;generalize iY q=y at HO a1;generalize iY q'=y' at R j;generalize IJ o=sy at HL I;obtain⟨S1,e1,g1⟩:=jh (A:=lG y) (a:=y) (B:=⟨#[32]⟩) (b:=[32]) rfl rfl (by simp;omega);obtain⟨S2,e2,g2⟩:=jh (B:=sy) e1 (qd sy).symm (by simp;simp at I;omega);obtain⟨S3,e3,g3⟩:=jh (B:=⟨#[32]⟩) (b:=[32]) e2 rfl (by simp;simp at I;omega);obtain⟨S4,e4,g4⟩:=jh (B:=lG y') (b:=y') e3 rfl (by simp;simp at I;omega);rw[<- e4];generalize ag=n1 at d5 HO;generalize af=n2 at ad R;unfold qE vr at HO R⊢;clear a7 hx e1 e2 e3 e4 hR HA HY HR ae au HS ah a6 aj hl ai a1 a_ J ab aa a' j a8 I;go_in;go_wp2_with fail;refine iE kp kp ?_;repeat (go_big_quiet_step ((go_at_call 89;with_reducible (first | exact mR (HO.out _ iR) | exact mR (R.out _ iR)))))
 refine wpQuiet_nil ?_;rintro _ ⟨y,rfl⟩;go_wp2;go_ret;exact⟨rfl,jP _ _⟩
end
section
variable {w0:yM} {eA:zA} {ec:Nat} {el:List iW} {mb:Nat}
theorem r_ {k o t v:Int} {s:ByteArray} {A:Option Addr} {c:Nat} {xs:List Tx} (hR:RX w0 (.mk k o t v s A c xs)) (HA:q_ el w0 (qE eA el.length ec mb) xs) (w:World) (hw:ik w0 w) (i:Nat) (hi:i<xs.length) :
  ∃b p k1 o1 t1 v1 s1 A1 n1 c1,∃l q:List UInt8,A=some ⟨b,p,none⟩/\Le (b+1) w /\
   w.cell? ⟨b,p+i*6,none⟩=some (.int .i64 k1)/\w.cell? ⟨b,p+i*6+1,none⟩=some (.int .i64 o1)/\w.cell? ⟨b,p+i*6+2,none⟩=some (.int .i64 t1)/\w.cell? ⟨b,p+i*6+3,none⟩=some (.int .i64 v1)/\w.cell? ⟨b,p+i*6+4,none⟩=some (.string s1)/\w.cell? ⟨b,p+i*6+5,none⟩=some (.slice A1 n1 c1) /\
   iY (pF (jy el (Tx.kv xs)) i).l=l/\l.length<=1000000/\iY (kM (pF (jy el (Tx.kv xs)) i))=q/\q.length<=1000002 /\
   Hid (∀U,ik w U->Calls prog 47 #[.agg #[.slice eA el.length ec,.map (some mb)],.agg #[k1,o1,t1,v1,s1,.slice A1 n1 c1]] U fun e w'=>e=.returned (.string (lG l))/\∃z,w'=U.more z) /\
   Hid (∀U,ik w U->Calls prog 89 #[.agg #[.slice eA el.length ec,.map (some mb)],.agg #[k1,o1,t1,v1,s1,.slice A1 n1 c1]] U fun e w'=>e=.returned (.string (lG q))/\∃z,w'=U.more z):=by
 obtain⟨b,p,k1,o1,t1,v1,s1,A1,c1,j,hA,a6,HY,HR,d0,d1,d2,d3,d4,d5⟩:=(hR.below hw.below).part (i:=i) hi;obtain⟨l,hl,a1,J,I,a7⟩:=C_ (W:=qE eA el.length ec mb) HA w hw HY;have R:=wS (pF (jy el (Tx.kv xs)) i);rw[hl]at R⊢;exact⟨b,p,k1,o1,t1,v1,s1,A1,j.length,c1,_,_,hA,a6,d0,d1,d2,d3,d4,d5,rfl,a1,rfl,iu,iy J,iy I⟩
theorem Pr {o t v:Int} {s:yB} {A:zA} {c:Nat} {xs:List Tx} (hR:RX w0 (.mk 5 o t v s A c xs)) (hn:xs.length=1) (HA:q_ el w0 (qE eA el ec mb) xs) :
  oC 47 w0 (qE eA el ec mb) (vr 5 o t v s A xs c) (uF el 5 o t v s (jy el (Tx.kv xs))):=by
 intro w hw;obtain⟨b,p,k0,o0,t0,v0,s0,A0,n0,c0,l0,R,rfl,ab,a',a_,a8,a7,a6,a1,U,J,I,j,ad,aa⟩:=r_ hR HA w hw 0 iu;have hx:lG (iY (uF el 5 o t v s (jy el (Tx.kv xs))))=lG (([112,114,101,32]++R)):=by
  rw[<- I];unfold uF;simp (config:={ decide:=true }) only[↓reduceIte,iC,kH,jn,jl,ja];simp
 rw[hx,hn];obtain⟨S1,e1,g1⟩:=jh (A:=⟨#[112,114,101,32]⟩) (a:=[112,114,101,32]) (B:=lG R) (b:=R) rfl rfl (by simp;omega);rw[<- e1];simp only[zH,xP,Nat.one_mul,CL,Nat.reduceAdd,Nat.reduceMul]at a' a_ a8 a7 a6 a1;unfold qE vr;clear hx hR HA U J I j e1;go_in;go_wp2_with fail;refine iE kp kp ?_;repeat (go_big_quiet_step ((go_at_call 89;with_reducible exact mR (aa.out _ iR))))
 refine wpQuiet_nil ?_;rintro _ ⟨y,rfl⟩;go_wp2;go_ret;exact⟨rfl,jP _ _⟩
theorem O_ {o t v:Int} {s:yB} {A:zA} {c:Nat} {xs:List Tx} (hR:RX w0 (.mk 6 o t v s A c xs)) (hn:xs.length=2) (HA:q_ el w0 (qE eA el ec mb) xs) :
  oC 47 w0 (qE eA el ec mb) (vr 6 o t v s A xs c) (uF el 6 o t v s (jy el (Tx.kv xs))):=by
 intro w hw;obtain⟨b,p,k0,o0,t0,v0,s0,A0,n0,c0,l0,q0,rfl,aq,ak,aj,ai,ah,ag,af,a7,a1,R,I,au,an⟩:=r_ hR HA w hw 0 iu;obtain⟨b',p',k1,o1,t1,v1,s1,A1,n1,c1,l1,q1,a8,ao,ae,ad,ab,aa,a',a_,a6,U,J,j,ar,al⟩:=r_ hR HA w hw 1 iu;cases a8;have hx:lG (iY (uF el 6 o t v s (jy el (Tx.kv xs))))=lG (((q0++[32,45,62,32])++q1)):=by
  rw[<- R,<- J];unfold uF;simp (config:={ decide:=true }) only[↓reduceIte,iC,kH,jn,jl,ja];simp
 rw[hx,hn];obtain⟨S1,e1,g1⟩:=jh (A:=lG q0) (a:=q0) (B:=⟨#[32,45,62,32]⟩) (b:=[32,45,62,32]) rfl rfl (by simp;omega);obtain⟨S2,e2,g2⟩:=jh (B:=lG q1) (b:=q1) e1 rfl (by simp;omega);rw[<- e2];simp only[zH,xP,Nat.one_mul,CL,Nat.reduceAdd,Nat.reduceMul]at ak aj ai ah ag af ae ad ab aa a' a_;unfold qE vr;clear hx hR HA a7 a1 R I a6 U J j e1 e2;go_in;go_wp2_with fail;refine iE kp kp ?_;repeat (go_big_quiet_step (first | (go_at_call 89;with_reducible exact mR (an.out _ iR)) | (go_at_call 89;with_reducible exact mR (al.out _ iR))))
 refine wpQuiet_nil ?_;rintro _ ⟨y,rfl⟩;go_wp2;go_ret;exact⟨rfl,jP _ _⟩
theorem OW {o t v:Int} {s:yB} {A:zA} {c:Nat} {xs:List Tx} (hR:RX w0 (.mk 7 o t v s A c xs)) (hn:xs.length=2) (HA:q_ el w0 (qE eA el ec mb) xs) :
  oC 47 w0 (qE eA el ec mb) (vr 7 o t v s A xs c) (uF el 7 o t v s (jy el (Tx.kv xs))):=by
 intro w hw;obtain⟨b,p,k0,o0,t0,v0,s0,A0,n0,c0,l0,q0,rfl,aq,ak,aj,ai,ah,ag,af,a7,a1,R,I,au,an⟩:=r_ hR HA w hw 0 iu;obtain⟨b',p',k1,o1,t1,v1,s1,A1,n1,c1,l1,q1,a8,ao,ae,ad,ab,aa,a',a_,a6,U,J,j,ar,al⟩:=r_ hR HA w hw 1 iu;cases a8;have hx:lG (iY (uF el 7 o t v s (jy el (Tx.kv xs))))=lG (((q0++[32,102,98,121,32])++q1)):=by
  rw[<- R,<- J];unfold uF;simp (config:={ decide:=true }) only[↓reduceIte,iC,kH,jn,jl,ja];simp
 rw[hx,hn];obtain⟨S1,e1,g1⟩:=jh (A:=lG q0) (a:=q0) (B:=⟨#[32,102,98,121,32]⟩) (b:=[32,102,98,121,32]) rfl rfl (by simp;omega);obtain⟨S2,e2,g2⟩:=jh (B:=lG q1) (b:=q1) e1 rfl (by simp;omega);rw[<- e2];simp only[zH,xP,Nat.one_mul,CL,Nat.reduceAdd,Nat.reduceMul]at ak aj ai ah ag af ae ad ab aa a' a_;unfold qE vr;clear hx hR HA a7 a1 R I a6 U J j e1 e2;go_in;go_wp2_with fail;refine iE kp kp ?_;repeat (go_big_quiet_step (first | (go_at_call 89;with_reducible exact mR (an.out _ iR)) | (go_at_call 89;with_reducible exact mR (al.out _ iR))))
 refine wpQuiet_nil ?_;rintro _ ⟨y,rfl⟩;go_wp2;go_ret;exact⟨rfl,jP _ _⟩
theorem PG {o t v:Int} {s:yB} {A:zA} {c:Nat} {xs:List Tx} (hR:RX w0 (.mk 4 o t v s A c xs)) (hn:xs.length=3) (HA:q_ el w0 (qE eA el ec mb) xs) :
  oC 47 w0 (qE eA el ec mb) (vr 4 o t v s A xs c) (uF el 4 o t v s (jy el (Tx.kv xs))):=by
 intro w hw;obtain⟨b,p,k0,o0,t0,v0,s0,A0,n0,c0,l0,q0,rfl,aE,ay,ax,aw,av,au,ar,a_,a6,ab,R,aB,aH⟩:=r_ hR HA w hw 0 iu;obtain⟨b',p',k1,o1,t1,v1,s1,A1,n1,c1,l1,q1,j,aD,aq,ao,an,al,ak,aj,a8,a1,aa,J,aA,aG⟩:=r_ hR HA w hw 1 iu;cases j;obtain⟨b',p',k2,o2,t2,v2,s2,A2,n2,c2,l2,q2,j,aC,ai,ah,ag,af,ae,ad,a7,U,a',I,az,aF⟩:=r_ hR HA w hw 2 iu;cases j;have hx:lG (iY (uF el 4 o t v s (jy el (Tx.kv xs))))=lG (((((([105,102,32]++l0)++[32,116,104,101,110,32])++l1)++[32,101,108,115,101,32])++l2)):=by
  rw[<- a_,<- a8,<- a7];unfold uF;simp (config:={ decide:=true }) only[↓reduceIte,iC,kH,jn,jl,ja];simp
 rw[hx,hn];obtain⟨S1,e1,g1⟩:=jh (A:=⟨#[105,102,32]⟩) (a:=[105,102,32]) (B:=lG l0) (b:=l0) rfl rfl (by simp;omega);obtain⟨S2,e2,g2⟩:=jh (B:=⟨#[32,116,104,101,110,32]⟩) (b:=[32,116,104,101,110,32]) e1 rfl (by simp;omega);obtain⟨S3,e3,g3⟩:=jh (B:=lG l1) (b:=l1) e2 rfl (by simp;omega);obtain⟨S4,e4,g4⟩:=jh (B:=⟨#[32,101,108,115,101,32]⟩) (b:=[32,101,108,115,101,32]) e3 rfl (by simp;omega);obtain⟨S5,e5,g5⟩:=jh (B:=lG l2) (b:=l2) e4 rfl (by simp;omega);rw[<- e5];simp only[zH,xP,Nat.one_mul,CL,Nat.reduceAdd,Nat.reduceMul]at ay ax aw av au ar aq ao an al ak aj ai ah ag af ae ad;unfold qE vr;clear hx hR HA a_ a6 ab R a8 a1 aa J a7 U a' I e1 e2 e3 e4 e5;go_in;go_wp2_with fail;refine iE kp kp ?_;repeat (go_big_quiet_step (first | (go_at_call 47;with_reducible exact mR (aB.out _ iR)) | (go_at_call 47;with_reducible exact mR (aA.out _ iR)) | (go_at_call 47;with_reducible exact mR (az.out _ iR))))
 refine wpQuiet_nil ?_;rintro _ ⟨y,rfl⟩;go_wp2;go_ret;exact⟨rfl,jP _ _⟩
theorem PU {o t v:Int} {s:yB} {A:zA} {n c:Nat} {L:List Ar} (hS:ID w0 eA ec el) (ht:qS el t) (hv:nq el t v=true) :
  oC 47 w0 (qE eA el ec mb) (vr 1 o t v s A n c) (uF el 1 o t v s L):=by
 intro w j;have J:=iy (fun U (I:ik w U)=>Ak (mb:=mb) hS U (ij j I) t v ht hv);rw[show uF el 1 o t v s L=wm el t v from rfl];unfold qE vr;go_in;go_wp2_with fail;refine (J _ iR).mono ?_;rintro e R ⟨rfl,y,rfl⟩;go_wp2;go_ret;exact⟨rfl,jP _ _⟩
theorem Ou {o t v:Int} {s:yB} {A:zA} {n c:Nat} {L:List Ar} :
  oC 47 w0 (qE eA el ec mb) (vr 2 o t v s A n c) (uF el 2 o t v s L):=by
 intro w I;have j:lG (iY (uF el 2 o t v s L))=s:=by rw[show uF el 2 o t v s L=[rM s] from rfl,lQ,ja,oV,qd]
 rw[j];unfold qE vr;go_in;go_wp2;go_ret;exact⟨rfl,jP _ _⟩
theorem MA {o t v:Int} {s:yB} {A:zA} {n c:Nat} {L:List Ar} (hs:s.size<=1000000) :
  oC 47 w0 (qE eA el ec mb) (vr 11 o t v s A n c) (uF el 11 o t v s L):=by
 intro w R;have j:lG (iY (uF el 11 o t v s L))=lG (([39]++s.data.toList)++[39]):=by rw[show uF el 11 o t v s L=[So s] from rfl,NQ,ja,oV];rfl
 rw[j];obtain⟨S1,J,g1⟩:=jh (A:=⟨#[39]⟩) (a:=[39]) (B:=s) rfl (qd s).symm (by simp;omega);obtain⟨S2,I,U⟩:=jh (B:=⟨#[39]⟩) (b:=[39]) J rfl (by simp;omega);rw[<- I];unfold qE vr;clear j J I hs;go_in;go_wp2;go_ret;exact⟨rfl,jP _ _⟩
theorem CM {k o t v:Int} {s:yB} {A:zA} {n c:Nat} {P:List Pc} (hk:k=3\/k=9\/k=10)
  (hs:oC (if k=3 then 88 else if k=9 then 91 else 92) w0 (qE eA el ec mb) (vr k o t v s A n c) P) :
  oC 47 w0 (qE eA el ec mb) (vr k o t v s A n c) P:=by
 intro w J;have j:=iy (fun U (R:ik w U)=>hs U (ij J R));unfold qE vr at j⊢;rcases hk with rfl | rfl | rfl
 ·rw[iG rfl]at j
  go_in;go_wp2_with fail;refine (j _ iR).mono ?_;rintro e I ⟨rfl,y,rfl⟩;go_wp2;go_ret;exact⟨rfl,jP _ _⟩
 ·rw[iV iI,iG rfl]at j
  go_in;go_wp2_with fail;refine (j _ iR).mono ?_;rintro e I ⟨rfl,y,rfl⟩;go_wp2;go_ret;exact⟨rfl,jP _ _⟩
 rw[iV iI,iV iI]at j;go_in;go_wp2_with fail;refine (j _ iR).mono ?_;rintro e I ⟨rfl,y,rfl⟩;go_wp2;go_ret;exact⟨rfl,jP _ _⟩
theorem OY {o t v:Int} {s:yB} {A:zA} {c:Nat} {xs:List Tx} (hR:RX w0 (.mk 8 o t v s A c xs)) (hn:xs.length=1) (HA:q_ el w0 (qE eA el ec mb) xs) (hS:ID w0 eA ec el) (ht:qS el t) (hv:nq el t v=true) (hs:s.size<=1000000) (hl:(iY (wm el t v)).length<=1000000) :
  oC 47 w0 (qE eA el ec mb) (vr 8 o t v s A xs c) (uF el 8 o t v s (jy el (Tx.kv xs))):=by
 intro w hw;obtain⟨b,p,k0,o0,t0,v0,s0,A0,n0,c0,l0,R,rfl,ad,aa,a',a_,a8,a7,a6,a1,J,I,j,ae,ab⟩:=r_ hR HA w hw 0 iu;have HC:=iy (fun U (hU:ik w U)=>yH (mb:=mb) hS U (ij hw hU) t v s iu ht hv iu);have hz:(iY (FX el t v s)).length<=2000010:=by
  unfold FX;rw[kH,jn,iC,jl,lQ,jl,ja];have:=jr s;simp at this⊢;omega
 have hx:lG (iY (uF el 8 o t v s (jy el (Tx.kv xs))))=lG ((R++[32])++iY (FX el t v s)):=by
  rw[<- I,show uF el 8 o t v s (jy el (Tx.kv xs))=kM (pF (jy el (Tx.kv xs)) 0)++.sp 32::FX el t v s from rfl,iC,jn];simp
 rw[hx,hn];generalize iY (FX el t v s)=z at HC hz;obtain⟨S1,e1,g1⟩:=jh (A:=lG R) (a:=R) (B:=⟨#[32]⟩) (b:=[32]) rfl rfl (by simp;omega);obtain⟨S2,e2,g2⟩:=jh (B:=lG z) (b:=z) e1 rfl (by simp;omega);rw[<- e2];simp only[zH,xP,Nat.one_mul,CL,Nat.reduceAdd,Nat.reduceMul]at aa a' a_ a8 a7 a6;unfold qE vr;clear hx hR HA a1 J I j e1 e2 hz hS ht hv hs hl;go_in;go_wp2_with fail;refine iE kp kp ?_;repeat (go_big_quiet_step (first | (go_at_call 89;with_reducible exact mR (ab.out _ iR)) | (go_at_call 90;with_reducible exact mR (HC.out _ iR))))
 refine wpQuiet_nil ?_;rintro _ ⟨y,rfl⟩;go_wp2;go_ret;exact⟨rfl,jP _ _⟩
end
theorem MV (el:List iW) (t:Int) {i:Nat} {l:List Ar} (hi:i<l):wj el t i (l.drop i)=.sp 32::mf [40]::(wm el t (if t=1 then 1-(i:Int) else i)++.sp 32::mf [45,62]::.sp 32::((l.getD i Ar.none_).l++mf [41]::wj el t (i+1) (l.drop (i+1)))):=by
 rw[MG hi,wj,wC,qn hi];rfl
section
variable {w0:yM} {eA:zA} {ec:Nat} {el:List iW} {mb:Nat}
theorem KV {o t v:Int} {s:yB} {A:zA} {c:Nat} {xs:List Tx} (hR:RX w0 (.mk 9 o t v s A c xs)) (HA:q_ el w0 (qE eA el ec mb) xs) (hS:ID w0 eA ec el) (ht:qS el t) (ht2:t≠2) (hn:xs.length=jV el t) (hT:(iY (uF el 9 o t v s (jy el (Tx.kv xs)))).length<=140737488355328) :
  oC 91 w0 (qE eA el ec mb) (vr 9 o t v s A xs c) (uF el 9 o t v s (jy el (Tx.kv xs))):=by
 intro w hw;obtain⟨L,hL⟩:=jt ((if t=1 then (jy el (Tx.kv xs)).reverse else jy el (Tx.kv xs)));have ar:L.length=xs:=by
  rw[<- hL];split
  ·rw[List.length_reverse,nD,nM]
  rw[nD,nM]
 have hx:iY (uF el 9 o t v s (jy el (Tx.kv xs)))=([109,101,114,103,101,32]++s.data.toList)++iY (wj el t 0 (L.drop 0)):=by
  rw[show uF el 9 o t v s (jy el (Tx.kv xs))=mB [109,101,114,103,101]::.sp 32::rM s::wj el t 0 (if t=1 then (jy el (Tx.kv xs)).reverse else jy el (Tx.kv xs)) from rfl,hL,sS,kH,jn,lQ];simp
 rw[hx]at hT⊢;obtain⟨S1,e1,g1⟩:=jh (A:=⟨#[109,101,114,103,101,32]⟩) (a:=[109,101,114,103,101,32]) (B:=s) rfl (qd s).symm (by simp at hT⊢;omega);obtain⟨X,hX⟩:=jt (([109,101,114,103,101,32]++s.data.toList)++iY (wj el t 0 (L.drop 0)));rw[hX]at hT⊢;have HI:=iy (show ∃x,S1=lG x/\x++iY (wj el t 0 (L.drop 0))=X from⟨_,e1,hX⟩);have HL:=iy hL;have hN:=(hR.bounds).2.2.2;simp only[Tx.args]at hN;unfold qE vr;have ad:=iy hn;clear hx hX e1 hL hn;go_in;go_wp2_with fail;obtain⟨W1,ab,al,ak⟩:∃W1,W1=((w.alloc (.cells #[(eA,el,ec),.map (some mb)] 47)).alloc (.cells #[.int .i64 9,o,t,v,s,(A,xs,c)] 73))/\ik w W1/\True:=⟨_,rfl,iR,trivial⟩;go_loopw [5,14] (fun v5 J wr=>∃(i:Nat) (S:yB),i<=xs.length/\J=.int .i64 i/\v5=.string S/\Hid (∃x,S=lG x/\x++iY (wj el t i (L.drop i))=X)/\Hid (∃y,wr=W1.more y)) (fun _ J _=>xs.length-(intOf J).toNat)
 ·exact⟨0,S1,iu,rfl,rfl,HI,by show ∃y,_=W1.more y;rw[ab];exact jP _ _⟩
 case round=>
 obtain⟨i,S,hi,rfl,rfl,HX,HW⟩:=hrel;obtain⟨y0,rfl⟩:=HW.out;subst ab;clear HI g1 HW al ak;by_cases a1:i<xs
 ·obtain⟨x,ex,j⟩:=HX.out
  rw[MV el t iu,show (.sp 32::mf [40]::(wm el t (if t=1 then 1-(i:Int) else i)++.sp 32::mf [45,62]::.sp 32::((L.getD i Ar.none_).l++mf [41]::wj el t (i+1) (L.drop (i+1)))):List Pc)=[.sp 32,mf [40]]++(wm el t (if t=1 then 1-(i:Int) else i)++([.sp 32,mf [45,62],.sp 32]++((L.getD i Ar.none_).l++([mf [41]]++wj el t (i+1) (L.drop (i+1)))))) from rfl,iC,iC,iC,iC,iC]at j;obtain⟨vi,af,R,a8⟩:∃vi:Nat,vi<xs/\(if t=1 then 1-(i:Int) else i)=(vi:Int)/\L.getD i Ar.none_=pF (jy el (Tx.kv xs)) vi:=by
   rw[<- HL.out];by_cases I:t=1
   ·have h2:xs.length=2:=by rw[ad.out,I];rfl
    refine⟨1-i,iu,by rw[iG I];omega,?_⟩;rw[iG I];unfold pF;rw[wC,wC,List.getElem?_reverse (by rw[nD,nM];omega),nD,nM,h2]
   exact⟨i,a1,by rw[iV I],by rw[iV I];rfl⟩
  rw[R,a8]at j;have a7:nq el t vi=true:=by
   unfold nq;rw[iV ht2,<- ad.out];simp only[mT,decide_eq_true_eq];omega
  obtain⟨b,p,k0,o0,t0,v0,s0,A0,n0,c0,l0,q0,ai,aq,az,ay,ax,aw,av,au,aa,a',ag,a_,ae,an⟩:=r_ hR HA (((w.alloc (.cells #[(eA,el,ec),.map (some mb)] 47)).alloc (.cells #[.int .i64 9,o,t,v,s,(A,xs,c)] 73)).more y0) (ij hw iR) vi af;have HC:=iy (fun U (hU:ik w U)=>Ak (mb:=mb) hS U (ij hw hU) t vi ht a7);rw[aa]at j;generalize iY (wm el t vi)=z at HC j;have a6:=nQ List.length j;simp[jn,jl,ja]at a6 hT;obtain⟨S2,e2,g2⟩:=jh (A:=⟨#[32,40]⟩) (a:=[32,40]) (B:=lG z) rfl rfl (by simp;omega);obtain⟨S3,e3,g3⟩:=jh (B:=⟨#[32,45,62,32]⟩) (b:=[32,45,62,32]) e2 rfl (by simp;omega);obtain⟨S4,e4,g4⟩:=jh (B:=lG l0) e3 rfl (by simp;omega);obtain⟨S5,e5,g5⟩:=jh (B:=⟨#[41]⟩) (b:=[41]) e4 rfl (by simp;omega);obtain⟨S6,e6,g6⟩:=jh ex e5 (by simp;omega);have HR:=iy (show ∃x,S6=lG x/\x++iY (wj el t (i+1) (L.drop (i+1)))=X from⟨_,e6,by rw[<- j];simp[jn,jl,ja]⟩);subst ai;clear aa ag j a6 e2 e3 e4 e5 e6 ex HX a8 a7 hR HA hS hT a' a_ an;have ah:(i:Int)<(xs:Int):=iu;by_cases I:t=1
  ·rw[iG I]at R
   subst I;have ao:(vi:Int)<(xs:Int):=iu;generalize xs=n9 at *
   have aj:¬((n9:Int)<=(vi:Int)):=iu;go_wp2_with fail;refine iE kp kp ?_;repeat (go_big_quiet_step ((first | (go_at_call 87;with_reducible exact mR (HC.out _ iR)) | (go_at_call 47;with_reducible exact mR (ae.out _ iR)))))
   refine wpQuiet_nil ?_;rintro _ ⟨y,rfl⟩;go_wp2;go_roundw
   case rel=>exact⟨_,S6,a1,by go_num,rfl,HR.out,jP _ _⟩
   case measure=>simp[intOf]<;>omega
  rw[iV I]at R;obtain rfl:vi=i:=iu;generalize xs=n9 at *
  have aj:¬((n9:Int)<=(vi:Int)):=iu;go_wp2_with fail;refine iE kp kp ?_;repeat (go_big_quiet_step ((first | (go_at_call 87;with_reducible exact mR (HC.out _ iR)) | (go_at_call 47;with_reducible exact mR (ae.out _ iR)))))
  refine wpQuiet_nil ?_;rintro _ ⟨y,rfl⟩;go_wp2;go_roundw
  case rel=>exact⟨_,S6,a1,by go_num,rfl,HR.out,jP _ _⟩
  case measure=>simp[intOf]<;>omega
 obtain rfl:i=xs:=iu;obtain⟨x,ex,j⟩:=HX;have ah:¬((xs:Int)<(xs:Int)):=iu;obtain rfl:S=lG X:=by
  rw[ex,<- j,List.drop_of_length_le iu,wj,ja,oV]
 go_wp2;go_ret;exact⟨rfl,jP _ _⟩
end
theorem Cr:(prog.info? 9).map (fun i=>(i.zero,i.size,i.bytes))=some (some (.string ByteArray.empty),1,16):=by kernel_rfl
def G0 (l:List yB):zO:=l.map Value.string
def Fh (L:List Ar):List yB:=L.map fun a=>lG (iY a.l)
theorem wV (sep:List Pc):∀l:List (List Pc),iY (mq sep l)=Lib.join (l.map iY) (iY sep)
 |[]=>rfl
 |[a]=>by rw[mq,mJ,Lib.join_cons];simp[Lib.joinTail]
 |a::b::l=>by
  rw[mq,iC,iC,wV sep (b::l),mJ,mJ,Lib.join_cons,Lib.join_cons];simp[Lib.joinTail]
structure qi (w:yM) (A:zA) (c:Nat) (l:List yB):Prop where
 cap:l<=c
 len:l.length<=140737488355328
 cells:l=[]\/∃g o,A=some ⟨g,o,none⟩/\g<w.heap.size/\∀j s,l[j]?=some s->w.cell? ⟨g,o+j,none⟩=some (.string s)
theorem qi.so {w:yM} {A:zA} {c n:Nat} {l:List yB} {B:Nat} {t:TypeId} (own:w.ownsRow B t 1 (.slice A n c) n (G0 l)) (hn:l=n) (hl:n<=140737488355328):qi w A c l:=by
 subst hn;obtain⟨A',c',o,U,h2⟩:=ji own;cases o;refine⟨U,hl,?_⟩;rcases own.2 with⟨o,h0⟩ | ⟨g,cap,cur,o,hbg,hh,hnc,hcap,hsz,htk⟩
 ·exact .inl (B_ h0)
 injection o with hA
 subst hA;have I:g<w:=by
  rcases qa g w with J | J
  ·exact J
  rw[FF J]at hh;cases hh
 refine .inr ⟨g,0,rfl,I,fun j s R=>?_⟩;have:=own.cells (g:=g) rfl j (.string s) (by simp[G0,R]);rw[yb]at this;exact this
theorem qi.join {w:yM} {A:zA} {c:Nat} {l:List yB} (h:qi w A c l) (sep:yB) (hlen:(Lib.join (l.map (·.data.toList)) sep.data.toList).length<=140737488355328) (U:yM) (hU:ik w U) :
  Calls prog 18 #[(A,l,c),sep] U fun e w'=>e=.returned (.string (lG (Lib.join (l.map (·.data.toList)) sep.data.toList)))/\∃y,w'=U.more y:=by
 rcases h.cells with rfl | ⟨g,o,rfl,hg,hc⟩
 ·refine (strings_Join_none A c sep U).mono ?_
  rintro e w' ⟨rfl,rfl⟩;exact⟨rfl,jP _ _⟩
 refine (strings_Join g o c l sep U (fun j x I=>?_) (rO hg hU.below.size) h.len h.cap hlen).mono ?_
 ·rw[show U.cell? (g,o+j)=w.cell? (g,o+j) from hU.below.cell (p:=(g,o+j)) hg]
  exact hc j x I
 rintro e w' ⟨rfl,J⟩;exact⟨rfl,Below.uu J⟩
theorem zC (L:List Ar) (sep:List Pc):Lib.join ((Fh L).map (·.data.toList)) (iY sep)=iY (mq sep (L.map Ar.l)):=by
 rw[wV];congr 1;unfold Fh;rw[xZ,xZ];exact IL fun a _=>Cd _
theorem GB (L:List Ar) {k:Nat} (hk:k<L) {x:List UInt8} (hx:iY (pF L k).l=x):G0 (Fh (L.take k))++[.string (lG x)]=G0 (Fh (L.take (k+1))):=by
 have j:pF L k=L[k]:=by unfold pF;rw[wC,qn hk];rfl
 rw[<- hx,j,IX hk];unfold G0 Fh;rw[s_,s_];rfl
section
variable {w0:yM} {eA:zA} {ec:Nat} {el:List iW} {mb:Nat}
theorem OK {o t:Int} {s:yB} {A:zA} {c:Nat} {xs:List Tx} (hR:RX w0 (.mk 10 o t 0 s A c xs)) (HA:q_ el w0 (qE eA el ec mb) xs) (hm:xs.length<=1000000) (hT:(iY (uF el 10 o t 0 s (jy el (Tx.kv xs)))).length<=140737488355328) :
  oC 92 w0 (qE eA el ec mb) (vr 10 o t 0 s A xs c) (uF el 10 o t 0 s (jy el (Tx.kv xs))):=by
 intro w hw;have a8:=(hR.bounds).2.1;have hN:=(hR.bounds).2.2.2;simp only[Tx.args,Tx.cap]at hN a8;obtain⟨L,hL⟩:=jt (jy el (Tx.kv xs));have a':L.length=xs:=by rw[<- hL,nD,nM]
 rw[hL]at hT⊢;have hx:iY (uF el 10 o t 0 s L)=((s.data.toList++[40])++iY (mq qR (L.map Ar.l)))++[41]:=by
  rw[show uF el 10 o t 0 s L=rM s::mf [40]::(mq qR ((L.take L.length).map Ar.l)++mf [41]::[]) from rfl,pf,lQ,jl,iC,jl,ja];simp
 rw[hx]at hT⊢;have aa:=jr s;simp only[mo,xH]at hT;obtain⟨S1,e1,g1⟩:=jh (A:=s) (B:=⟨#[40]⟩) (b:=[40]) (qd s).symm rfl (by simp;omega);obtain⟨S2,e2,g2⟩:=jh (B:=lG (iY (mq qR (L.map Ar.l)))) e1 rfl (by simp;omega);obtain⟨S3,e3,g3⟩:=jh (B:=⟨#[41]⟩) (b:=[41]) e2 rfl (by simp;omega);rw[<- e3];have a7:(Lib.join ((Fh L).map (·.data.toList)) (⟨#[44,32]⟩:yB).data.toList).length<=140737488355328:=by
  rw[show ((⟨#[44,32]⟩:yB).data.toList)=iY qR from rfl,zC];omega
 have HJ:=iy a7;have HL:=iy hL;have j:=iB a';unfold qE vr;clear hL a' hT e1 e2 e3 hx a7 aa;go_in;go_wp2_with fail;obtain⟨W1,a_⟩:∃W1,W1=((w.alloc (.cells #[(eA,el,ec),.map (some mb)] 47)).alloc (.cells #[.int .i64 10,o,t,JX,s,(A,xs,c)] 73)):=⟨_,rfl⟩;go_loopw [6,21] (fun v i wr=>∃(k:Nat) (A':zA) (R:Nat),k<=xs.length/\i=.int .i64 k/\v=.slice A' k R/\Hid (wr.ownsRow W1 9 1 (.slice A' k R) k (G0 (Fh (L.take k))))/\Hid (∃y,wr=W1.more y)) (fun _ i _=>xs.length-(intOf i).toNat)
 ·exact⟨0,none,0,by omega,rfl,rfl,FL _ _ _ _,by show ∃y,_=W1.more y;rw[a_];exact jP _ _⟩
 case round=>
 obtain⟨k,A',R,hk,rfl,rfl,HO,HW⟩:=hrel;obtain⟨y0,rfl⟩:=HW.out;subst a_;clear HW;by_cases a6:k<xs
 ·obtain⟨b,p,k0,o0,t0,v0,s0,A0,n0,c0,l0,q0,ae,aj,ar,aq,ao,an,al,ak,I,ai,ab,a1,ah,ag⟩:=r_ hR HA (((w.alloc (.cells #[(eA,el,ec),.map (some mb)] 47)).alloc (.cells #[.int .i64 10,o,t,JX,s,(A,xs,c)] 73)).more y0) (ij hw zc) k a6
  subst ae;have ad:(k:Int)<(xs:Int):=by omega
  rw[HL.out]at I;have HT:=iB (GB L (by rw[j.out];exact a6) I);clear hR HA ab a1 ag I;go_wp2_with fail;refine (ah _ zc).mono ?_;rintro e V ⟨rfl,hy⟩;have aV:ik ((w.alloc (.cells #[(eA,el,ec),.map (some mb)] 47)).alloc (.cells #[.int .i64 10,o,t,JX,s,.slice (b,p) xs.length c] 73)) V:=ny hy zc;have af:Hid (V.ownsRow ((w.alloc (.cells #[(eA,el,ec),.map (some mb)] 47)).alloc (.cells #[.int .i64 10,o,t,JX,s,.slice (b,p) xs.length c] 73)).heap.size 9 1 (.slice A' k R) k (G0 (Fh (L.take k)))):=nF HO (ny hy zc);clear hy HO;go_wp2_with (at_builtin;refine mh (w0:=(w.alloc (.cells #[(eA,el,ec),.map (some mb)] 47)).alloc (.cells #[.int .i64 10,o,t,JX,s,.slice (b,p) xs.length c] 73)) V rfl (.tmp 25) (.tmp 29) 55 rfl 9 _ 16 underlying55 Cr rfl (.slice A' k R) k _ (.string (lG l0)) rfl af rfl rfl (by omega) (by omega) ?_;intro v1 w4 hown1 haft1;replace hown1:=iB hown1)
  obtain⟨A1,c1,rfl,_,_⟩:=ji hown1.out;go_roundw
  case rel=>exact⟨k+1,A1,c1,iu,by go_num,rfl,by show World.ownsRow _ _ _ _ _ _ _;rw[<- HT.out];exact hown1.out,jP _ _⟩
  case measure=>simp[intOf];omega
 obtain rfl:k=xs:=iu;have ad:¬((xs:Int)<(xs:Int)):=iu;have HS:=iy (show qi (((w.alloc (.cells #[(eA,el,ec),.map (some mb)] 47)).alloc (.cells #[.int .i64 10,o,t,JX,s,(A,xs,c)] 73)).more y0) A' R (Fh L) from by
  have:=qi.so HO (by unfold Fh;rw[pE,Fi,j.out];omega) iu;rwa [Dn (by rw[j.out];omega)]at this)
 have HC:=iy (fun U hU=>HS.out.join ⟨#[44,32]⟩ HJ.out U hU);rw[show (Fh L).length=xs.length by unfold Fh;rw[pE,j.out],show ((⟨#[44,32]⟩:yB).data.toList)=iY qR from rfl,zC]at HC;generalize lG (iY (mq qR (L.map Ar.l)))=J at HC g2;clear HO HS hR HA HJ HL j;generalize xs=n9 at *
 go_wp2_with fail;refine iE kp kp ?_;repeat (go_big_quiet_step ((go_at_call 18;with_reducible exact mR (HC.out _ iR))))
 refine wpQuiet_nil ?_;rintro _ ⟨y,rfl⟩;go_wp2;go_ret;exact⟨rfl,jP _ _⟩
theorem O0 {o t:Int} {s:yB} {A:zA} {c:Nat} {xs:List Tx} (hR:RX w0 (.mk 10 o t 1 s A c xs)) (HA:q_ el w0 (qE eA el ec mb) xs) (h1n:1<=xs.length) (hm:xs.length<=1000000) (hT:(iY (uF el 10 o t 1 s (jy el (Tx.kv xs)))).length<=140737488355328) :
  oC 92 w0 (qE eA el ec mb) (vr 10 o t 1 s A xs c) (uF el 10 o t 1 s (jy el (Tx.kv xs))):=by
 intro w hw;have a8:=(hR.bounds).2.1;have hN:=(hR.bounds).2.2.2;simp only[Tx.args,Tx.cap]at hN a8;obtain⟨L,hL⟩:=jt (jy el (Tx.kv xs));have aa:L.length=xs:=by rw[<- hL,nD,nM]
 rw[hL]at hT⊢;obtain⟨m,a6⟩:∃m,xs.length=m+1:=⟨xs.length-1,by omega⟩;obtain⟨bz,R,kz,oz,tz,vz,sz,Az,nz,cz,lz,qz,aj,ax,aI,aH,aG,aF,aE,aD,ah,av,j,au,aq,al⟩:=r_ hR HA w hw m (by omega);rw[hL]at j;have hx:iY (uF el 10 o t 1 s L)=((((s.data.toList++[40])++iY (mq qR ((L.take m).map Ar.l)))++[41]))++([32,101,118,101,114,121,32]++qz):=by
  rw[show uF el 10 o t 1 s L=rM s::mf [40]::(mq qR ((L.take (L.length-1)).map Ar.l)++mf [41]::(.sp 32::mB [101,118,101,114,121]::.sp 32::kM (pF L (L.length-1)))) from rfl,show L.length-1=m by omega,lQ,jl,iC,jl,jn,kH,jn,j];simp
 obtain⟨M,hM⟩:=jt (L.take m);have a':M=m:=by rw[<- hM,Fi];omega
 rw[hM]at hx;rw[hx]at hT⊢;rw[a6];have az:IntKind.i64.wrap ((m:Int)+1-1)=m:=(IntWalk.i64_in ((m:Int)+1-1) (by omega)).trans (by omega);have ay:=IntWalk.i64_in (m:Int) iu;have aA:(m:Int)<=(c:Int):=iu;have ad:=iB a';have ab:=iB hM;have HM:=iB a6;have af:=jr s;simp only[mo,xH]at hT;obtain⟨S1,e1,g1⟩:=jh (A:=s) (B:=⟨#[40]⟩) (b:=[40]) (qd s).symm rfl (by simp;omega);obtain⟨S2,e2,g2⟩:=jh (B:=lG (iY (mq qR (M.map Ar.l)))) e1 rfl (by simp;omega);obtain⟨S3,e3,g3⟩:=jh (B:=⟨#[41]⟩) (b:=[41]) e2 rfl (by simp;omega);obtain⟨S4,e4,g4⟩:=jh (A:=⟨#[32,101,118,101,114,121,32]⟩) (a:=[32,101,118,101,114,121,32]) (B:=lG qz) rfl rfl (by simp;omega);obtain⟨S5,e5,g5⟩:=jh e3 e4 (by simp;omega);rw[<- e5];have a7:(Lib.join ((Fh M).map (·.data.toList)) (⟨#[44,32]⟩:yB).data.toList).length<=140737488355328:=by
  rw[show ((⟨#[44,32]⟩:yB).data.toList)=iY qR from rfl,zC];omega
 have HJ:=iB a7;have HL:=iB hL;have ae:=iB aa;unfold qE vr;subst aj;clear hL aa hT e1 e2 e3 e4 e5 hx a7 af ah j hM a' aq;go_in;go_wp2_with fail;obtain⟨W1,a_⟩:∃W1,W1=((w.alloc (.cells #[(eA,el,ec),.map (some mb)] 47)).alloc (.cells #[.int .i64 10,o,t,.int .i64 1,s,.slice (bz,R) (m+1) c] 73)):=⟨_,rfl⟩;go_loopw [6,21] (fun v i wr=>∃(k:Nat) (A':zA) (c':Nat),k<=m/\i=.int .i64 k/\v=.slice A' k c'/\Hid (wr.ownsRow W1 9 1 (.slice A' k c') k (G0 (Fh (L.take k))))/\Hid (∃y,wr=W1.more y)) (fun _ i _=>m-(intOf i).toNat)
 ·exact⟨0,none,0,by omega,rfl,rfl,FL _ _ _ _,by show ∃y,_=W1.more y;rw[a_];exact jP _ _⟩
 case round=>
 obtain⟨k,A',c',hk,rfl,rfl,HO,HW⟩:=hrel;obtain⟨y0,rfl⟩:=HW.out;subst a_;clear HW;by_cases aB:k<m
 ·obtain⟨b,p,k0,o0,t0,v0,s0,A0,n0,c0,l0,q0,ak,aC,aO,aN,aM,aL,aK,aJ,I,aw,ag,a1,ar,ao⟩:=r_ hR HA (((w.alloc (.cells #[(eA,el,ec),.map (some mb)] 47)).alloc (.cells #[.int .i64 10,o,t,.int .i64 1,s,.slice (bz,R) (m+1) c] 73)).more y0) (ij hw zc) k (by have:=HM.out;omega)
  cases ak;have ai:(k:Int)<(m:Int):=by omega
  rw[HL.out]at I;have HT:=iB (GB L (by rw[ae.out,HM.out];omega) I);clear hR HA ag a1 ao I;go_wp2_with fail;refine (ar _ zc).mono ?_;rintro e V ⟨rfl,hy⟩;have aV:ik ((w.alloc (.cells #[(eA,el,ec),.map (some mb)] 47)).alloc (.cells #[.int .i64 10,o,t,.int .i64 1,s,.slice (bz,R) (m+1) c] 73)) V:=ny hy zc;have an:Hid (V.ownsRow ((w.alloc (.cells #[(eA,el,ec),.map (some mb)] 47)).alloc (.cells #[.int .i64 10,o,t,.int .i64 1,s,.slice (bz,R) (m+1) c] 73)).heap.size 9 1 (.slice A' k c') k (G0 (Fh (L.take k)))):=nF HO.out (ny hy zc);clear hy HO;go_wp2_with (at_builtin;refine mh (w0:=(w.alloc (.cells #[(eA,el,ec),.map (some mb)] 47)).alloc (.cells #[.int .i64 10,o,t,.int .i64 1,s,.slice (bz,R) (m+1) c] 73)) V rfl (.tmp 25) (.tmp 29) 55 rfl 9 _ 16 underlying55 Cr rfl (.slice A' k c') k _ (.string (lG l0)) rfl an.out rfl rfl (by omega) (by omega) ?_;intro v1 w4 hown1 haft1;replace hown1:=iB hown1)
  obtain⟨A1,c1,rfl,_,_⟩:=ji hown1.out;go_roundw
  case rel=>exact⟨k+1,A1,c1,iu,by go_num,rfl,by show World.ownsRow _ _ _ _ _ _ _;rw[<- HT.out];exact hown1.out,jP _ _⟩
  case measure=>simp[intOf];omega
 obtain rfl:k=m:=iu;have ai:¬((k:Int)<(k:Int)):=iu;have HS:=iy (show qi (((w.alloc (.cells #[(eA,el,ec),.map (some mb)] 47)).alloc (.cells #[.int .i64 10,o,t,.int .i64 1,s,.slice (bz,R) (k+1) c] 73)).more y0) A' c' (Fh M) from by
  have:=qi.so HO.out (by unfold Fh;rw[pE,ab.out,ad.out]) iu;rwa [ab.out]at this)
 have HC:=iy (fun U hU=>HS.out.join ⟨#[44,32]⟩ HJ.out U hU);rw[show (Fh M).length=k by unfold Fh;rw[pE,ad.out],show ((⟨#[44,32]⟩:yB).data.toList)=iY qR from rfl,zC]at HC;generalize lG (iY (mq qR (M.map Ar.l)))=J at HC g2;clear HO HS hR HA HJ HL ae;go_wp2_with fail;refine iE kp kp ?_;repeat (go_big_quiet_step ((go_at_call 18;with_reducible exact mR (HC.out _ iR))))
 refine wpQuiet_nil ?_;rintro _ ⟨y,rfl⟩;go_wp2_with fail;refine iE kp kp ?_;repeat (go_big_quiet_step ((go_at_call 89;with_reducible exact mR (al.out _ iR))))
 refine wpQuiet_nil ?_;rintro _ ⟨y,rfl⟩;go_wp2;go_ret;exact⟨rfl,jP _ _⟩
theorem yJ (hS:ID w0 eA ec el) (HS:uH w0 mb 14 GG) (hT:mL el):∀(N:Nat) (x:Tx),N<=400->mK x.er<=N->RX w0 x->GE el x.er ->
  oC 47 w0 (qE eA el ec mb) (S9 x) (kX el x.er)
 |0,.mk k o t v s A c xs,_,hsz,_,_=>by rw[Tx.er,mK]at hsz;omega
 |N+1,.mk k o t v s A c xs,hN,hsz,hR,hg=>by
  have hlen:=yU hT _ hg;rw[Tx.er]at hg hsz hlen⊢;have hlen9:(iY (kX el (.mk k o t v s (Tx.kv xs)))).length<=80000:=iu;rw[GE,nM]at hg;rw[mK]at hsz;rw[kX]at hlen9⊢;have HA:q_ el w0 (qE eA el ec mb) xs:=fun i a hi=>by
   have h1:(Tx.kv xs)[i]?=some a.er:=by rw[EK,hi];rfl
   have h2:=F' h1;have h3:=hg.2.get h1;have h4:=yU hT _ h3;exact⟨yJ hS HS hT N a (by omega) (by omega) (hR.all a (om hi)) h3,by omega⟩
  obtain⟨hn64,⟨rfl,rfl,hn,rfl,ht,hv⟩ | ⟨rfl,rfl,rfl,rfl,hn,hs⟩ | ⟨rfl,ho,rfl,rfl,rfl⟩ | ⟨hk,rfl,rfl,rfl,rfl⟩ | ⟨rfl,rfl,hn,ht2,ht,hv,hs⟩ | ⟨rfl,rfl,rfl,ht2,ht,hn,h1n,hs⟩ | ⟨rfl,rfl,rfl,hv,hs⟩ | ⟨rfl,rfl,rfl,rfl,hn,hs⟩⟩:=hg.1
  ·exact PU hS ht hv
  ·exact Ou
  ·refine CM (.inl rfl) ?_
   rw[iG rfl];rcases ho with⟨h1,h2,hn⟩ | ⟨h1,h2,hn⟩
   ·rcases (by omega:o=1\/o=2) with rfl | rfl
    ·exact GV hR hn HA
    exact Gg hR hn HA
   exact GS ⟨h1,h2⟩ hR hn HA HS
  ·rcases hk with⟨rfl,hn⟩ | ⟨rfl,hn⟩ | ⟨rfl,hn⟩ | ⟨rfl,hn⟩
   ·exact PG hR hn HA
   ·exact Pr hR hn HA
   ·exact O_ hR hn HA
   exact OW hR hn HA
  ·have:=jM hs
   have:=xw hT hv;exact OY hR hn HA hS ht hv iu iu
  ·refine CM (.inr (.inl rfl)) ?_
   rw[iV iI,iG rfl];exact KV hR HA hS ht ht2 hn iu
  ·refine CM (.inr (.inr rfl)) ?_
   rw[iV iI,iV iI];rcases hv with rfl | ⟨rfl,hn⟩
   ·exact OK hR HA iu iu
   exact O0 hR HA hn iu iu
  have:=AW hs;exact MA iu
theorem vh (hS:ID w0 eA ec el) (HS:uH w0 mb 14 GG) (hT:mL el) {x:Tx} (hR:RX w0 x) (h:qk el x=0) :
  oC 47 w0 (qE eA el ec mb) (S9 x) (kX el x.er)/\(iY (kX el x.er)).length<=80000:=by
 obtain⟨o,j⟩:=Ki h;rw[zg]at j;have I:=yU hT _ o;exact⟨yJ hS HS hT 400 x (js _) j hR o,by omega⟩
end
end Go.Proofs.YtnigblndonocfaaGreatDoor
