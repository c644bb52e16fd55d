/- A part of the proof. -/
import Derived.Test.YtnigblndonocfaaGreatDoorP10
set_option linter.unusedVariables false
set_option linter.unusedSimpArgs false
namespace Go.Proofs.YtnigblndonocfaaGreatDoor
set_option maxRecDepth 100000
set_option maxHeartbeats 6400000
open Go.RowKit Go.BigFrame Go.Proofs.Tryz
section
variable {B:yM} {q:Nat} {A:zA} {c:Nat} {L:List Tk} {en:Int} {eA:zA} {ec:Nat} {el:List iW} {w w0 w1:yM} {i:Nat}
def N5 (el:List iW) (k m:Nat) (ss:List Ci) (ts:List Tk):Option (BU×List Tk):=
 (pV ts).bind fun (s,r)=>(oG el r).bind fun (lo,r)=>(pD el k ⟨#[117,110,108,101,115,115]⟩ 4 [] r).bind fun (u,r)=>(iF [⟨#[100,111]⟩] r).bind fun (_,r)=>(mu el k (m-1) [] [] r).bind fun (b,r)=>(pD el k ⟨#[117,110,116,105,108]⟩ 4 [] r).bind fun (v,r)=>(iF [⟨#[100,111,110,101]⟩] r).bind fun (_,r)=>pq el k m (ss++[⟨s,lo,b.1,b.2,u,v⟩]) r
def Nd (ss:List Ci) (ts:List Tk):Option (BU×List Tk):=
 (iF [⟨#[101,110,100]⟩] ts).bind fun (_,r)=>(ss.mapM (wW (ss.map Ci.name))).bind fun l=>some (.mk l,r)
theorem M2 (el:List iW) (k m:Nat) (ss:List Ci) (ts:List Tk):pq el (k+1) m ss ts=if jq ⟨#[115,116,97,116,101]⟩ ts then (if 8<=ss.length then none else N5 el k m ss ts.tail) else Nd ss ts:=by rw[pq];rfl
theorem NM (rs:List SR):(rs.map SR.sn).map Ci.name=rs.map fun r=>r.st.name:=by rw[xZ];rfl
theorem Db {k m:Nat} (hm:m<=3) (hm1:1<=m) (htag:∀u∈el,u.tags.l.length<=16) (hel:el.length<=1000) (C:∀j≤k,CB B q A c L en eA ec el j) (h:Rd B q A c L en eA ec el w i) (hk:20*(L-i)+40<=k+1):Calls prog 117 #[.pointer q,((3-m:Nat):Int)] w (pk B q A c L en eA ec el w i (pq el (k+1) m [] (L.drop i)) (VG pM FC AuT.er w)):=by
 obtain⟨dp,gf⟩:∃d:Nat,3-m=d:=⟨_,rfl⟩;rw[gf];obtain⟨X,hX⟩:=jt (pq el (k+1) m [] (L.drop i));rw[hX];obtain⟨i0,eH⟩:=jt i;rw[eH]at hX h hk⊢;clear eH;have HX:=iB hX.symm;have fJ:Hid (i0<=i0):=js _;clear hX;have hq:=h.blk.lt;have gh:=h.base;obtain⟨r,hr⟩:=jt w.heap.size;have dd:r≠q:=by omega
 have hU:q<r:=by omega
 obtain⟨w0,fV,aw0,B0,R0,s0⟩:=Ls h hr dd #[()] 131;have HB:=iB B0;have a0:ik (iz q w0) (iz q w0):=iq _;have h_:q<w0:=by omega
 have h':B.heap.size<=w0:=by omega
 clear h B0;obtain⟨ra,ek⟩:=jt w0.heap.size;have aI:ra≠q:=by omega
 obtain⟨n1,hZ⟩:=jt (ra+1);obtain⟨w1,e8,a1,B1,R1,s1⟩:∃v,w0.alloc (.cells #[()] 131)=v/\ik (iz q w0) (iz q v)/\Hid (iP v ra 131 #[()])/\Hid (Rd B q A c L en eA ec el v i0)/\Hid (n1<=v):=⟨_,rfl,im zc,by rw[<- ek];exact jC ..,R0.out.after zc,by (show _<=_;rw[iH];omega)⟩;have a8:q<n1:=by omega
 have d_:B<=n1:=by omega
 have dN:w0<=n1:=by omega
 have dM:ra<n1:=by omega
 have rn:r<n1:=by omega
 have h4:Hid (∀j≤k,∀(W:yM) (i':Nat),Rd B q A c L en eA ec el W i'->20*(L-i')+30<=j->Calls prog 72 #[.pointer q,((dp:Nat)+1:Int)] W (pk B q A c L en eA ec el W i' (mu el j (m-1) [] [] (L.drop i')) (VB W))):=by
  show ∀j≤k,_
  intro j hj W i' hR hf;have:=(C j hj).b W i' (m-1) (by omega) hR hf;rwa [show 3-(m-1)=dp+1 by omega]at this
 have cI:=iB e8;clear C e8 s0;go_in;go_wp2_with fail;try rw[hr]
 try rw[fV]
 try rw[ek]
 try rw[cI.out]
 have cZ:=s1.out;go_loopw [6] (fun v6 wr=>∃(i' f:Nat) (F:Nat->Bool) (vS:Value) (J:List SR),Hid (i0<=i')/\f<=k+1/\20*(L-i')+40<=f/\J.length<=8/\Hid (X=pq el f m (J.map SR.sn) (L.drop i'))/\Hid (Rd B q A c L en eA ec el wr i')/\ik (iz q w0) (iz q wr)/\n1<=wr.heap.size/\Hid (iP wr ra 131 #[vS])/\Hid (pC n1 F wr vS v6 J (jb J) [])/\Hid (tq J)) (fun _ wr=>L.length-lO wr q 2)
 ·exact⟨i0,k+1,fun b=>decide (b<n1),.slice none 0 0,[],fJ,js _,hk,wB _,HX,R1,a1,cZ,B1,pC.nil cZ,iB (fun i r h=>by simp at h)⟩
 case round=>
 clear HX R0 R1 B1 s1 cZ cI;obtain⟨i2,f,F,vS,J,e4,i6,i1,ej,HX,dE,gI,R,B5,I,HL⟩:=hrel;obtain⟨f,rfl⟩:∃j,f=j+1:=⟨f-1,by omega⟩;have d1:Hid (lO wr q 2=i2):=iB (je dE.out.fields.2.2.1);obtain⟨A5,c5,fY,_,_⟩:=ji I.out.st.own;subst fY;obtain⟨A6,c6,fX,_,_⟩:=ji I.out.go.own;subst fX;replace HX:Hid (X=if jq ⟨#[115,116,97,116,101]⟩ (L.drop i2) then (if 8<=(J.map SR.sn).length then none else N5 el f m (J.map SR.sn) (L.drop i2).tail) else Nd (J.map SR.sn) (L.drop i2)):=by (show _=_;rw[HX.out,M2])
 have HC:=iB (nK dE.out ⟨#[115,116,97,116,101]⟩);obtain⟨zk,da⟩:=jt (jq ⟨#[115,116,97,116,101]⟩ (L.drop i2));rw[da]at HC HX;have HZ:=iB da;clear da;go_wp2_with fail;refine HC.out.mono ?_;clear HC;rintro e ck ⟨rfl,aN⟩;have dD:=iB (dE.out.after aN);have bH:ik (iz q wr) (iz q ck):=im (q:=q) aN;have fa:=ij gI bH;have ct:=e4;clear aN;replace B5:Hid (iP ck ra 131 #[(.slice A5 J c5)]):=iB (kq B5.out aI bH);have a7:F q=true:=I.out.fam.low q a8;clear a7;replace I:Hid (pC n1 F ck (.slice A5 J c5) (.slice A6 (jb J).length c6) J (jb J) []):=I.out.iv a8 bH;replace R:=jW R (lZ bH);cases zk
 ·skip
  replace HX:=iB (HX.out.trans (iV yE));replace HX:Hid (X=(iF [⟨#[101,110,100]⟩] (L.drop i2)).bind fun (_,r)=>((J.map SR.sn).mapM (wW ((J.map SR.sn).map Ci.name))).bind fun l=>some (.mk l,r)):=HX.out;go_wp2_with fail;refine td (jH dD.out [⟨#[101,110,100]⟩] (by decide)) HX fa ct ?_;clear HX;intro b_ ht hL ba eg bO HX bW ha aJ cg;subst eg;replace B5:Hid (iP b_ ra 131 #[(.slice A5 J c5)]):=iB (kq B5.out aI aJ);have a7:F q=true:=I.out.fam.low q a8;clear a7;replace I:Hid (pC n1 F b_ (.slice A5 J c5) (.slice A6 (jb J).length c6) J (jb J) []):=I.out.iv a8 aJ;replace R:=jW R (lZ aJ);replace HX:Hid (X=((J.map SR.sn).mapM (wW (J.map fun r=>r.st.name))).bind fun l=>some (.mk l,L.drop ba)):=by (show _=_;rw[<- NM];exact HX.out)
  have dn:(jb J).length=2*J.length:=uj J;have bD:=iB dn;have eI:(jb J).length<=16:=by omega
  clear dn;obtain⟨ah,b1⟩:=jt ((J.map fun r=>r.st.name));rw[b1]at HX;have aO:=iB b1;clear b1;have hV:ah.length<=8:=by rw[<- aO.out,pE];exact ej
  obtain⟨cl,c2⟩:=jt (J.map SR.sn);rw[c2]at HX;have bZ:=iB c2;clear c2;obtain⟨gs,dk⟩:=jt (jb J);rw[dk]at I bD eI⊢;have cM:=iB dk;clear dk;obtain⟨ns,de⟩:=jt J.length;rw[de]at bD ej I B5;have cJ:=iB de;clear de;go_wp2_with fail;go_loopw [79] (fun cY wr=>∃ρ:Nat,ρ<=gs.length/\cY=.int .i64 (ρ:Nat)/\∃(U:List SR),Hid (U.map SR.sn=cl)/\Hid (jb U=gs)/\Hid (U=ns)/\Hid ((U.map fun r=>r.st.name)=ah)/\Hid (tq U)/\Hid (uP ah U ρ 0)/\Hid (Rd B q A c L en eA ec el wr ba)/\ik (iz q w0) (iz q wr)/\n1<=wr.heap.size/\Hid (iP wr ra 131 #[(.slice A5 ns c5)])/\Hid (pC n1 F wr (.slice A5 ns c5) (.slice A6 gs c6) U gs [])) (fun cY _=>gs.length-(intOf cY).toNat)
  ·exact⟨0,wB _,rfl,J,bZ,cM,cJ,aO,HL,uP.start ah J,bO,cg,R,B5,I⟩
  case round=>
  clear I B5 HL bO cg R bZ cM cJ aO;obtain⟨ρ,hρ,rfl,U,bc,aP,az,bx,HL,HD,dC,cq,R,B5,I⟩:=hrel;by_cases dh:ρ<gs
  ·skip
   have ew:(ρ:Int)<(gs:Int):=by omega
   obtain⟨b6,p6,g,cp,l6,HG,bN⟩:=(I.out.go.PZ vp (fun _=>rfl) (by omega) (fun W b o y hy hj=>Oa hy hj)).part (i:=ρ) dh;have eS:A6=some ⟨b6,p6,none⟩:=cp;subst eS;have z0:=bN.1;have eQ:=iB bN.2;clear bN cp;obtain⟨gA,gc,gl⟩:=g;simp only[yr]at z0;have dm:∀bT:List SR,Hid (jb bT=gs)->(jb bT)[ρ]?=some ⟨gA,gc,gl⟩:=fun bT h=>by rw[h.out];exact HG.out
   have hc:gl.length<=4:=by have h1:=N0 HL.out (dm U aP);exact h1
   go_wp2_with fail;go_loopw [86] (fun cX wr=>∃κ:Nat,κ<=gl.length/\cX=.int .i64 (κ:Nat)/\∃(U:List SR),Hid (U.map SR.sn=cl)/\Hid (jb U=gs)/\Hid (U=ns)/\Hid ((U.map fun r=>r.st.name)=ah)/\Hid (tq U)/\Hid (uP ah U ρ κ)/\Hid (Rd B q A c L en eA ec el wr ba)/\ik (iz q w0) (iz q wr)/\n1<=wr.heap.size/\Hid (iP wr ra 131 #[(.slice A5 ns c5)])/\Hid (pC n1 F wr (.slice A5 ns c5) (.slice (some (b6,p6)) gs.length c6) U gs [])) (fun cX _=>gl.length-(intOf cX).toNat)
   ·exact⟨0,wB _,rfl,U,bc,aP,az,bx,HL,HD,dC,cq,R,B5,I⟩
   case round=>
   clear I B5 HL HD dC cq R bc aP az bx z0 l6 eQ;obtain⟨κ,hκ,rfl,U,bc,aP,az,bx,HL,HD,fb,eZ,R,B5,I⟩:=hrel;by_cases be:κ<gl
   ·skip
    have ev:(κ:Int)<(gl:Int):=by omega
    obtain⟨ig,hN,g',cp,l6,fg,bN⟩:=(I.out.go.PZ vp (fun _=>rfl) (by omega) (fun W b o y hy hj=>Oa hy hj)).part (i:=ρ) dh;obtain rfl:g'=⟨gA,gc,gl⟩:=sI (fg.out.symm.trans HG.out);obtain⟨b3,p3,x,eW,l3,HK,gj⟩:=(show ir 2 Dg wr ⟨gA,gc,gl⟩ from bN.2).part (i:=κ) be;have eV:gA=some ⟨b3,p3,none⟩:=eW;subst eV;obtain⟨nm,bB⟩:=x;obtain⟨y0,y1,eo,eN⟩:=gj;simp only[]at y0 y1 eo eN;clear bN cp eW fg l6;obtain⟨b4,cm⟩:=jt wr.heap.size;obtain⟨b0,e7,fR,e5,d',gK,gm,cN,ak⟩:∃z,wr.alloc (.cells #[nm,(bB:Nat)] 241)=z/\z.cell? b4=nm/\z.cell? (b4,1)=(bB:Nat)/\Le (b4+1) z/\Hid (Rd B q A c L en eA ec el z ba)/\ik (iz q w0) (iz q z)/\ik wr z/\n1<=z:=⟨_,rfl,by rw[<- cm];exact ((jC wr 241 #[nm,(bB:Nat)]).cell 0).trans rfl,by rw[<- cm];exact ((jC wr 241 #[nm,(bB:Nat)]).cell 1).trans rfl,by rw[<- cm];exact (jC wr 241 #[nm,(bB:Nat)]).is_le,fb.out.after zc,ij eZ (im zc),zc,by rw[iH];omega⟩;have al:Hid (iP b0 ra 131 #[(.slice A5 ns c5)]):=iB (mZ (w:=wr) (k:=cN) B5.out);have a6:Hid (pC n1 F b0 (.slice A5 ns c5) (.slice (b6,p6) gs.length c6) U gs []):=I.out.after cN;replace B5:=al;replace I:=a6;replace R:=ak;clear al a6 ak;have eP:ir 6 P6 b0 ⟨A5,c5,U⟩:=pP.PZ (by rw[az.out];exact I.out.st) sT (fun _=>rfl) (by have:=az.out;omega) (fun W b o y hy hj=>Ja hy hj);have HC:Hid (Calls prog 139 #[(A5,ns,c5),.func (.func 155) #[] #[.pointer (some b4)]] b0 fun e w'=>e=.returned (.int .i64 (FW (su nm) U 0))/\∃y,w'=b0.more y):=by
     have:=QY (w0:=b0) fR d' eP b0 (iq _);rw[az.out]at this;exact this
    have b2:=Kw nm U 0;rw[bx.out]at b2;generalize FW (su nm) U 0=ix at HC b2;have ey:∀j,vM nm ah 0=some j->j<ah.length:=fun j hj=>by have:=Kr hj;omega
    have hO:=jt (vM nm ah 0);obtain⟨O,hO⟩:=hO;rw[hO]at b2 ey;have du:=iB hO;clear hO;have ar:=B5.out;have m0:=(uJ ar 0).trans rfl;have ml:=jo ar;have aF:=nL ar 0;go_wp2_with fail;try rw[cm]
    try rw[e7]
    refine HC.out.mono ?_;clear HC;rintro e w62 ⟨rfl,y_,e6⟩;have aN:ik b0 w62:=ny ⟨y_,e6⟩ zc;clear e6;have dB:=iB (gK.out.after aN);have dy:=ij gm (im (q:=q) aN);have h9:w62.cell? ⟨b4,1,none⟩=some (.int .i64 (bB:Nat)):=(aN.below.cell (p:=⟨b4,1,none⟩) d'.le).trans e5;have hP:Le (b4+1) w62:=⟨jW d'.le aN.below.size⟩;have al:Hid (iP w62 ra 131 #[(.slice A5 ns c5)]):=iB (mZ (w:=b0) (k:=aN) B5.out);have a6:Hid (pC n1 F w62 (.slice A5 ns c5) (.slice (some ⟨b6,p6,none⟩) gs.length c6) U gs []):=I.out.after aN;have ak:n1<=w62.heap.size:=jW R aN.below.size;replace B5:=al;replace I:=a6;clear al a6;clear R ar m0 ml aF eP;have R:=ak;clear ak;have ar:=B5.out;have m0:=(uJ ar 0).trans rfl;have ml:=jo ar;have aF:=nL ar 0;cases O with
    |none=>
     have b2:ix=-1:=b2;subst b2;have dG:Hid (X=none):=by (show _=_;rw[HX.out,<- bc.out,L5 HL.out (dm U aP) HK.out du.out];rfl)
     have HF:=iB (nj dB.out (bB:Int) (by omega) 6);go_wp2_with fail;refine HF.out.mono ?_;rintro e dK ⟨⟨a,rfl⟩,cf⟩;unfold oD;go_wp2_with fail;exact⟨rfl,kf dG.out (ij (im aw0) (ij dy (im cf))) (jz a 6 (by decide))⟩
    |some z=>
    have b2:ix=(z:Int):=b2;subst b2;have hz:=ey z rfl;have hT:¬((z:Int)<0):=by omega
    have hQ:ρ<2*ns:=by have:=bD.out;omega
    have hj:ρ / 2<U:=by have:=az.out;omega
    obtain⟨r5,aw⟩:∃r,U[ρ / 2]?=some r:=⟨_,qn hj⟩;have cn:=HL.out _ _ aw;have aY:=tU aw;obtain⟨b5,p5,y5,eU,l5,ff,bM⟩:=(pP.PZ (by rw[az.out];exact I.out.st) sT (fun _=>rfl) (by have:=az.out;omega) (fun W b o y hy hj=>Ja hy hj):ir 6 P6 w62 ⟨A5,c5,U⟩).part (i:=ρ / 2) hj;obtain rfl:y5=r5:=sI (ff.out.symm.trans aw);have eT:A5=some ⟨b5,p5,none⟩:=eU;subst eT;clear eU ff;rcases Nat.mod_two_eq_zero_or_one ρ with he | he
    ·skip
     obtain⟨j,c'⟩:=jt (ρ / 2);have bt:ρ=2*j:=by omega
     rw[c']at aw aY bM hj;clear c' he;have bb:=iB bt;rw[<- bt]at aY;have bA:y5.ug=⟨some (b3,p3),gc,gl⟩:=sI ((by rw[aP.out]at aY;exact aY.1.symm:some y5.ug=gs[ρ]?).trans HG.out);have bz:y5.st.unl.l.length=gl:=by rw[cn.1,bA]
     obtain⟨t5,bw⟩:∃t,y5.st.unl.l[κ]?=some t:=⟨_,qn (by rw[bz];exact be)⟩;have aQ:=I.out.un _ _ aw;obtain⟨b8,aR⟩:∃g,y5.st.unl.A=some ⟨g,0,none⟩:=Nh aQ.own (by rw[bz];omega);have dr:n1<=b8/\b8<w62:=aQ.lt (by unfold nB.val;rw[aR];rfl);have u4:w62.cell? (b5,p5+j*6+4)=some (.slice b8 gl y5.st.unl.c):=by rw[<- aR,<- bz];exact bM.c4
     have ga:w62.frozen? (b8,κ*8+6)=false:=by have h1:=aQ.own;unfold nB.val at h1;rw[aR]at h1;exact h1.frozenAt _
     have gg:=Gq aQ.own aR bw;have fK:Le (b8+1) w62:=⟨dr.2⟩;have bC:=I.out.Rw aw aR bw (z:Int);obtain⟨dK,bX,dA,cf,al,a6,ak⟩:∃v,w62.setCell (b8,κ*8+6) (.int .i64 (z:Nat))=v/\Hid (Rd B q A c L en eA ec el v ba)/\ik (iz q w0) (iz q v)/\Hid (iP v ra 131 #[.slice (b5,p5) ns c5])/\Hid (pC n1 F v (.slice (b5,p5) ns c5) (.slice (b6,p6) gs.length c6) (U.set j (y5.vf κ (z:Int))) gs [])/\n1<=v:=⟨_,rfl,dB.out.set (by omega) (by omega) _ _,iJ (k:=ko (by omega)) (h:=dy) _ _,iB (tV (p:=(b8,κ*8+6)) B5.out (by show ra≠b8;omega) _),bC,by rw[jc];exact R⟩;have dH:Hid (uP ah (U.set j (y5.vf κ (z:Int))) ρ (κ+1)):=by
      have ca:=HD.out;rw[bb.out]at ca;show uP _ _ _ _
      rw[bb.out];exact ca.Rw aw (by rw[bA];exact HK.out) du.out
     have c7:Hid ((U.set j (y5.vf κ (z:Int))).map SR.sn=cl):=by (show _=_;rw[wH _ _ _ _ _ aw (QZ y5 κ z)];exact bc.out)
     have c_:Hid (((U.set j (y5.vf κ (z:Int))).map fun r=>r.st.name)=ah):=by (show _=_;rw[wH (fun (r:SR)=>r.st.name) _ _ _ _ aw (qG y5.st κ z).1];exact bx.out)
     have dq:Hid (jb (U.set j (y5.vf κ (z:Int)))=gs):=by (show _=_;rw[zK (r':=y5.vf κ (z:Int)) aw rfl rfl];exact aP.out)
     have df:Hid ((U.set j (y5.vf κ (z:Int))).length=ns):=by (show _=_;rw[Gh];exact az.out)
     have ch:Hid (tq (U.set j (y5.vf κ (z:Int)))):=iB (HL.out.set aw (JU y5 κ z).1 (JU y5 κ z).2 rfl rfl);have gd:((ρ:Nat):Int).tmod 2=0:=by (rw[Int.tmod_eq_emod_of_nonneg (by omega)];omega)
     have gb:((ρ:Nat):Int).tdiv 2=(j:Nat):=by (rw[Int.tdiv_eq_ediv_of_nonneg (by omega)];omega)
     clear bt;have g_:(j:Int)<(ns:Int):=by have:=az.out;omega
     clear bM aQ bC cn aY bA bw aw;go_wp2_with fail;try rw[bX]
     go_roundw
     case rel=>exact⟨κ+1,be,by go_num,_,c7,dq,df,c_,ch,dH,dA,cf,ak,al,a6⟩
     case measure=>simp only[intOf];omega
    obtain⟨j,c'⟩:=jt (ρ / 2);have bt:ρ=2*j+1:=by omega
    rw[c']at aw aY bM hj;clear c' he;have bb:=iB bt;rw[<- bt]at aY;have bA:y5.vg=⟨some (b3,p3),gc,gl⟩:=sI ((by rw[aP.out]at aY;exact aY.2.symm:some y5.vg=gs[ρ]?).trans HG.out);have bz:y5.st.unt.l.length=gl:=by rw[cn.2.1,bA]
    obtain⟨t5,bw⟩:∃t,y5.st.unt.l[κ]?=some t:=⟨_,qn (by rw[bz];exact be)⟩;have aQ:=I.out.ut _ _ aw;obtain⟨b8,aR⟩:∃g,y5.st.unt.A=some ⟨g,0,none⟩:=Nh aQ.own (by rw[bz];omega);have dr:n1<=b8/\b8<w62:=aQ.lt (by unfold nB.val;rw[aR];rfl);have u4:w62.cell? (b5,p5+j*6+5)=some (.slice b8 gl y5.st.unt.c):=by rw[<- aR,<- bz];exact bM.c5
    have ga:w62.frozen? (b8,κ*8+6)=false:=by have h1:=aQ.own;unfold nB.val at h1;rw[aR]at h1;exact h1.frozenAt _
    have gg:=Gq aQ.own aR bw;have fK:Le (b8+1) w62:=⟨dr.2⟩;have bC:=I.out.Rx aw aR bw (z:Int);obtain⟨dK,bX,dA,cf,al,a6,ak⟩:∃v,w62.setCell (b8,κ*8+6) (.int .i64 (z:Nat))=v/\Hid (Rd B q A c L en eA ec el v ba)/\ik (iz q w0) (iz q v)/\Hid (iP v ra 131 #[.slice (b5,p5) ns c5])/\Hid (pC n1 F v (.slice (b5,p5) ns c5) (.slice (b6,p6) gs.length c6) (U.set j (y5.uE κ (z:Int))) gs [])/\n1<=v:=⟨_,rfl,dB.out.set (by omega) (by omega) _ _,iJ (k:=ko (by omega)) (h:=dy) _ _,iB (tV (p:=(b8,κ*8+6)) B5.out (by show ra≠b8;omega) _),bC,by rw[jc];exact R⟩;have dH:Hid (uP ah (U.set j (y5.uE κ (z:Int))) ρ (κ+1)):=by
     have ca:=HD.out;rw[bb.out]at ca;show uP _ _ _ _
     rw[bb.out];exact ca.Rx aw (by rw[bA];exact HK.out) du.out
    have c7:Hid ((U.set j (y5.uE κ (z:Int))).map SR.sn=cl):=by (show _=_;rw[wH _ _ _ _ _ aw (Rg y5 κ z)];exact bc.out)
    have c_:Hid (((U.set j (y5.uE κ (z:Int))).map fun r=>r.st.name)=ah):=by (show _=_;rw[wH (fun (r:SR)=>r.st.name) _ _ _ _ aw (qN y5.st κ z).1];exact bx.out)
    have dq:Hid (jb (U.set j (y5.uE κ (z:Int)))=gs):=by (show _=_;rw[zK (r':=y5.uE κ (z:Int)) aw rfl rfl];exact aP.out)
    have df:Hid ((U.set j (y5.uE κ (z:Int))).length=ns):=by (show _=_;rw[Gh];exact az.out)
    have ch:Hid (tq (U.set j (y5.uE κ (z:Int)))):=iB (HL.out.set aw (J4 y5 κ z).1 (J4 y5 κ z).2 rfl rfl);have gd:((ρ:Nat):Int).tmod 2=1:=by (rw[Int.tmod_eq_emod_of_nonneg (by omega)];omega)
    have gb:((ρ:Nat):Int).tdiv 2=(j:Nat):=by (rw[Int.tdiv_eq_ediv_of_nonneg (by omega)];omega)
    clear bt;have g_:(j:Int)<(ns:Int):=by have:=az.out;omega
    clear bM aQ bC cn aY bA bw aw;go_wp2_with fail;try rw[bX]
    go_roundw
    case rel=>exact⟨κ+1,be,by go_num,_,c7,dq,df,c_,ch,dH,dA,cf,ak,al,a6⟩
    case measure=>simp only[intOf];omega
   have ev:¬((κ:Int)<(gl:Int)):=by omega
   go_wp2_with fail;go_roundw
   case measure=>simp only[intOf];omega
   case rel=>exact⟨ρ+1,dh,by go_num,U,bc,aP,az,bx,HL,HD.out.next (fun g hg=>by (rw[dm U aP]at hg;injection hg with hg;subst hg;show gl.length<=κ;omega)),fb,eZ,R,B5,I⟩
  have ew:¬((ρ:Int)<(gs:Int)):=by omega
  have h3:Hid (X=some (.mk (StT.kv (U.map SR.st)),L.drop ba)):=by (show _=_;rw[HX.out,<- bc.out,HD.out.all (by have:=bD.out;have:=az.out;omega) HL.out];rfl)
  have dt:FC (old n1 wr) (.mk A5 c5 (U.map SR.st)):=pC.au (by rw[az.out];exact I.out) (by have:=az.out;omega) (fun i r hr=>⟨(HL.out i r hr).2.2.1,(HL.out i r hr).2.2.2⟩);have ar:=B5.out;have m0:=(uJ ar 0).trans rfl;have ml:=jo ar;have aF:=nL ar 0;have dP:=bW;have bE:iP wr r 131 #[()]:=lM (HB.out.after (k:=cq)) dd;have hl:=(uJ bE 0).trans rfl;have hi:=jo bE;have h8:=nL bE 0;obtain⟨W,eO,EW,gJ,aW,oW,sW⟩:=tR (zs:=[()]) bE dC.out dd (ij (im aw0) cq) (lI hr) (by omega) [(A5,ns,c5)] rfl;have hW:(wr.setCell r (.slice A5 ns c5))=W:=eO;clear eO;have gi:=iB hW;clear hW;go_wp2_with fail;try rw[gi.out]
  have u0:=(uJ EW 0).trans rfl;exact jR (v:=.agg #[(A5,ns,c5)]) (by simp[results,results117,go_sem,u0]) rfl (lN (x:=BU.mk (StT.kv (U.map SR.st))) (show X=some (BU.mk (StT.kv (U.map SR.st)),L.drop ba) from h3.out) aW (⟨AuT.mk A5 c5 (U.map SR.st),by rw[AuT.er],by (show _=Value.agg #[.slice A5 (U.map SR.st).length c5];rw[pE,az.out]),(oT.below _ _ _ (oW n1 rn).below dt |> oT.sub _ _ _ (iS (by omega) W))⟩) gJ rfl (dP.out))
 replace HX:=iB (HX.out.trans (iG (by rfl)));rw[tail_drop,pE]at HX;have dO:=pI HZ.out;have ar:=B5.out;have m0:=(uJ ar 0).trans rfl;have ml:=jo ar;have aF:=nL ar 0;have HC:=iB (mF dD.out (J:Int) 8);go_wp2_with fail;refine HC.out.mono ?_;clear HC ar m0 ml aF;rintro e b_ ⟨aN,hE⟩;have bO:=iB (dD.out.after aN);have aJ:ik (iz q ck) (iz q b_):=im (q:=q) aN;have cg:=ij fa aJ;have bW:=ct;clear aN;replace B5:Hid (iP b_ ra 131 #[(.slice A5 J c5)]):=iB (kq B5.out aI aJ);have a7:F q=true:=I.out.fam.low q a8;clear a7;replace I:Hid (pC n1 F b_ (.slice A5 J c5) (.slice A6 (jb J).length c6) J (jb J) []):=I.out.iv a8 aJ;replace R:=jW R (lZ aJ);rcases hE with⟨hlt4,rfl⟩ | ⟨hge4,hf⟩
 ·skip
  replace HX:=iB (HX.out.trans (iV (by omega)));obtain⟨c0,c1,gk,c3,f2,l0⟩:=bO.out.fields;have hd:=bO.out.few;obtain⟨dL,cH,h0,gH,cd⟩:∃z,b_.setCell (q,2) (.int .i64 ((i2:Int)+1))=z/\Hid (Rd B q A c L en eA ec el z (i2+1))/\ik (iz q w0) (iz q z)/\ik (iz q b_) (iz q z):=⟨_,rfl,bO.out.move (j:=i2+1) dO,by rw[jJ];exact cg,by rw[jJ];exact iq _⟩;have e3:Hid (i0<=i2+1):=iB (wc bW.out);go_wp2_with fail;try rw[cH]
  clear cH c0 c1 gk c3 f2 l0;replace B5:Hid (iP dL ra 131 #[(.slice A5 J c5)]):=iB (kq B5.out aI cd);have a7:F q=true:=I.out.fam.low q a8;clear a7;replace I:Hid (pC n1 F dL (.slice A5 J c5) (.slice A6 (jb J).length c6) J (jb J) []):=I.out.iv a8 cd;replace R:=jW R (lZ cd);replace HX:Hid (X=(pV (L.drop (i2+1))).bind fun (s,r)=>(oG el r).bind fun (lo,r)=>(pD el f ⟨#[117,110,108,101,115,115]⟩ 4 [] r).bind fun (u,r)=>(iF [⟨#[100,111]⟩] r).bind fun (_,r)=>(mu el f (m-1) [] [] r).bind fun (b,r)=>(pD el f ⟨#[117,110,116,105,108]⟩ 4 [] r).bind fun (v,r)=>(iF [⟨#[100,111,110,101]⟩] r).bind fun (_,r)=>pq el f m (J.map SR.sn++[⟨s,lo,b.1,b.2,u,v⟩]) r):=HX.out;go_wp2_with fail;refine td (qb h0.out) HX gH e3 ?_;clear HX;intro bn fC hK fU ef gZ HX e2 eG cc gG;obtain⟨rfl,c8⟩:=ef;replace B5:Hid (iP bn ra 131 #[(.slice A5 J c5)]):=iB (kq B5.out aI cc);have a7:F q=true:=I.out.fam.low q a8;clear a7;replace I:Hid (pC n1 F bn (.slice A5 J c5) (.slice A6 (jb J).length c6) J (jb J) []):=I.out.iv a8 cc;replace R:=jW R (lZ cc);obtain⟨s,hs⟩:=jt fC;rw[hs]at HX c8⊢;clear hs;have hS:=iB c8;clear c8;obtain⟨b7,ds⟩:=jt bn.heap.size;have ie:n1<=b7:=by omega
  have aS:b7≠q:=by omega
  have cb:w0<=b7:=by omega
  obtain⟨bS,cG,gY,gF,bG,B7,fF⟩:∃z,bn.alloc (.cells #[s,(),(),(),(),()] 184)=z/\Hid (Rd B q A c L en eA ec el z fU)/\ik (iz q w0) (iz q z)/\ik (iz q bn) (iz q z)/\Hid (iP z b7 184 #[s,(),(),(),(),()])/\Hid (b7+1=z):=⟨_,rfl,gZ.out.after zc,ij gG (im zc),im zc,by rw[<- ds];exact jC ..,by (show _=_;rw[iH,ds])⟩;have e1:=e2;have bY:=iB cG;clear cG;go_wp2_with fail;try rw[ds]
  try rw[bY.out]
  have aM:∀b,((.slice b7 0 0):Value).ownBlock=some b->bn.heap.size<=b/\b<bS.heap.size:=fun b hb=>by have hb:b7=b:=sI hb;have h1:=fF.out;omega
  replace B5:Hid (iP bS ra 131 #[(.slice A5 J c5)]):=iB (kq B5.out aI bG);have a7:F q=true:=I.out.fam.low q a8;have aV:ik (kK F bn) (kK (iD F (.slice (some b7) 0 0)) bS):=yN (j_ (q:=q) a7 bG) fun b hb=>(aM b hb).1
  clear a7 aV;have a6:Hid (pC n1 (iD F (.slice b7 0 0)) bS (.slice A5 J c5) (.slice A6 (jb J).length c6) J (jb J) [(.slice b7 0 0)]):=I.out.join a8 bG aM;clear aM;replace I:=a6;clear a6;replace R:=jW R (lZ bG);obtain⟨G1,hG⟩:=jt ((iD F (.slice b7 0 0)));rw[hG]at I;clear bY hG;have av:∀b,G1 b=true->b<bS.heap.size:=I.out.fam.lim;go_wp2_with fail;refine td (CR htag hel gY.out) HX gF e1 ?_;clear HX;intro bK fB hJ i26 ee gX HX e0 eF bF gE;obtain⟨lA,lc,ll,rfl,eu,fo⟩:=ee;have et:=iB eu;clear eu;replace B5:Hid (iP bK ra 131 #[(.slice A5 J c5)]):=iB (kq B5.out aI bF);have a7:G1 q=true:=I.fam.low q a8;replace B7:Hid (iP bK b7 184 #[s,(),(),(),(),()]):=iB (kq B7 aS bF);clear a7;replace I:Hid (pC n1 G1 bK (.slice A5 J c5) (.slice A6 (jb J).length c6) J (jb J) [(.slice b7 0 0)]):=I.iv a8 bF;replace R:=jW R (lZ bF);have DL:Hid (ir 3 jG (kK G1 bK) ⟨lA,lc,ll⟩):=iB (v_ ky fo (nO bK av));clear fo av;have ag:=B7.out;obtain⟨m0,m1,m2,m3,m4,m5⟩:=oN ag;have ml:=jo ag;obtain⟨aF,bs,br,bq,bp,bo⟩:=jU ag;have a_:=I.pc _ (nG ..) b7 rfl;obtain⟨bJ,cF,gW,gD,al,aH,a6,ak,aG⟩:∃z,bK.setCell (b7,1) ((.slice lA ll lc))=z/\Hid (Rd B q A c L en eA ec el z i26)/\ik (iz q w0) (iz q z)/\Hid (iP z ra 131 #[(.slice A5 J c5)])/\Hid (iP z b7 184 #[s,(.slice lA ll lc),(),(),(),()])/\Hid (pC n1 G1 z (.slice A5 J c5) (.slice A6 (jb J).length c6) J (jb J) [(.slice b7 0 0)])/\n1<=z/\Hid (ir 3 jG (kK G1 z) ⟨lA,lc,ll⟩):=⟨_,rfl,gX.set aS (by omega) 1 _,iJ (k:=ko cb) (h:=gE) _ _,iB (tV (p:=(b7,1)) B5 (by show ra≠b7;omega) _),ag.jx 1 _,I.zR rfl 1 _,by rw[jc];exact R,DL.below iM (kJ a_ _ _ _).below⟩
  have dZ:=e0;replace B5:=al;replace B7:=aH;replace I:=a6;replace DL:=aG;clear al aH a6 aG;clear R a_;have R:=ak;clear ak;go_wp2_with fail;try rw[cF]
  clear cF ag m0 m1 m2 m3 m4 m5 ml aF bs br bq bp bo;have hh:i2<i26:=by have:=eG;have:=eF;omega
  go_wp2_with fail;refine td (vT (k:=f) ⟨#[117,110,108,101,115,115]⟩ htag hel gW (by omega)) HX gD dZ ?_;clear HX;intro aL fA hI fT ed gV HX dY eE bh gC;obtain⟨uV,hM,us,a',rfl,OT,OG,bd,cL,eY,cx,_⟩:=ed;obtain⟨uA,uc,fZ,_,_⟩:=ji OT.own;subst fZ;obtain⟨ab,aa,eh,RG⟩:=OG.Sw (P:=Dg) pG (fun _=>rfl) (by omega) (fun W b o y hy hj=>Mf hy hj) (fun b hb=>by have h1:=(OG.own.lt b hb).1;have h2:(.slice uA us.length uc:Value).ownBlock≠some b:=fun e=>bd b e hb;unfold iD;simp[h2];omega);subst eh;have av:∀b,G1 b=true->b<bJ.heap.size:=I.out.fam.lim;have bV:=R;have dF:=OT;have dz:=RG;have bg:∀b,iD G1 (.slice uA us uc) b=true->iD (iD (fun b=>decide (b<bJ.heap.size)) (.slice ab a' aa)) (.slice uA us uc) b=true:=fun b hb=>by rcases vI hb with hb | hb;exact lF (lF (lp (av b hb)));exact pr hb
  have bf:∀b,iD G1 (.slice uA us uc) b=true->iD (fun b=>decide (b<bJ.heap.size)) (.slice uA us uc) b=true:=fun b hb=>by rcases vI hb with hb | hb;exact lF (lp (av b hb));exact pr hb
  have ax:Hid (pP n1 223 8 kx vo (iD G1 (.slice uA us uc)) aL (.slice uA us uc) us):=pP.Ol OT jF bV bg fun b hb=>pr hb
  have ay:Hid (ir 2 Dg (kK (iD G1 (.slice uA us uc)) aL) ⟨ab,aa,a'⟩):=iB (v_ CK RG (rp bf aL));have bu:∀b,((.slice uA us uc):Value).ownBlock=some b->bJ.heap.size<=b/\b<aL.heap.size:=fun b hb=>OT.own.lt b hb
  have b9:∀b,((.slice uA us uc):Value).ownBlock=some b->b7<b:=fun b hb=>by have:=(bu b hb).1;have:=B7.lt;omega
  clear dF dz OT RG OG bd bg bf;have dj:=iB cL;have dc:=iB cx;clear cL cx;have aM:∀b,((.slice uA us uc):Value).ownBlock=some b->bJ.heap.size<=b/\b<aL.heap.size:=bu;replace B5:Hid (iP aL ra 131 #[(.slice A5 J c5)]):=iB (kq B5.out aI bh);have a7:G1 q=true:=I.fam.low q a8;replace B7:Hid (iP aL b7 184 #[s,(.slice lA ll lc),(),(),(),()]):=iB (kq B7 aS bh);have aV:ik (kK G1 bJ) (kK (iD G1 (.slice uA us uc)) aL):=yN (j_ (q:=q) a7 bh) fun b hb=>(aM b hb).1
  replace DL:Hid (ir 3 jG (kK (iD G1 (.slice uA us uc)) aL) ⟨lA,lc,ll⟩):=iB (DL.below iM aV.below);clear a7 aV;have a6:Hid (pC n1 (iD G1 (.slice uA us uc)) aL (.slice A5 J c5) (.slice A6 (jb J).length c6) J (jb J) [(.slice b7 0 0),(.slice uA us uc)]):=I.join a8 bh aM;clear aM;replace I:=a6;clear a6;replace R:=jW R (lZ bh);obtain⟨G2,hG⟩:=jt ((iD G1 (.slice uA us uc)));rw[hG]at I;rw[hG]at DL;rw[hG]at ax ay;clear bu av bV;try clear hG
  have ag:=B7.out;obtain⟨m0,m1,m2,m3,m4,m5⟩:=oN ag;have ml:=jo ag;obtain⟨aF,bs,br,bq,bp,bo⟩:=jU ag;have a_:=I.pc _ (nG ..) b7 rfl;obtain⟨hx,cE,gU,gB,al,aH,a6,ak,aG,aD,aC⟩:∃z,aL.setCell (b7,4) ((.slice uA us uc))=z/\Hid (Rd B q A c L en eA ec el z fT)/\ik (iz q w0) (iz q z)/\Hid (iP z ra 131 #[(.slice A5 J c5)])/\Hid (iP z b7 184 #[s,(.slice lA ll lc),(),(),(.slice uA us uc),()])/\Hid (pC n1 G2 z (.slice A5 J c5) (.slice A6 (jb J).length c6) J (jb J) [(.slice b7 0 0),(.slice uA us uc)])/\n1<=z/\Hid (ir 3 jG (kK G2 z) ⟨lA,lc,ll⟩)/\Hid (ir 2 Dg (kK G2 z) ⟨ab,aa,a'⟩)/\Hid (pP n1 223 8 kx vo G2 z (.slice uA us uc) us):=⟨_,rfl,gV.set aS (by omega) 4 _,iJ (k:=ko cb) (h:=gC) _ _,iB (tV (p:=(b7,4)) B5 (by show ra≠b7;omega) _),ag.jx 4 _,I.zR rfl 4 _,by rw[jc];exact R,DL.below iM (kJ a_ _ _ _).below,ay.below lB (kJ a_ _ _ _).below,ax.lW jF a_ (fun e=>by have:=b9 b7 e;omega) 4 _⟩;have dX:=dY;replace B5:=al;replace B7:=aH;replace I:=a6;replace DL:=aG;replace ay:=aD;replace ax:=aC;clear al aH a6 aG aD aC;clear R a_;have R:=ak;clear ak;go_wp2_with fail;try rw[cE]
  clear cE ag m0 m1 m2 m3 m4 m5 ml aF bs br bq bp bo;go_wp2_with fail;refine td (jH gU [⟨#[100,111]⟩] (by decide)) HX gB dX ?_;clear HX;intro bm ho hH i30 eb gT HX dW eD aU gz;subst eb;replace B5:Hid (iP bm ra 131 #[(.slice A5 J c5)]):=iB (kq B5.out aI aU);have a7:G2 q=true:=I.fam.low q a8;replace B7:Hid (iP bm b7 184 #[s,(.slice lA ll lc),(),(),(.slice uA us uc),()]):=iB (kq B7 aS aU);replace DL:Hid (ir 3 jG (kK G2 bm) ⟨lA,lc,ll⟩):=iB (DL.below iM (j_ (q:=q) a7 aU).below);replace ay:Hid (ir 2 Dg (kK G2 bm) ⟨ab,aa,a'⟩):=iB (ay.below lB (j_ (q:=q) a7 aU).below);replace ax:Hid (pP n1 223 8 kx vo G2 bm (.slice uA us uc) us):=ax.iv jF a8 a7 aU;clear a7;replace I:Hid (pC n1 G2 bm (.slice A5 J c5) (.slice A6 (jb J).length c6) J (jb J) [(.slice b7 0 0),(.slice uA us uc)]):=I.iv a8 aU;replace R:=jW R (lZ aU);have ib:i2<i30:=by have:=eE;have:=eD;omega
  have av:∀b,G2 b=true->b<bm.heap.size:=I.out.fam.lim;go_wp2_with fail;refine td (h4 f (by omega) _ _ gT (by omega)) HX gz dW ?_;clear HX;intro aK dJ hF i31 ea gS HX dV eC aT gy;obtain⟨ae,ad,es,aj,ai,af,rfl,eK,eM,fp,fq,i7,i_⟩:=ea;have eJ:=iB eK;have eL:=iB eM;clear eK eM;replace B5:Hid (iP aK ra 131 #[(.slice A5 J c5)]):=iB (kq B5.out aI aT);have a7:G2 q=true:=I.fam.low q a8;replace B7:Hid (iP aK b7 184 #[s,(.slice lA ll lc),(),(),(.slice uA us uc),()]):=iB (kq B7 aS aT);replace DL:Hid (ir 3 jG (kK G2 aK) ⟨lA,lc,ll⟩):=iB (DL.below iM (j_ (q:=q) a7 aT).below);replace ay:Hid (ir 2 Dg (kK G2 aK) ⟨ab,aa,a'⟩):=iB (ay.below lB (j_ (q:=q) a7 aT).below);replace ax:Hid (pP n1 223 8 kx vo G2 aK (.slice uA us uc) us):=ax.iv jF a8 a7 aT;clear a7;replace I:Hid (pC n1 G2 aK (.slice A5 J c5) (.slice A6 (jb J).length c6) J (jb J) [(.slice b7 0 0),(.slice uA us uc)]):=I.iv a8 aT;replace R:=jW R (lZ aT);have DE:Hid (ir 7 (xv True) (kK G2 aK) ⟨ae,ad,es⟩):=iB (v_ uU fp (nO aK av));have DA:Hid (ir 1 (xM True) (kK G2 aK) ⟨aj,ai,af⟩):=iB (v_ wY fq (nO aK av));clear fp fq av;have ag:=B7.out;obtain⟨m0,m1,m2,m3,m4,m5⟩:=oN ag;have ml:=jo ag;obtain⟨aF,bs,br,bq,bp,bo⟩:=jU ag;have a_:=I.pc _ (nG ..) b7 rfl;obtain⟨fE,cD,gR,gx,al,aH,a6,ak,aG,aD,bj,bk,aC⟩:∃z,aK.setCell (b7,2) ((.slice ae es ad))=z/\Hid (Rd B q A c L en eA ec el z i31)/\ik (iz q w0) (iz q z)/\Hid (iP z ra 131 #[(.slice A5 J c5)])/\Hid (iP z b7 184 #[s,(.slice lA ll lc),(.slice ae es ad),(),(.slice uA us uc),()])/\Hid (pC n1 G2 z (.slice A5 J c5) (.slice A6 (jb J).length c6) J (jb J) [(.slice b7 0 0),(.slice uA us uc)])/\n1<=z/\Hid (ir 3 jG (kK G2 z) ⟨lA,lc,ll⟩)/\Hid (ir 2 Dg (kK G2 z) ⟨ab,aa,a'⟩)/\Hid (ir 7 (xv True) (kK G2 z) ⟨ae,ad,es⟩)/\Hid (ir 1 (xM True) (kK G2 z) ⟨aj,ai,af⟩)/\Hid (pP n1 223 8 kx vo G2 z (.slice uA us uc) us):=⟨_,rfl,gS.set aS (by omega) 2 _,iJ (k:=ko cb) (h:=gy) _ _,iB (tV (p:=(b7,2)) B5 (by show ra≠b7;omega) _),ag.jx 2 _,I.zR rfl 2 _,by rw[jc];exact R,DL.below iM (kJ a_ _ _ _).below,ay.below lB (kJ a_ _ _ _).below,DE.below mX (kJ a_ _ _ _).below,DA.below qO (kJ a_ _ _ _).below,ax.lW jF a_ (fun e=>by have:=b9 b7 e;omega) 2 _⟩
  have dU:=dV;replace B5:=al;replace B7:=aH;replace I:=a6;replace DL:=aG;replace ay:=aD;replace DE:=bj;replace DA:=bk;replace ax:=aC;clear al aH a6 aG aD bj bk aC;clear R a_;have R:=ak;clear ak;have cv:=iB cD;clear cD;have cj:=B7.out;obtain⟨y0,y1,y2,y3,y4,y5⟩:=oN cj;have yl:=jo cj;obtain⟨fy,fx,fw,fv,fu,ft⟩:=jU cj;have a_:=I.pc _ (nG ..) b7 rfl;obtain⟨bI,cC,gQ,gw,al,aH,a6,ak,aG,aD,bj,bk,aC⟩:∃z,fE.setCell (b7,3) ((.slice aj af ai))=z/\Hid (Rd B q A c L en eA ec el z i31)/\ik (iz q w0) (iz q z)/\Hid (iP z ra 131 #[(.slice A5 J c5)])/\Hid (iP z b7 184 #[s,(.slice lA ll lc),(.slice ae es ad),(.slice aj af ai),(.slice uA us uc),()])/\Hid (pC n1 G2 z (.slice A5 J c5) (.slice A6 (jb J).length c6) J (jb J) [(.slice b7 0 0),(.slice uA us uc)])/\n1<=z/\Hid (ir 3 jG (kK G2 z) ⟨lA,lc,ll⟩)/\Hid (ir 2 Dg (kK G2 z) ⟨ab,aa,a'⟩)/\Hid (ir 7 (xv True) (kK G2 z) ⟨ae,ad,es⟩)/\Hid (ir 1 (xM True) (kK G2 z) ⟨aj,ai,af⟩)/\Hid (pP n1 223 8 kx vo G2 z (.slice uA us uc) us):=⟨_,rfl,gR.set aS (by omega) 3 _,iJ (k:=ko cb) (h:=gx) _ _,iB (tV (p:=(b7,3)) B5 (by show ra≠b7;omega) _),cj.jx 3 _,I.zR rfl 3 _,by rw[jc];exact R,DL.below iM (kJ a_ _ _ _).below,ay.below lB (kJ a_ _ _ _).below,DE.below mX (kJ a_ _ _ _).below,DA.below qO (kJ a_ _ _ _).below,ax.lW jF a_ (fun e=>by have:=b9 b7 e;omega) 3 _⟩
  have dT:=dU;replace B5:=al;replace B7:=aH;replace I:=a6;replace DL:=aG;replace ay:=aD;replace DE:=bj;replace DA:=bk;replace ax:=aC;clear al aH a6 aG aD bj bk aC;clear R a_;have R:=ak;clear ak;have cu:=iB cC;clear cC cj y0 y1 y2 y3 y4 y5 yl fy fx fw fv fu ft;go_wp2_with fail;try rw[cv.out]
  try rw[cu.out]
  clear cv cu ag m0 m1 m2 m3 m4 m5 ml aF bs br bq bp bo;have ia:i2<i31:=by have:=eC;omega
  go_wp2_with fail;refine td (vT (k:=f) ⟨#[117,110,116,105,108]⟩ htag hel gQ (by omega)) HX gw dT ?_;clear HX;intro aE fz hD fS e' gP HX dS eB aZ gv;obtain⟨vV,hA,vs,an,rfl,OT,OG,bd,cK,eX,cw,_⟩:=e';obtain⟨vA,vc,fW,_,_⟩:=ji OT.own;subst fW;obtain⟨aq,ao,e9,RG⟩:=OG.Sw (P:=Dg) pG (fun _=>rfl) (by omega) (fun W b o y hy hj=>Mf hy hj) (fun b hb=>by have h1:=(OG.own.lt b hb).1;have h2:(.slice vA vs.length vc:Value).ownBlock≠some b:=fun e=>bd b e hb;unfold iD;simp[h2];omega);subst e9;have av:∀b,G2 b=true->b<bI.heap.size:=I.out.fam.lim;have bV:=R;have dF:=OT;have dz:=RG;have bg:∀b,iD G2 (.slice vA vs vc) b=true->iD (iD (fun b=>decide (b<bI.heap.size)) (.slice aq an ao)) (.slice vA vs vc) b=true:=fun b hb=>by rcases vI hb with hb | hb;exact lF (lF (lp (av b hb)));exact pr hb
  have bf:∀b,iD G2 (.slice vA vs vc) b=true->iD (fun b=>decide (b<bI.heap.size)) (.slice vA vs vc) b=true:=fun b hb=>by rcases vI hb with hb | hb;exact lF (lp (av b hb));exact pr hb
  have bP:Hid (pP n1 223 8 kx vo (iD G2 (.slice vA vs vc)) aE (.slice vA vs vc) vs):=pP.Ol OT jF bV bg fun b hb=>pr hb
  have bQ:Hid (ir 2 Dg (kK (iD G2 (.slice vA vs vc)) aE) ⟨aq,ao,an⟩):=iB (v_ CK RG (rp bf aE));have bu:∀b,((.slice vA vs vc):Value).ownBlock=some b->bI.heap.size<=b/\b<aE.heap.size:=fun b hb=>OT.own.lt b hb
  have dw:∀b,((.slice vA vs vc):Value).ownBlock=some b->b7<b:=fun b hb=>by have:=(bu b hb).1;have:=B7.lt;omega
  clear dF dz OT RG OG bd bg bf;have di:=iB cK;have db:=iB cw;clear cK cw;have aM:∀b,((.slice vA vs vc):Value).ownBlock=some b->bI.heap.size<=b/\b<aE.heap.size:=bu;replace B5:Hid (iP aE ra 131 #[(.slice A5 J c5)]):=iB (kq B5.out aI aZ);have a7:G2 q=true:=I.fam.low q a8;replace B7:Hid (iP aE b7 184 #[s,(.slice lA ll lc),(.slice ae es ad),(.slice aj af ai),(.slice uA us uc),()]):=iB (kq B7 aS aZ);have aV:ik (kK G2 bI) (kK (iD G2 (.slice vA vs vc)) aE):=yN (j_ (q:=q) a7 aZ) fun b hb=>(aM b hb).1
  replace DL:Hid (ir 3 jG (kK (iD G2 (.slice vA vs vc)) aE) ⟨lA,lc,ll⟩):=iB (DL.below iM aV.below);replace ay:Hid (ir 2 Dg (kK (iD G2 (.slice vA vs vc)) aE) ⟨ab,aa,a'⟩):=iB (ay.below lB aV.below);replace DE:Hid (ir 7 (xv True) (kK (iD G2 (.slice vA vs vc)) aE) ⟨ae,ad,es⟩):=iB (DE.below mX aV.below);replace DA:Hid (ir 1 (xM True) (kK (iD G2 (.slice vA vs vc)) aE) ⟨aj,ai,af⟩):=iB (DA.below qO aV.below);replace ax:Hid (pP n1 223 8 kx vo (iD G2 (.slice vA vs vc)) aE (.slice uA us uc) us):=ax.wide jF a8 aZ aV fun b hb=>lF hb
  clear a7 aV;have a6:Hid (pC n1 (iD G2 (.slice vA vs vc)) aE (.slice A5 J c5) (.slice A6 (jb J).length c6) J (jb J) [(.slice b7 0 0),(.slice uA us uc),(.slice vA vs vc)]):=I.join a8 aZ aM;clear aM;replace I:=a6;clear a6;replace R:=jW R (lZ aZ);obtain⟨G3,hG⟩:=jt ((iD G2 (.slice vA vs vc)));rw[hG]at I;rw[hG]at DL;rw[hG]at ay;rw[hG]at DE;rw[hG]at DA;rw[hG]at ax;rw[hG]at bP bQ;clear bu av bV;try clear hG
  have ag:=B7.out;obtain⟨m0,m1,m2,m3,m4,m5⟩:=oN ag;have ml:=jo ag;obtain⟨aF,bs,br,bq,bp,bo⟩:=jU ag;have a_:=I.pc _ (nG ..) b7 rfl;obtain⟨hv,cB,gO,gu,al,aH,a6,ak,aG,aD,bj,bk,cU,aC,cO⟩:∃z,aE.setCell (b7,5) ((.slice vA vs vc))=z/\Hid (Rd B q A c L en eA ec el z fS)/\ik (iz q w0) (iz q z)/\Hid (iP z ra 131 #[(.slice A5 J c5)])/\Hid (iP z b7 184 #[s,(.slice lA ll lc),(.slice ae es ad),(.slice aj af ai),(.slice uA us uc),(.slice vA vs vc)])/\Hid (pC n1 G3 z (.slice A5 J c5) (.slice A6 (jb J).length c6) J (jb J) [(.slice b7 0 0),(.slice uA us uc),(.slice vA vs vc)])/\n1<=z/\Hid (ir 3 jG (kK G3 z) ⟨lA,lc,ll⟩)/\Hid (ir 2 Dg (kK G3 z) ⟨ab,aa,a'⟩)/\Hid (ir 7 (xv True) (kK G3 z) ⟨ae,ad,es⟩)/\Hid (ir 1 (xM True) (kK G3 z) ⟨aj,ai,af⟩)/\Hid (ir 2 Dg (kK G3 z) ⟨aq,ao,an⟩)/\Hid (pP n1 223 8 kx vo G3 z (.slice uA us uc) us)/\Hid (pP n1 223 8 kx vo G3 z (.slice vA vs vc) vs):=⟨_,rfl,gP.set aS (by omega) 5 _,iJ (k:=ko cb) (h:=gv) _ _,iB (tV (p:=(b7,5)) B5 (by show ra≠b7;omega) _),ag.jx 5 _,I.zR rfl 5 _,by rw[jc];exact R,DL.below iM (kJ a_ _ _ _).below,ay.below lB (kJ a_ _ _ _).below,DE.below mX (kJ a_ _ _ _).below,DA.below qO (kJ a_ _ _ _).below,bQ.below lB (kJ a_ _ _ _).below,ax.lW jF a_ (fun e=>by have:=b9 b7 e;omega) 5 _,bP.lW jF a_ (fun e=>by have:=dw b7 e;omega) 5 _⟩
  have dR:=dS;replace B5:=al;replace B7:=aH;replace I:=a6;replace DL:=aG;replace ay:=aD;replace DE:=bj;replace DA:=bk;replace bQ:=cU;replace ax:=aC;replace bP:=cO;clear al aH a6 aG aD bj bk cU aC cO;clear R a_;have R:=ak;clear ak;go_wp2_with fail;try rw[cB]
  clear cB ag m0 m1 m2 m3 m4 m5 ml aF bs br bq bp bo;go_wp2_with fail;refine td (jH gO [⟨#[100,111,110,101]⟩] (by decide)) HX gu dR ?_;clear HX;intro aA hn hB i36 e_ gN HX dQ ez aB gr;subst e_;replace B5:Hid (iP aA ra 131 #[(.slice A5 J c5)]):=iB (kq B5.out aI aB);have a7:G3 q=true:=I.fam.low q a8;replace B7:Hid (iP aA b7 184 #[s,(.slice lA ll lc),(.slice ae es ad),(.slice aj af ai),(.slice uA us uc),(.slice vA vs vc)]):=iB (kq B7 aS aB);replace DL:Hid (ir 3 jG (kK G3 aA) ⟨lA,lc,ll⟩):=iB (DL.below iM (j_ (q:=q) a7 aB).below);replace ay:Hid (ir 2 Dg (kK G3 aA) ⟨ab,aa,a'⟩):=iB (ay.below lB (j_ (q:=q) a7 aB).below);replace DE:Hid (ir 7 (xv True) (kK G3 aA) ⟨ae,ad,es⟩):=iB (DE.below mX (j_ (q:=q) a7 aB).below);replace DA:Hid (ir 1 (xM True) (kK G3 aA) ⟨aj,ai,af⟩):=iB (DA.below qO (j_ (q:=q) a7 aB).below);replace bQ:Hid (ir 2 Dg (kK G3 aA) ⟨aq,ao,an⟩):=iB (bQ.below lB (j_ (q:=q) a7 aB).below);replace ax:Hid (pP n1 223 8 kx vo G3 aA (.slice uA us uc) us):=ax.iv jF a8 a7 aB;replace bP:Hid (pP n1 223 8 kx vo G3 aA (.slice vA vs vc) vs):=bP.iv jF a8 a7 aB;clear a7;replace I:Hid (pC n1 G3 aA (.slice A5 J c5) (.slice A6 (jb J).length c6) J (jb J) [(.slice b7 0 0),(.slice uA us uc),(.slice vA vs vc)]):=I.iv a8 aB;replace R:=jW R (lZ aB)
  have dt:Hid (Mc (kK G3 aA) (SR.mk (StT.mk s ⟨lA,lc,ll⟩ ⟨ae,ad,es⟩ aj ai af ⟨uA,uc,us⟩ ⟨vA,vc,vs⟩) ⟨ab,aa,a'⟩ ⟨aq,ao,an⟩)):=iB ⟨hS,DL,DE,DA⟩;have cV:Hid (pC n1 G3 aA (.slice A5 J c5) (.slice A6 (jb J).length c6) J (jb J) ((.slice b7 0 0)::my [(SR.mk (StT.mk s ⟨lA,lc,ll⟩ ⟨ae,ad,es⟩ aj ai af ⟨uA,uc,us⟩ ⟨vA,vc,vs⟩) ⟨ab,aa,a'⟩ ⟨aq,ao,an⟩)])):=I;obtain⟨cW,cA,fe,f',b'⟩:∃z,aA.alloc (.cells #[s,(.slice lA ll lc),(.slice ae es ad),(.slice aj af ai),(.slice uA us uc),(.slice vA vs vc)] 184)=z/\Rd B q A c L en eA ec el z i36/\ik (iz q w0) (iz q z)/\ik aA z:=⟨_,rfl,gN.after zc,ij gr (im zc),zc⟩;have aX:=cV.after b';have cR:Mc (kK G3 cW) (SR.mk (StT.mk s ⟨lA,lc,ll⟩ ⟨ae,ad,es⟩ aj ai af ⟨uA,uc,us⟩ ⟨vA,vc,vs⟩) ⟨ab,aa,a'⟩ ⟨aq,ao,an⟩):=sT.below _ _ _ (oS b').below dt;have cQ:=ax.after jF b';have cP:=bP.after jF b';have cT:=ay.below lB (oS b').below;have cS:=bQ.below lB (oS b').below;have fr:iP cW ra 131 #[(.slice A5 J c5)]:=mZ (w:=aA) (k:=b') B5;have bL:=iB cA;clear cA;have ar:=B5.out;have ag:=B7.out;have m0:=(uJ ar 0).trans rfl;have ml:=jo ar;have aF:=nL ar 0;obtain⟨k0,k1,k2,k3,k4,k5⟩:=oN ag;have kl:=jo ag;obtain⟨fQ,fP,fO,fN,fM,fL⟩:=jU ag;have ep:((.slice A5 J c5):Value).ownBlock≠some ra:=fun e=>by have:=(aX.st.lt e).1;omega
  go_upto_region 15 with (at_builtin;obtain⟨i0_,hi0_,hz0_,hz1_,hz2_⟩:=info_parts QJ;refine ka (aA.alloc (.cells #[s,(.slice lA ll lc),(.slice ae es ad),(.slice aj af ai),(.slice uA us uc),(.slice vA vs vc)] 184)) rfl (.tmp 64) (.tmp 66) 129 rfl n1 184 i0_ _ 6 _ underlying129 hi0_ hz0_ hz1_ hz2_ rfl (by decide) (.slice A5 J c5) J.length (J.flatMap sN) rfl (by rw[bL.out];exact aX.st.own) _ _ 1 1 [s,(.slice lA ll lc),(.slice ae es ad),(.slice aj af ai),(.slice uA us uc),(.slice vA vs vc)] rfl (ki (w:=aA) rfl #[s,(.slice lA ll lc),(.slice ae es ad),(.slice aj af ai),(.slice uA us uc),(.slice vA vs vc)] 184 _ rfl 1 6 rfl) (by intro u hu;simp only[la]at hu;rcases hu with rfl | rfl | rfl | rfl | rfl | rfl<;>rfl) (by unfold maxLen;omega) (by omega) (by rw[iH];omega) ?_;rw[bL.out];intro v5 w38 own5 hg5 hb5;clear hi0_ hz0_ hz1_ hz2_;obtain⟨A9,c9,rfl,_,_⟩:=ji own5;have B5d:iP w38 ra 131 #[(.slice A5 J c5)]:=oY fr hg5 (fun e=>ep e.symm);have x0:=(uJ B5d 0).trans rfl;have xl:=jo B5d;have xf0:=nL B5d 0;have B5d:=iB B5d;have own5:=iB own5;have hg5:=iB hg5;have hb5:=iB hb5)
  have hY:B<=n1:=d_;have dI:Hid (pC n1 (iD G3 (.slice A9 (J+1) c9)) w38 (.slice A9 (J+1) c9) (.slice A6 (jb J).length c6) (J++[(SR.mk (StT.mk s ⟨lA,lc,ll⟩ ⟨ae,ad,es⟩ aj ai af ⟨uA,uc,us⟩ ⟨vA,vc,vs⟩) ⟨ab,aa,a'⟩ ⟨aq,ao,an⟩)]) (jb J) []):=aX.grow rfl (fun y hy=>by (rw[yw.1 hy];exact cR)) (fun y hy=>by (rw[yw.1 hy];exact cQ)) (fun y hy=>by (rw[yw.1 hy];exact cP)) (by rw[mo,Fa];exact own5) hg5 hb5;have dx:ik (kK G3 cW) (kK (iD G3 (.slice A9 (J+1) c9)) w38):=C4 hg5 aX.st.cov hb5;have fl:=cT.below lB dx.below;have fi:=cS.below lB dx.below;have fc:=fe.grown aX.st.own hg5 a8 d_;have f_:=kF f' aX.st.own hg5 a8 dN;have dv:(iD G3 (.slice A9 (J+1) c9)) ra=true:=dI.fam.low ra dM;have fI:n1<=w38:=jW (jW R b'.below.size) hg5.size;obtain⟨bR,cz,gM,gq,h6,fs,fk,fh,fH⟩:∃z,w38.setCell ra (.slice A9 (J+1) c9)=z/\Hid (Rd B q A c L en eA ec el z i36)/\ik (iz q w0) (iz q z)/\Hid (iP z ra 131 #[(.slice A9 (J+1) c9)])/\Hid (pC n1 (iD G3 (.slice A9 (J+1) c9)) z (.slice A9 (J+1) c9) (.slice A6 (jb J).length c6) (J++[(SR.mk (StT.mk s ⟨lA,lc,ll⟩ ⟨ae,ad,es⟩ aj ai af ⟨uA,uc,us⟩ ⟨vA,vc,vs⟩) ⟨ab,aa,a'⟩ ⟨aq,ao,an⟩)]) (jb J) [])/\Hid (ir 2 Dg (kK (iD G3 (.slice A9 (J+1) c9)) z) ⟨ab,aa,a'⟩)/\Hid (ir 2 Dg (kK (iD G3 (.slice A9 (J+1) c9)) z) ⟨aq,ao,an⟩)/\n1<=z:=⟨_,rfl,fc.set aI (by omega) 0 _,iJ (k:=ko (by omega)) (h:=f_) _ _,Hg B5d 0 (.slice A9 (J+1) c9),dI.P0 dM 0 _,fl.below lB (kJ dv _ _ _).below,fi.below lB (kJ dv _ _ _).below,by rw[jc];exact fI⟩
  obtain⟨G9,eR⟩:=jt ((iD G3 (.slice A9 (J+1) c9)));rw[eR]at fs fk fh;try rw[cz]
  clear cz B5d dI dx fl fi fc f_ dv own5 hg5 hb5 eR x0 xl xf0 aX cR cQ cP cT cS fr ar ag m0 ml aF k0 k1 k2 k3 k4 k5 kl fQ fP fO fN fM fL cV bL fe f';obtain⟨fD,cy,gL,gp,bU⟩:∃z,bR.alloc (.cells #[(ab,a',aa),(aq,an,ao)] 237)=z/\Rd B q A c L en eA ec el z i36/\ik (iz q w0) (iz q z)/\ik bR z:=⟨_,rfl,gM.after zc,ij gq (im zc),zc⟩;have bl:=fs.after bU;have fm:=fk.below lB (oS bU).below;have fj:=fh.below lB (oS bU).below;have h5:iP fD ra 131 #[(.slice A9 (J+1) c9)]:=mZ (w:=bR) (k:=bU) h6;have bL:=iB cy;clear cy;have dn:(jb J).length<=16:=by rw[uj];omega
  go_wp2_with (at_builtin;obtain⟨i0_,hi0_,hz0_,hz1_,hz2_⟩:=info_parts Ro;refine ka (bR.alloc (.cells #[(ab,a',aa),(aq,an,ao)] 237)) rfl (.tmp 69) (.tmp 72) 236 rfl n1 237 i0_ _ 1 _ underlying236 hi0_ hz0_ hz1_ hz2_ rfl (by decide) (.slice A6 (jb J).length c6) (jb J).length ((jb J).flatMap E_) rfl (by rw[bL.out];exact bl.go.own) _ _ 2 2 [(ab,a',aa),(aq,an,ao)] rfl (ki (w:=bR) rfl #[(ab,a',aa),(aq,an,ao)] 237 _ rfl 2 1 rfl) (by intro u hu;simp only[la]at hu;rcases hu with rfl | rfl<;>rfl) (by unfold maxLen;omega) (by omega) (by rw[iH];omega) ?_;rw[bL.out];intro v6 w41 own6 hg6 hb6;clear hi0_ hz0_ hz1_ hz2_;have own6:=iB own6;have hg6:=iB hg6;have hb6:=iB hb6)
  have bC:Hid (pC n1 (iD G9 v6) w41 (.slice A9 (J+1) c9) v6 (J++[(SR.mk (StT.mk s ⟨lA,lc,ll⟩ ⟨ae,ad,es⟩ aj ai af ⟨uA,uc,us⟩ ⟨vA,vc,vs⟩) ⟨ab,aa,a'⟩ ⟨aq,ao,an⟩)]) (jb (J++[(SR.mk (StT.mk s ⟨lA,lc,ll⟩ ⟨ae,ad,es⟩ aj ai af ⟨uA,uc,us⟩ ⟨vA,vc,vs⟩) ⟨ab,aa,a'⟩ ⟨aq,ao,an⟩)])) []):=by
   rw[Ha];exact iB (bl.Sx (ys:=[⟨ab,aa,a'⟩,⟨aq,ao,an⟩]) (fun y hy=>by (simp only[la]at hy;rcases hy with rfl | rfl;exact fm;exact fj)) (by rw[mo,Fa];exact own6) hg6 hb6)
  have cr:=iB (gL.grown bl.go.own hg6 a8 d_);have gn:=kF gp bl.go.own hg6 a8 dN;have h7:Hid (iP w41 ra 131 #[(.slice A9 (J+1) c9)]):=iB (oY h5 hg6 (fun e=>by have:=(bl.go.lt e.symm).1;omega));have fG:n1<=w41:=jW (jW fH bU.below.size) hg6.size;have hE:SR.sn (SR.mk (StT.mk s ⟨lA,lc,ll⟩ ⟨ae,ad,es⟩ aj ai af ⟨uA,uc,us⟩ ⟨vA,vc,vs⟩) ⟨ab,aa,a'⟩ ⟨aq,ao,an⟩)=⟨s,fB,dJ.1,dJ.2,fA,fz⟩:=by (show Ci.mk s (ll.map iO.er) (es.map oX.er) (af.map AuT.er) (yv us a') (yv vs an)=_;rw[et.out,eJ.out,eL.out,dc.out,db.out];rfl)
  replace HX:Hid (X=pq el f m ((J++[(SR.mk (StT.mk s ⟨lA,lc,ll⟩ ⟨ae,ad,es⟩ aj ai af ⟨uA,uc,us⟩ ⟨vA,vc,vs⟩) ⟨ab,aa,a'⟩ ⟨aq,ao,an⟩)]).map SR.sn) (L.drop i36)):=by (show _=_;rw[s_];show X=pq el f m (J.map SR.sn++[SR.sn (SR.mk (StT.mk s ⟨lA,lc,ll⟩ ⟨ae,ad,es⟩ aj ai af ⟨uA,uc,us⟩ ⟨vA,vc,vs⟩) ⟨ab,aa,a'⟩ ⟨aq,ao,an⟩)]) _;rw[hE];exact HX)
  have ch:Hid (tq (J++[(SR.mk (StT.mk s ⟨lA,lc,ll⟩ ⟨ae,ad,es⟩ aj ai af ⟨uA,uc,us⟩ ⟨vA,vc,vs⟩) ⟨ab,aa,a'⟩ ⟨aq,ao,an⟩)])):=iB (HL.app dj di eY eX);have ei:(J++[(SR.mk (StT.mk s ⟨lA,lc,ll⟩ ⟨ae,ad,es⟩ aj ai af ⟨uA,uc,us⟩ ⟨vA,vc,vs⟩) ⟨ab,aa,a'⟩ ⟨aq,ao,an⟩)]).length<=8:=by (rw[mo];show J.length+1<=8;omega)
  have ic:i2<i36:=by have h1:=eB;have h2:=ez;omega
  exact⟨⟨i36,f,_,_,_,dQ,iu,by have:=cr.le;omega,ei,HX,cr,gn,fG,h7,bC,ch⟩,by (rw[je cr.out.fields.2.2.1,d1.out];have:=cr.le;omega)⟩
 have dG:=iy (HX.trans (iG iu));obtain⟨a,er,rfl,he⟩:=hf;unfold oD;go_wp2_with fail;exact⟨rfl,kf dG (ij (im aw0) cg) (jz a er he)⟩
theorem K5 {k m:Nat} (hm:m<=3) (htag:∀u∈el,u.tags.l.length<=16) (hel:el.length<=1000) (C:∀j≤k,CB B q A c L en eA ec el j) (h:Rd B q A c L en eA ec el w i) (hk:20*(L-i)+30<=k+1):Calls prog 72 #[.pointer q,((3-m:Nat):Int)] w (pk B q A c L en eA ec el w i (mu el (k+1) m [] [] (L.drop i)) (VB w)):=by
 obtain⟨dp,bg⟩:∃d:Nat,3-m=d:=⟨_,rfl⟩;rw[bg];obtain⟨X,hX⟩:=jt (mu el (k+1) m [] [] (L.drop i));rw[hX];obtain⟨i0,bx⟩:=jt (i);rw[bx]at hX h hk⊢;have HX:=iy hX.symm;have bp:Hid (i0<=i0):=js _;have hq:=h.blk.lt;have bA:=h.base;obtain⟨w0,rfl⟩:∃v,v=w:=⟨_,rfl⟩;have aw0:ik w0 w0:=iq _;have R0:=iy h;have a0:ik (iz q w0) (iz q w0):=iq _;have bF:q<w0:=by omega
 have bG:B.heap.size<=w0:=by omega
 go_in;go_wp2_with fail;obtain⟨n1,aX⟩:=jt (w0.heap.size);have J:q<n1:=iu;have aa:=lI aX.symm;have b6:B<=n1:=iu;have b5:=lI aX;go_loopw [6,7] (fun v6 v7 wr=>∃(i' f:Nat) (R:List oX) (I:List AuT),Hid (i0<=i')/\f<=k+1/\20*(L-i')+30<=f/\R.length<=256/\I.length<=8/\Hid (X=mu el f m (R.map oX.er) (I.map AuT.er) (L.drop i'))/\Hid (Rd B q A c L en eA ec el wr i')/\ik (iz q w0) (iz q wr)/\n1<=wr.heap.size/\Hid (kZ n1 79 7 pN JT (iD (fun b=>decide (b<n1)) v7) wr v6 R)/\Hid (kZ n1 131 1 pM FC (iD (fun b=>decide (b<n1)) v6) wr v7 I)/\Hid (∀b,v6.ownBlock=some b->v7.ownBlock≠some b)) (fun _ _ wr=>L.length-lO wr q 2)
 ·exact⟨i0,k+1,[],[],bp,js _,hk,wB _,wB _,HX,R0,a0,aa,vZ,vZ,iy (fun b U=>by cases U)⟩
 case round=>
 obtain⟨i2,f,R,I,bd,bL,bK,bf,b7,HX,b9,bC,aa,OE,OA,aD⟩:=hrel;obtain⟨f,rfl⟩:∃j,f=j+1:=⟨f-1,iu⟩;have d1:=iy (je b9.fields.2.2.1);obtain⟨A6,c6,bt,_,_⟩:=ji OE.own;subst bt;obtain⟨A7,c7,bs,_,_⟩:=ji OA.own;subst bs;replace HX:Hid (X=if jq ⟨#[97,117,116,111,109,97,116,111,110]⟩ (L.drop i2) then (if m=0\/8<=(I.map AuT.er).length then none else (pq el f m [] (L.drop i2).tail).bind fun (a,r)=>mu el f m (R.map oX.er) (I.map AuT.er++[a]) r) else if ju 1 (L.drop i2)||jq ⟨#[40]⟩ (L.drop i2) then (if 256<=(R.map oX.er).length then none else (Lm el f (L.drop i2)).bind fun (x,r)=>mu el f m (R.map oX.er++[x]) (I.map AuT.er) r) else some ((R.map oX.er,I.map AuT.er),L.drop i2)):=by (show _=_;rw[HX.out,mu])
 rw[pE,pE]at HX;have HC:=iy (nK b9 ⟨#[97,117,116,111,109,97,116,111,110]⟩);obtain⟨zk,an⟩:=jt (jq ⟨#[97,117,116,111,109,97,116,111,110]⟩ (L.drop i2));rw[an]at HC HX;have HZ:=iy an;go_wp2_with fail;refine HC.mono ?_;rintro e aJ ⟨rfl,aN⟩;have aI:=iy (b9.after aN);have aR:=im (q:=q) aN;have b8:=ij bC aR;have aZ:=bd;have aa:n1<=aJ:=jW aa aN.below.size;have a1:Hid (kZ n1 79 7 pN JT (iD (fun b=>decide (b<n1)) (.slice A7 I c7)) aJ (.slice A6 R c6) R):=OE.out.iv pe J (by unfold iD;simp[J]) aR;have a6:Hid (kZ n1 131 1 pM FC (iD (fun b=>decide (b<n1)) (.slice A6 R c6)) aJ (.slice A7 I c7) I):=OA.out.iv oT J (by unfold iD;simp[J]) aR;have OE:=a1;have OA:=a6;cases zk
 ·skip
  replace HX:=iy (HX.trans (iV yE));have HC:=iy (qv aI 1);obtain⟨zk,an⟩:=jt (ju 1 (L.drop i2));rw[an]at HC HX;have HZ:=iy an;go_wp2_with fail;refine HC.mono ?_;rintro e ad ⟨rfl,aN⟩;have av:=iy (aI.after aN);have af:ik (iz q aJ) (iz q ad):=im (q:=q) aN;have aU:=ij b8 af;have aA:=aZ;have aa:n1<=ad:=jW aa aN.below.size;have a1:Hid (kZ n1 79 7 pN JT (iD (fun b=>decide (b<n1)) (.slice A7 I c7)) ad (.slice A6 R c6) R):=OE.out.iv pe J (by unfold iD;simp[J]) af;have a6:Hid (kZ n1 131 1 pM FC (iD (fun b=>decide (b<n1)) (.slice A6 R c6)) ad (.slice A7 I c7) I):=OA.out.iv oT J (by unfold iD;simp[J]) af;have OE:=a1;have OA:=a6;cases zk
  ·skip
   rw[Bool.false_or]at HX;have HC:=iy (nK av ⟨#[40]⟩);obtain⟨zk,an⟩:=jt (jq ⟨#[40]⟩ (L.drop i2));rw[an]at HC HX;have HZ:=iy an;go_wp2_with fail;refine HC.mono ?_;rintro e a_ ⟨rfl,aN⟩;have ay:=iy (av.after aN);have ab:ik (iz q ad) (iz q a_):=im (q:=q) aN;have ax:=ij aU ab;have ah:=aA;have aa:n1<=a_:=jW aa aN.below.size;have a1:Hid (kZ n1 79 7 pN JT (iD (fun b=>decide (b<n1)) (.slice A7 I c7)) a_ (.slice A6 R c6) R):=OE.out.iv pe J (by unfold iD;simp[J]) ab;have a6:Hid (kZ n1 131 1 pM FC (iD (fun b=>decide (b<n1)) (.slice A6 R c6)) a_ (.slice A7 I c7) I):=OA.out.iv oT J (by unfold iD;simp[J]) ab;clear OE OA;have OE:=a1;have OA:=a6;clear a1 a6;cases zk
   ·skip
    have bD:=iy (HX.trans (iV yE));go_wp2_with fail;have bk:∀vX:Value,∀b,b<n1->iD (fun b=>decide (b<n1)) vX b=true:=fun vX b U=>by unfold iD;simp[U]
    obtain⟨FA,fc,br,DF⟩:=OE.row (P:=xv True) pe (bk _) (fun y=>rfl) iu (fun W b o y hy hj=>Rh hy hj);obtain⟨GA,gc,bq,DG⟩:=OA.row (P:=xM True) oT (bk _) (fun y=>rfl) iu (fun W b o y hy hj=>QN hy hj);exact jR (v:=.tuple #[(.slice A6 R c6),(.slice A7 I c7)]) (by simp[results,results72,go_sem]) rfl (lN (x:=(R.map oX.er,I.map AuT.er)) bD (ij (im aw0) ax) ⟨FA,fc,R,GA,gc,I,by rw[br,bq],rfl,rfl,by rw[aX];exact DF,by rw[aX];exact DG,bf,b7⟩ ay rfl ah)
   replace HX:=iy (HX.trans (iG (by rfl)));have HC:=iy (mF ay (R:Int) 256);go_wp2_with fail;refine HC.mono ?_;clear HC;rintro e a7 ⟨aN,hE⟩;have aH:=iy (ay.after aN);have a':ik (iz q a_) (iz q a7):=im (q:=q) aN;have aF:=ij ax a';have al:=ah;have aa:n1<=a7:=jW aa aN.below.size;clear aN;have a1:Hid (kZ n1 79 7 pN JT (iD (fun b=>decide (b<n1)) (.slice A7 I c7)) a7 (.slice A6 R c6) R):=OE.out.iv pe J (by unfold iD;simp[J]) a';have a6:Hid (kZ n1 131 1 pM FC (iD (fun b=>decide (b<n1)) (.slice A6 R c6)) a7 (.slice A7 I c7) I):=OA.out.iv oT J (by unfold iD;simp[J]) a';clear OE OA;have OE:=a1;have OA:=a6;clear a1 a6;rcases hE with⟨hlt4,rfl⟩ | ⟨hge4,hf⟩
   ·skip
    replace HX:=iy (HX.trans (iV iu));have aE:∀b,((.slice A6 R c6):Value).ownBlock=some b->b<a7.heap.size:=fun b U=>(OE.own.lt b U).2
    have aw:∀b,((.slice A7 I c7):Value).ownBlock=some b->b<a7.heap.size:=fun b U=>(OA.out.own.lt b U).2
    have ba:n1<=a7:=aa;go_wp2_with fail;refine BC (zd (k:=f) htag hel aH iu) HX aF al ?_;clear HX;intro ak bn bJ i25 bh be aG HX bc bH aB aT;obtain⟨⟨⟨lA,lc,ll⟩,k9,o9,t9,z9,s9,A9,c9,a8⟩,aO,rfl,D9⟩:=be;have au:Value.agg (pN (oX.mk ⟨lA,lc,ll⟩ (.mk k9 o9 t9 z9 s9 A9 c9 a8))).toArray=.agg #[(lA,ll,lc),k9,o9,t9,z9,s9,(A9,a8,c9)]:=rfl;rw[au];clear au;have a1:Hid (kZ n1 79 7 pN JT (iD (fun b=>decide (b<n1)) (.slice A7 I c7)) ak (.slice A6 R c6) R):=OE.out.iv pe J (by unfold iD;simp[J]) aB;have a6:Hid (kZ n1 131 1 pM FC (iD (fun b=>decide (b<n1)) (.slice A6 R c6)) ak (.slice A7 I c7) I):=OA.out.iv oT J (by unfold iD;simp[J]) aB;clear OE OA;have OE:=a1;have OA:=a6;clear a1 a6;have b2:i2<i25:=by have h1:=FD htag hel bh;rw[nY,nY]at h1;have:=aG.out.le;omega
    have aM:n1<=ak:=by have h1:=lZ aB;omega
    obtain⟨w26,b0,ag,aS,aK⟩:∃z,ak.alloc (.cells #[(lA,ll,lc),k9,o9,t9,z9,s9,(A9,a8,c9)] 79)=z/\Rd B q A c L en eA ec el z i25/\ik (iz q w0) (iz q z)/\ik ak z:=⟨_,rfl,aG.out.after iR,ij aT (im iR),iR⟩;have aC:=OE.out.after pe aK;have bm:=OA.out.after oT aK;have bE:=pe.below _ _ _ (jK aK).below D9;have ao:=iy b0;clear b0;go_wp2_with (at_builtin;obtain⟨i0_,hi0_,hz0_,hz1_,hz2_⟩:=info_parts NP;refine ka (ak.alloc (.cells #[(lA,ll,lc),k9,o9,t9,z9,s9,(A9,a8,c9)] 79)) rfl (.tmp 47) (.tmp 50) 61 rfl n1 79 i0_ _ 7 _ underlying61 hi0_ hz0_ hz1_ hz2_ rfl iI (.slice A6 R c6) R.length (R.flatMap pN) rfl (by rw[ao.out];exact aC.own) _ _ 1 1 [(lA,ll,lc),k9,o9,t9,z9,s9,(A9,a8,c9)] rfl (ki (w:=ak) rfl #[(lA,ll,lc),k9,o9,t9,z9,s9,(A9,a8,c9)] 79 _ rfl 1 7 rfl) (by intro u hu;simp only[la]at hu;rcases hu with rfl | rfl | rfl | rfl | rfl | rfl | rfl<;>rfl) (by unfold maxLen;omega) iu (by rw[iH];omega) ?_;rw[ao.out];intro v5 w27 own5 hg5 hb5;clear hi0_ hz0_ hz1_ hz2_;have own5:=iy own5;have hg5:=iy hg5;have hb5:=iy hb5)
    have aV:=iy (aC.add (m:=a7.heap.size) pe bE (fun b U=>by (unfold iD at U;simp only[uG,decide_eq_true_eq,beq_iff_eq]at U;rcases U with U | U;omega;exact aw b U)) aE own5.out hg5.out hb5.out);have aW:=iy (bm.other oT hg5 hb5 (fun b U e=>aD b e U));have aY:=iy (ag.grown aC.own hg5 J b6);have bB:=kF aS aC.own hg5 J b5;have ar:Hid (∀b,v5.ownBlock=some b->((.slice A7 I c7):Value).ownBlock≠some b):=iy (fun b U=>by rcases hb5 with h1 | h1;rw[h1]at U;exact aD b U;rw[h1]at U;injection U with U;intro e;have h2:=aw b e;have h3:=aK.below.size;have h4:=lZ aB;omega);have aL:=jW (jW aM aK.below.size) hg5.size;replace HX:Hid (X=mu el f m ((R++[(oX.mk ⟨lA,lc,ll⟩ (.mk k9 o9 t9 z9 s9 A9 c9 a8))]).map oX.er) (I.map AuT.er) (L.drop i25)):=by (show _=_;rw[s_,show [(oX.mk ⟨lA,lc,ll⟩ (.mk k9 o9 t9 z9 s9 A9 c9 a8))].map oX.er=[bn] by rw[<- aO];rfl];exact HX)
    have aQ:(R++[(oX.mk ⟨lA,lc,ll⟩ (.mk k9 o9 t9 z9 s9 A9 c9 a8))]).length<=256:=by rw[mo];show R.length+1<=256;omega
    exact⟨⟨i25,f,(R++[(oX.mk ⟨lA,lc,ll⟩ (.mk k9 o9 t9 z9 s9 A9 c9 a8))]),I,bc,iu,by have:=aY.le;omega,aQ,b7,HX,aY,bB,aL,aV,aW,ar⟩,by (rw[je aY.out.fields.2.2.1,d1.out];have:=aY.le;omega)⟩
   have az:=iy (HX.trans (iG iu));obtain⟨a,er,rfl,he⟩:=hf;unfold oD;go_wp2_with fail;exact⟨rfl,kf az (ij (im aw0) aF) (jz a er he)⟩
  replace HX:=iB (HX.trans (iG (by rfl)));have HC:=iy (mF av (R:Int) 256);go_wp2_with fail;refine HC.mono ?_;clear HC;rintro e a_ ⟨aN,hE⟩;have ay:=iB (av.after aN);have ab:ik (iz q ad) (iz q a_):=im (q:=q) aN;have ax:=ij aU ab;have ah:=aA;have aa:n1<=a_:=jW aa aN.below.size;clear aN;have a1:Hid (kZ n1 79 7 pN JT (iD (fun b=>decide (b<n1)) (.slice A7 I c7)) a_ (.slice A6 R c6) R):=OE.out.iv pe J (by unfold iD;simp[J]) ab;have a6:Hid (kZ n1 131 1 pM FC (iD (fun b=>decide (b<n1)) (.slice A6 R c6)) a_ (.slice A7 I c7) I):=OA.out.iv oT J (by unfold iD;simp[J]) ab;clear OE OA;have OE:=a1;have OA:=a6;clear a1 a6;rcases hE with⟨hlt4,rfl⟩ | ⟨hge4,hf⟩
  ·skip
   replace HX:=iB (HX.trans (iV (by omega)));have aE:∀b,((.slice A6 R c6):Value).ownBlock=some b->b<a_.heap.size:=fun b U=>(OE.own.lt b U).2
   have aw:∀b,((.slice A7 I c7):Value).ownBlock=some b->b<a_.heap.size:=fun b U=>(OA.out.own.lt b U).2
   have ba:n1<=a_:=aa;go_wp2_with fail;refine BC (zd (k:=f) htag hel ay (by omega)) HX ax ah ?_;clear HX;intro a7 b4 bo i24 bj aP aH HX al b3 a' aF;obtain⟨⟨⟨lA,lc,ll⟩,k9,o9,t9,z9,s9,A9,c9,a8⟩,aO,rfl,D9⟩:=aP;have au:Value.agg (pN (oX.mk ⟨lA,lc,ll⟩ (.mk k9 o9 t9 z9 s9 A9 c9 a8))).toArray=.agg #[(lA,ll,lc),k9,o9,t9,z9,s9,(A9,a8,c9)]:=rfl;rw[au];clear au;have a1:Hid (kZ n1 79 7 pN JT (iD (fun b=>decide (b<n1)) (.slice A7 I c7)) a7 (.slice A6 R c6) R):=OE.out.iv pe J (by unfold iD;simp[J]) a';have a6:Hid (kZ n1 131 1 pM FC (iD (fun b=>decide (b<n1)) (.slice A6 R c6)) a7 (.slice A7 I c7) I):=OA.out.iv oT J (by unfold iD;simp[J]) a';clear OE OA;have OE:=a1;have OA:=a6;clear a1 a6;have b2:i2<i24:=by have h1:=FD htag hel bj;rw[nY,nY]at h1;have:=aH.out.le;omega
   have aM:n1<=a7:=by have h1:=lZ a';omega
   obtain⟨ak,aq,aG,aT,ae⟩:∃z,a7.alloc (.cells #[(lA,ll,lc),k9,o9,t9,z9,s9,(A9,a8,c9)] 79)=z/\Rd B q A c L en eA ec el z i24/\ik (iz q w0) (iz q z)/\ik a7 z:=⟨_,rfl,aH.out.after iR,ij aF (im iR),iR⟩;have ai:=OE.out.after pe ae;have aj:=OA.out.after oT ae;have b_:=pe.below _ _ _ (jK ae).below D9;have ao:=iy aq;clear aq;go_wp2_with (at_builtin;obtain⟨i0_,hi0_,hz0_,hz1_,hz2_⟩:=info_parts NP;refine ka (a7.alloc (.cells #[(lA,ll,lc),k9,o9,t9,z9,s9,(A9,a8,c9)] 79)) rfl (.tmp 47) (.tmp 50) 61 rfl n1 79 i0_ _ 7 _ underlying61 hi0_ hz0_ hz1_ hz2_ rfl iI (.slice A6 R c6) R.length (R.flatMap pN) rfl (by rw[ao.out];exact ai.own) _ _ 1 1 [(lA,ll,lc),k9,o9,t9,z9,s9,(A9,a8,c9)] rfl (ki (w:=a7) rfl #[(lA,ll,lc),k9,o9,t9,z9,s9,(A9,a8,c9)] 79 _ rfl 1 7 rfl) (by intro u hu;simp only[la]at hu;rcases hu with rfl | rfl | rfl | rfl | rfl | rfl | rfl<;>rfl) (by unfold maxLen;omega) iu (by rw[iH];omega) ?_;rw[ao.out];intro v5 w26 own5 hg5 hb5;clear hi0_ hz0_ hz1_ hz2_;have own5:=iy own5;have hg5:=iy hg5;have hb5:=iy hb5)
   have aV:=iy (ai.add (m:=a_.heap.size) pe b_ (fun b U=>by (unfold iD at U;simp only[uG,decide_eq_true_eq,beq_iff_eq]at U;rcases U with U | U;omega;exact aw b U)) aE own5.out hg5.out hb5.out);have aW:=iy (aj.other oT hg5 hb5 (fun b U e=>aD b e U));have ag:=iy (aG.grown ai.own hg5 J b6);have aS:=kF aT ai.own hg5 J b5;have ar:Hid (∀b,v5.ownBlock=some b->((.slice A7 I c7):Value).ownBlock≠some b):=iy (fun b U=>by rcases hb5 with h1 | h1;rw[h1]at U;exact aD b U;rw[h1]at U;injection U with U;intro e;have h2:=aw b e;have h3:=ae.below.size;have h4:=lZ a';omega);have aL:=jW (jW aM ae.below.size) hg5.size;replace HX:Hid (X=mu el f m ((R++[(oX.mk ⟨lA,lc,ll⟩ (.mk k9 o9 t9 z9 s9 A9 c9 a8))]).map oX.er) (I.map AuT.er) (L.drop i24)):=by (show _=_;rw[s_,show [(oX.mk ⟨lA,lc,ll⟩ (.mk k9 o9 t9 z9 s9 A9 c9 a8))].map oX.er=[b4] by rw[<- aO];rfl];exact HX)
   have aQ:(R++[(oX.mk ⟨lA,lc,ll⟩ (.mk k9 o9 t9 z9 s9 A9 c9 a8))]).length<=256:=by rw[mo];show R.length+1<=256;omega
   exact⟨⟨i24,f,(R++[(oX.mk ⟨lA,lc,ll⟩ (.mk k9 o9 t9 z9 s9 A9 c9 a8))]),I,al,iu,by have:=ag.le;omega,aQ,b7,HX,ag,aS,aL,aV,aW,ar⟩,by (rw[je ag.out.fields.2.2.1,d1.out];have:=ag.le;omega)⟩
  have az:=iy (HX.trans (iG iu));obtain⟨a,er,rfl,he⟩:=hf;unfold oD;go_wp2_with fail;exact⟨rfl,kf az (ij (im aw0) ax) (jz a er he)⟩
 replace HX:=iB (HX.trans (iG (by rfl)));rw[tail_drop]at HX;have bb:=pI HZ;have CA:Hid (∀j≤k,∀(W:yM) (i':Nat),1<=m->Rd B q A c L en eA ec el W i'->20*(L-i')+40<=j->Calls prog 117 #[.pointer q,((dp:Nat):Int)] W (pk B q A c L en eA ec el W i' (pq el j m [] (L.drop i')) (VG pM FC AuT.er W))):=by
  show ∀j≤k,_
  rw[<- bg];exact fun j hj W i' h1 hR hf=>(C j hj).a W i' m hm h1 hR hf
 by_cases bw:m=0
 ·skip
  have az:Hid (X=none):=iB (HX.trans (iG (Or.inl bw)));have bz:(3:Int)<=(dp:Int):=by omega
  have HF:=iB (nj aI i2 (by omega) 3);obtain⟨c0,c1,bl,c3,f2,l0⟩:=aI.fields;go_wp2_with fail;refine HF.mono ?_;rintro e ad ⟨⟨a,rfl⟩,aN⟩;unfold oD;go_wp2_with fail;exact⟨rfl,kf az (ij (im aw0) (ij b8 (im aN))) (jz a 3 (by decide))⟩
 have bz:¬((3:Int)<=(dp:Int)):=by omega
 have bu:1<=m:=by omega
 have HC:=iB (mF aI (I:Int) 8);go_wp2_with fail;refine HC.mono ?_;clear HC;rintro e ad ⟨aN,hE⟩;have av:=iB (aI.after aN);have af:ik (iz q aJ) (iz q ad):=im (q:=q) aN;have aU:=ij b8 af;have aA:=aZ;have aa:n1<=ad:=jW aa aN.below.size;clear aN;have a1:Hid (kZ n1 79 7 pN JT (iD (fun b=>decide (b<n1)) (.slice A7 I c7)) ad (.slice A6 R c6) R):=OE.out.iv pe J (by unfold iD;simp[J]) af;have a6:Hid (kZ n1 131 1 pM FC (iD (fun b=>decide (b<n1)) (.slice A6 R c6)) ad (.slice A7 I c7) I):=OA.out.iv oT J (by unfold iD;simp[J]) af;clear OE OA;have OE:=a1;have OA:=a6;clear a1 a6;rcases hE with⟨hlt4,rfl⟩ | ⟨hge4,hf⟩
 ·skip
  replace HX:=iB (HX.trans (iV (by omega)));obtain⟨c0,c1,bl,c3,f2,l0⟩:=av.fields;have bI:=av.few;obtain⟨a_,b1,ay,ax,ab,b'⟩:∃z,ad.setCell (q,2) (.int .i64 ((i2:Int)+1))=z/\Hid (Rd B q A c L en eA ec el z (i2+1))/\ik (iz q w0) (iz q z)/\ik (iz q ad) (iz q z)/\n1<=z:=⟨_,rfl,av.move (j:=i2+1) bb,by rw[jJ];exact aU,by rw[jJ];exact iq _,by rw[jc];exact aa⟩;replace aa:=b';clear b';have ah:Hid (i0<=i2+1):=iB (wc aA);go_wp2_with fail;try rw[b1]
  clear b1 c0 c1 bl c3 f2 l0;have a1:Hid (kZ n1 79 7 pN JT (iD (fun b=>decide (b<n1)) (.slice A7 I c7)) a_ (.slice A6 R c6) R):=OE.out.iv pe J (by unfold iD;simp[J]) ab;have a6:Hid (kZ n1 131 1 pM FC (iD (fun b=>decide (b<n1)) (.slice A6 R c6)) a_ (.slice A7 I c7) I):=OA.out.iv oT J (by unfold iD;simp[J]) ab;clear OE OA;have OE:=a1;have OA:=a6;clear a1 a6;have aE:∀b,((.slice A6 R c6):Value).ownBlock=some b->b<a_.heap.size:=fun b U=>(OE.own.lt b U).2
  have aw:∀b,((.slice A7 I c7):Value).ownBlock=some b->b<a_.heap.size:=fun b U=>(OA.out.own.lt b U).2
  have ba:n1<=a_:=aa;go_wp2_with fail;refine td (CA.out f (by omega) _ _ bu ay.out (by omega)) HX ax ah ?_;clear HX;intro a7 b4 bo i24 aP aH HX al b3 a' aF;obtain⟨⟨A9,c9,l9⟩,aO,rfl,D9⟩:=aP;have au:Value.agg (pM (AuT.mk A9 c9 l9)).toArray=.agg #[(.slice A9 l9 c9)]:=rfl;rw[au];clear au;have a1:Hid (kZ n1 79 7 pN JT (iD (fun b=>decide (b<n1)) (.slice A7 I c7)) a7 (.slice A6 R c6) R):=OE.out.iv pe J (by unfold iD;simp[J]) a';have a6:Hid (kZ n1 131 1 pM FC (iD (fun b=>decide (b<n1)) (.slice A6 R c6)) a7 (.slice A7 I c7) I):=OA.out.iv oT J (by unfold iD;simp[J]) a';clear OE OA;have OE:=a1;have OA:=a6;clear a1 a6;have b2:i2<i24:=by have:=b3;omega
  have aM:n1<=a7:=by have h1:=lZ a';omega
  obtain⟨ak,aq,aG,aT,ae⟩:∃z,a7.alloc (.cells #[(.slice A9 l9 c9)] 131)=z/\Rd B q A c L en eA ec el z i24/\ik (iz q w0) (iz q z)/\ik a7 z:=⟨_,rfl,aH.out.after iR,ij aF (im iR),iR⟩;have ai:=OE.out.after pe ae;have aj:=OA.out.after oT ae;have b_:=oT.below _ _ _ (jK ae).below D9;have ao:=iy aq;clear aq;go_wp2_with (at_builtin;obtain⟨i0_,hi0_,hz0_,hz1_,hz2_⟩:=info_parts QH;refine ka (a7.alloc (.cells #[(.slice A9 l9 c9)] 131)) rfl (.tmp 32) (.tmp 36) 62 rfl n1 131 i0_ _ 1 _ underlying62 hi0_ hz0_ hz1_ hz2_ rfl iI (.slice A7 I c7) I.length (I.flatMap pM) rfl (by rw[ao.out];exact aj.own) _ _ 1 1 [(.slice A9 l9 c9)] rfl (ki (w:=a7) rfl #[(.slice A9 l9 c9)] 131 _ rfl 1 1 rfl) (by intro u hu;simp only[la]at hu;subst hu;rfl) (by unfold maxLen;omega) iu (by rw[iH];omega) ?_;rw[ao.out];intro v5 w26 own5 hg5 hb5;clear hi0_ hz0_ hz1_ hz2_;have own5:=iy own5;have hg5:=iy hg5;have hb5:=iy hb5)
  have aW:=iy (aj.add (m:=a_.heap.size) oT b_ (fun b U=>by (unfold iD at U;simp only[uG,decide_eq_true_eq,beq_iff_eq]at U;rcases U with U | U;omega;exact aE b U)) aw own5.out hg5.out hb5.out);have aV:=iy (ai.other pe hg5 hb5 aD);have ag:=iy (aG.grown aj.own hg5 J b6);have aS:=kF aT aj.own hg5 J b5;have ar:Hid (∀b,((.slice A6 R c6):Value).ownBlock=some b->v5.ownBlock≠some b):=iy (fun b U=>by rcases hb5 with h1 | h1;rw[h1];exact aD b U;rw[h1];intro e;injection e with e;have h2:=aE b U;have h3:=ae.below.size;have h4:=lZ a';omega);have aL:=jW (jW aM ae.below.size) hg5.size;replace HX:Hid (X=mu el f m (R.map oX.er) ((I++[(AuT.mk A9 c9 l9)]).map AuT.er) (L.drop i24)):=by (show _=_;rw[s_,show [(AuT.mk A9 c9 l9)].map AuT.er=[b4] by rw[<- aO];rfl];exact HX)
  have aQ:(I++[(AuT.mk A9 c9 l9)]).length<=8:=by rw[mo];show I.length+1<=8;omega
  exact⟨⟨i24,f,R,(I++[(AuT.mk A9 c9 l9)]),al,iu,by have:=ag.le;omega,bf,aQ,HX,ag,aS,aL,aV,aW,ar⟩,by (rw[je ag.out.fields.2.2.1,d1.out];have:=ag.le;omega)⟩
 have az:=iy (HX.trans (iG (Or.inr iu)));obtain⟨a,er,rfl,he⟩:=hf;unfold oD;go_wp2_with fail;exact⟨rfl,kf az (ij (im aw0) aU) (jz a er he)⟩
theorem Ow (htag:∀u∈el,u.tags.l.length<=16) (hel:el.length<=1000):∀k,∀j≤k,CB B q A c L en eA ec el j:=by
 have zero:CB B q A c L en eA ec el 0:=⟨fun w i m o _ h=>absurd h iu,fun w i m o I _ h=>absurd h iu⟩;intro k;induction k with
 |zero=>
  intro j J;obtain rfl:j=0:=iu;exact zero
 |succ k ih=>
 intro j J;by_cases h:j<=k
 ·exact ih j h
 obtain rfl:j=k+1:=iu;exact⟨fun w i m o R h=>K5 o htag hel ih R h,fun w i m o I R h=>Db o I htag hel ih R h⟩
theorem MM (htag:∀u∈el,u.tags.l.length<=16) (hel:el.length<=1000) (k:Nat) (h:Rd B q A c L en eA ec el w i) (hk:20*(L-i)+30<=k):Calls prog 72 #[.pointer q,JX] w (pk B q A c L en eA ec el w i (mu el k 3 [] [] (L.drop i)) (VB w)):=
 (Ow htag hel k k (js k)).b w i 3 (js 3) h hk
end
theorem F7 {α:Type} (a:Array α) (i j:Nat) (f g:α->α) (h:i≠j):(a.modify i f).modify j g=(a.modify j g).modify i f:=by
 apply Array.ext_getElem?;intro k;simp only[Array.getElem?_modify];by_cases I:i=k<;>by_cases o:j=k<;>simp[I,o];exact absurd (I.trans o.symm) h
theorem uQ (w:yM) {b b':Nat} (h:b≠b') (i j:Nat) (u v:Value):(w.setCell (b,i) u).setCell (b',j) v=(w.setCell (b',j) v).setCell (b,i) u:=by
 unfold World.setCell;simp only[];rw[F7 _ _ _ _ _ h]
structure JV (w:yM) (y:Tx):Prop where
 rx:RX w y
 tb:FY y
 sz:y.size<=70000
theorem tu:pH JV:=⟨fun W W' y hb h=>⟨h.rx.below hb,h.tb,h.sz⟩,fun W w y k h=>⟨h.rx.sub k,h.tb,h.sz⟩⟩
theorem Q3 {W:yM} {b o:Nat} {y:Tx} (h:JV W y) (hj:∀j u,(jj y)[j]?=some u->W.cell? ⟨b,o+j,none⟩=some u):Bu True W b o y:=
 ⟨fun x hx=>Int.le_trans (h.tb x hx) iI,fun _=>jW h.sz iI,⟨hj 0 _ rfl,hj 1 _ rfl,hj 2 _ rfl,hj 3 _ rfl,hj 4 _ rfl,hj 5 _ rfl⟩,h.rx⟩
section
variable {n1 b3 q:Nat} {F:Nat->Bool} {w w':yM} {s:yB} {ins outs lo:nB iO} {vA vE v':Value} {as_ en_:List Tx}
theorem Pp {g n:Nat} {T:TypeId} {cp:Nat} {l:List Tx} (own:w.ownsRow n1 T 6 (.slice g (l+1) cp) (l+1) (l.flatMap jj++jj oE)) (y:Tx) :
  ((((((w.setCell (g,l.length*6) (.int .i64 y.kind)).setCell (g,l.length*6+1) (.int .i64 y.op)).setCell (g,l.length*6+2) (.int .i64 y.ty)).setCell (g,l.length*6+3) (.int .i64 y.va)).setCell (g,l.length*6+4) (.string y.name)).setCell (g,l.length*6+5) (.slice y.ad y.args y.cap)).ownsRow n1 T 6 (.slice g (l+1) cp) (l++[y]).length ((l++[y]).flatMap jj):=by
 have j:=(((((own.stored (l*6) (.int .i64 y.kind)).1.stored (l*6+1) (.int .i64 y.op)).1.stored (l*6+2) (.int .i64 y.ty)).1.stored (l*6+3) (.int .i64 y.va)).1.stored (l*6+4) (.string y.name)).1.stored (l*6+5) (.slice y.ad y.args y.cap) |>.1;have e:l.flatMap jj++jj oE=rS (l++[oE]):=by unfold rS;rw[Fa];simp
 have I:(l++[y]).flatMap jj=rS ((l++[oE]).set l y):=by unfold rS;rw[List.set_append_right _ _ (js _)];simp
 have o:=AD (l++[oE]) l.length y (by simp);rw[e,o]at j;rw[I,mo];exact j
def od (w:yM) (g o:Nat) (y:Tx):yM:=(((((w.setCell (g,o) (.int .i64 y.kind)).setCell (g,o+1) (.int .i64 y.op)).setCell (g,o+2) (.int .i64 y.ty)).setCell (g,o+3) (.int .i64 y.va)).setCell (g,o+4) (.string y.name)).setCell (g,o+5) (.slice y.ad y.args y.cap)
theorem xr (w:yM) {g b:Nat} (h:g≠b) (o j:Nat) (y:Tx) (v:Value):od (w.setCell (b,j) v) g o y=(od w g o y).setCell (b,j) v:=by
 unfold od;rw[uQ _ h,uQ _ h,uQ _ h,uQ _ h,uQ _ h,uQ _ h]
theorem th (w:yM) (g o:Nat) (y:Tx):(od w g o y).heap.size=w.heap.size:=by unfold od;simp only[jc]
theorem KG {v v':Value} {l:List Tx} {y:Tx} (h:pP n1 73 6 jj JV F w v l) (hy:JV (kK F w) y) (own:w'.ownsRow n1 73 6 v' (l+1) (l.flatMap jj++jj oE)) (g:w.grownBy w' v.ownBlock) (hb:v'.ownBlock=v.ownBlock\/v'.ownBlock=some w) :
  ∃r cp,v'=.slice (some ⟨r,0,none⟩) (l+1) cp/\n1<=r/\r<w'.heap.size/\pP n1 73 6 jj JV (iD F v') (od w' r (l*6) y) v' (l++[y])/\ik (kK F w) (kK (iD F v') (od w' r (l*6) y))/\(v'.ownBlock=some r):=by
 obtain⟨A,cp,rfl,_,_⟩:=ji own;rcases own.2 with⟨_,h0⟩ | ⟨r,cap,cur,hv,hbb,hgg,rest⟩
 ·omega
 injection hv with e1 e2 e3
 subst e1;have I:=own.lt r rfl;have U:=C4 (F:=F) g h.cov hb;have R:iD F (.slice r (l+1) cp) r=true:=pr rfl;have a6:ik (kK (iD F (.slice r (l+1) cp)) w') (kK (iD F (.slice r (l+1) cp)) (od w' r (l*6) y)):=by
  unfold od;exact zn R _ _ _ _ _ _ _
 have j:=ij U a6;refine⟨r,cp,rfl,I.1,I.2,?_,j,rfl⟩;refine⟨?_,fun b J=>pr J,fun z o=>?_⟩
 ·unfold od
  exact Pp (n:=0) own y
 refine tu.below _ _ _ j.below ?_;rcases ue.1 o with o | o
 ·exact h.inn z o
 rw[yw.1 o];exact hy
end
def rZ (y:nh):zO:=[y.name,y.ins.val,y.outs.val,y.locals.val,y.eqs.val,y.autos.val,y.assume.val,y.ensure.val]
structure JY (w:yM) (y:nh):Prop where
 nm:y.name.size<=65536
 r1:ir 3 jG w y.ins
 r2:ir 3 jG w y.outs
 r3:ir 3 jG w y.locals
 r4:ir 7 (xv True) w y.eqs
 r5:ir 1 (xM True) w y.autos
 r6:ir 6 (Bu True) w y.assume
 r7:ir 6 (Bu True) w y.ensure
theorem uz:pH JY:=⟨fun W W' y hb h=>⟨h.nm,h.r1.below iM hb,h.r2.below iM hb,h.r3.below iM hb,h.r4.below mX hb,h.r5.below si hb,h.r6.below nH hb,h.r7.below nH hb⟩,fun W w y k h=>⟨h.nm,h.r1.sub ky k,h.r2.sub ky k,h.r3.sub ky k,h.r4.sub uU k,v_ wY h.r5 k,h.r6.sub yO k,h.r7.sub yO k⟩⟩
theorem Q5 {W:yM} {b o:Nat} {y:nh} (h:JY W y) (hj:∀j u,(rZ y)[j]?=some u->W.cell? ⟨b,o+j,none⟩=some u):Gy True W b o y:=
 ⟨hj 0 _ rfl,hj 1 _ rfl,hj 2 _ rfl,hj 3 _ rfl,hj 4 _ rfl,hj 5 _ rfl,hj 6 _ rfl,hj 7 _ rfl,jW h.nm iI,h.r1,h.r2,h.r3,h.r4,h.r5,h.r6,h.r7⟩
section
variable {B:yM} {q:Nat} {A:zA} {c:Nat} {L:List Tk} {en:Int} {eA:zA} {ec:Nat} {el:List iW} {w w0 w1:yM} {i:Nat}
def qD (el:List iW) (k:Nat) (s:yB) (is os lo:List FZ) (cl:List Ex×List Ex) (ts:List Tk):Option (D8×List Tk):=
 (iF [⟨#[108,101,116]⟩] ts).bind fun (_,r)=>(mu el k 3 [] [] r).bind fun (b,r)=>(iF [⟨#[116,101,108]⟩] r).bind fun (_,r)=>some (⟨s,is,os,lo,b.1,b.2,cl.1,cl.2⟩,r)
def yD (el:List iW) (k:Nat) (s:yB) (is:List FZ) (ts:List Tk):Option (D8×List Tk):=
 (iF [⟨#[41]⟩,⟨#[114,101,116,117,114,110,115]⟩,⟨#[40]⟩] ts).bind fun (_,r)=>(mv el false 64 [] r).bind fun (os,r)=>(iF [⟨#[41]⟩] r).bind fun (_,r)=>(oG el r).bind fun (lo,r)=>(ox el k 17 [] [] r).bind fun (cl,r)=>qD el k s is os lo cl r
section
variable {β:Type} {k f:Nat} {as_ en_:List Ex} {ts:List Tk} {G:(List Ex×List Ex)×List Tk->Option β}
theorem Q2 (ha:jq ⟨#[97,115,115,117,109,101]⟩ ts=false) (hz:jq ⟨#[101,110,115,117,114,101]⟩ ts=false):(ox el k (f+1) as_ en_ ts).bind G=G ((as_,en_),ts):=by rw[ox,iV (by rw[ha];exact yE),iV (by rw[hz];exact yE)];rfl
end
theorem uY {w:yM} {b:Nat} {T:TypeId} {cs:Array Value} (h:iP w b T cs) (news:zO) (hc:cs.toList=news) (n sz:Nat) (hn:news=n*sz):oZ w (b+1) sz (some b) n news:=by
 refine⟨hn,fun _=>⟨_,rfl,Nat.lt_succ_self b,fun j u o=>?_⟩⟩;rw[yb,h.cell,<- Array.getElem?_toList,hc,t_];exact o
structure NSz (n1 b3:Nat) (F:Nat->Bool) (w:yM) (s:yB) (ins outs lo:nB iO) (z:Bool) (o:Nat) (v u:Value) (l m:List Tx):Prop where
 ho:cond z 6 7=o
 fam:P5 n1 F w
 b3n:b3<n1
 blk:iP w b3 65 #[s,ins.val,outs.val,lo.val,(),(),cond z v u,cond z u v]
 rs:∀t∈[ins,outs,lo],ir 3 jG (kK F w) t
 oa:pP n1 73 6 jj JV F w v l
 oe:pP n1 73 6 jj JV F w u m
 dif:∀b,v.ownBlock=some b->u.ownBlock≠some b
section
variable {n1 b3 q o:Nat} {F:Nat->Bool} {w w':yM} {s:yB} {ins outs lo:nB iO} {v u v':Value} {l m:List Tx} {z:Bool}
theorem NSz.swap (h:NSz n1 b3 F w s ins outs lo z o v u l m):NSz n1 b3 F w s ins outs lo (!z) (cond z 7 6) u v m l:=
 ⟨by cases z<;>rfl,h.fam,h.b3n,by have:=h.blk;cases z<;>exact this,h.rs,h.oe,h.oa,fun b h1 h2=>h.dif b h2 h1⟩
theorem NSz.iv (h:NSz n1 b3 F w s ins outs lo z o v u l m) (hq:q<n1) (hb:b3≠q) (a:ik (iz q w) (iz q w')):NSz n1 b3 F w' s ins outs lo z o v u l m:=by
 have hF:=h.fam.low q hq;have aF:ik (kK F w) (kK F w'):=j_ (q:=q) hF a;exact⟨h.ho,h.fam.after (lZ a),h.b3n,kq h.blk hb a,fun t ht=>(h.rs t ht).below iM aF.below,h.oa.iv tu hq hF a,h.oe.iv tu hq hF a,h.dif⟩
theorem NSz.after (h:NSz n1 b3 F w s ins outs lo z o v u l m) (a:ik w w'):NSz n1 b3 F w' s ins outs lo z o v u l m:=by
 have aF:ik (kK F w) (kK F w'):=oS a;exact⟨h.ho,h.fam.after a.below.size,h.b3n,mZ (w:=w) (k:=a) h.blk,fun t ht=>(h.rs t ht).below iM aF.below,h.oa.after tu a,h.oe.after tu a,h.dif⟩
theorem NSz.at (h:NSz n1 b3 F w s ins outs lo z o v u l m):w.cell? (b3,o)=some v/\w.frozen? (b3,o)=false/\Le (b3+1) w:=⟨by rw[h.blk.cell,<- h.ho];cases z<;>rfl,h.blk.frozen _,h.blk.is_le⟩
theorem NSz.gat (h:NSz n1 b3 F w s ins outs lo z o v u l m) (g:w.grownBy w' v.ownBlock):w'.cell? (b3,o)=some v/\w'.frozen? (b3,o)=false/\Le (b3+1) w':=by
 have b:=oY h.blk g fun e'=>by have:=(h.oa.lt e'.symm).1;have:=h.b3n;omega
 exact⟨by rw[b.cell,<- h.ho];cases z<;>rfl,b.frozen _,b.is_le⟩
theorem NSz.add {y:Tx} (h:NSz n1 b3 F w s ins outs lo z o v u l m) (hy:JV (kK F w) y) (own:w'.ownsRow n1 73 6 v' (l+1) (l.flatMap jj++jj oE)) (g:w.grownBy w' v.ownBlock) (hb:v'.ownBlock=v.ownBlock\/v'.ownBlock=some w) :
  ∃r cp,v'=.slice (some ⟨r,0,none⟩) (l.length+1) cp/\n1<=r/\r<w'.heap.size/\NSz n1 b3 (iD F v') ((od w' r (l.length*6) y).setCell (b3,o) v') s ins outs lo z o v' u (l++[y]) m:=by
 obtain⟨r,cp,e,h1,h2,ho,aall,hvb⟩:=KG h.oa hy own g hb;refine⟨r,cp,e,h1,h2,?_⟩;have h3n:=h.b3n;have hF3:iD F v' b3=true:=lF (h.fam.low b3 h3n);have a3:=kJ hF3 (od w' r (l*6) y) o v';have aF:=ij aall a3;have hsz:(od w' r (l*6) y).heap.size=w'.heap.size:=th _ _ _ _;have hbr:∀{b},v'.ownBlock=some b->b=r:=fun hb'=>sI (hb'.symm.trans hvb)
 have hne:u.ownBlock≠some r:=fun e'=>by
  rcases hb with hb | hb
  ·exact h.dif r (hb.symm.trans hvb) e'
  have:=hbr hb;have:=(h.oe.lt e').2;omega
 have hoe:(od w' r (l*6) y).ownsRow n1 73 6 u m (m.flatMap jj):=by
  unfold od;exact kh (kh (kh (kh (kh (kh (Aq (v:=v) h.oe.own g fun b hb' e'=>h.dif b e' hb') hne _ _) hne _ _) hne _ _) hne _ _) hne _ _) hne _ _
 refine⟨h.ho,(h.fam.add (v:=v') g.size fun b hb'=>by have:=hbr hb';omega).after (by rw[jc,hsz];exact js _),h3n,?_,fun t ht=>(h.rs t ht).below iM aF.below,ho.lW tu hF3 (fun e'=>by have:=hbr e';omega) o v',h.oe.step tu (kh hoe (fun e'=>by have:=(h.oe.lt e').1;omega) o v') aF fun b hb'=>lF hb',fun b hb' e'=>hne (hbr hb'▸e')⟩;have hr3:b3≠r:=iu
 have hb2 {cs} (hb1:iP w' b3 65 cs):iP (od w' r (l*6) y) b3 65 cs:=by
  unfold od;exact tV (p:=⟨r,_,none⟩) (tV (p:=⟨r,_,none⟩) (tV (p:=⟨r,_,none⟩) (tV (p:=⟨r,_,none⟩) (tV (p:=⟨r,_,none⟩) (tV (p:=⟨r,_,none⟩) hb1 hr3 _) hr3 _) hr3 _) hr3 _) hr3 _) hr3 _
 obtain rfl:=h.ho;have hb3:=hb2 (oY h.blk g fun e'=>by have:=(h.oa.lt e'.symm).1;omega);cases z
 ·exact hb3.jx 7 v'
 exact hb3.jx 6 v'
end
structure NdB (n1 b3:Nat) (w:yM) (s:yB) (x y z:nB iO):Prop where
 b:iP w b3 65 #[s,x.val,y.val,z.val,(),(),(),()]
 rs:∀t∈[x,y,z],ir 3 jG (old n1 w) t
 s:n1<=w
section
variable {B:yM} {q:Nat} {A:zA} {c:Nat} {L:List Tk} {en:Int} {eA:zA} {ec:Nat} {el:List iW} {w w0 w':yM} {i n1 b3:Nat} {s:yB} {x y z x' y' z':nB iO}
theorem NdB.to (h:NdB n1 b3 w s x y z) (hq:q<n1) (hb:b3≠q) (a:ik (iz q w) (iz q w')):NdB n1 b3 w' s x y z:=⟨kq h.b hb a,fun t ht=>(h.rs t ht).below iM (kj hq a).below,jW h.s (lZ a)⟩
theorem NdB.st (h:NdB n1 b3 w s x y z) (R:Hid (Rd B q A c L en eA ec el w i)) (a:ik (iz q w0) (iz q w)) (hc:b3≠q/\B<=b3/\w0<=b3/\b3<n1) {dA:zA} {dc:Nat} {dl:List iO} {k:Nat} (D:ir 3 jG (old k w) ⟨dA,dc,dl⟩) (hk:n1<=k) (j:Nat) (x' y' z':nB iO)
  (hs:∀t∈[x',y',z'],t=⟨dA,dc,dl⟩\/t∈[x,y,z]:=by simp) (e:(#[.string s,x.val,y.val,z.val,.slice none 0 0,.slice none 0 0,.slice none 0 0,.slice none 0 0]:Array Value).setIfInBounds j (.slice dA dl.length dc)=#[.string s,x'.val,y'.val,z'.val,.slice none 0 0,.slice none 0 0,.slice none 0 0,.slice none 0 0]:=by rfl) :
  ∃W,w.setCell (b3,j) (.slice dA dl dc)=W/\Hid (Rd B q A c L en eA ec el W i)/\ik (iz q w0) (iz q W)/\Hid (NdB n1 b3 W s x' y' z'):=
 ⟨_,rfl,R.out.set hc.1 hc.2.1 _ _,iJ (k:=ko hc.2.2.1) (h:=a) _ _,⟨e▸h.b.jx j _,fun t ht=>((hs t ht).elim (fun e=>e▸v_ ky D (iS hk w)) (h.rs t)).below iM (j' hc.2.2.2 _ _ _).below,by rw[jc];exact h.s⟩⟩
theorem pCls_z {β:Type} {k f:Nat} {J I:List Ex} {ts:List Tk} {G:(List Ex×List Ex)×List Tk->Option β} {z y:Bool} (hz:jq ⟨#[97,115,115,117,109,101]⟩ ts=z) (hy:jq ⟨#[101,110,115,117,114,101]⟩ ts=y) (h:(z||y)=true):(ox el k (f+1) (cond z J I) (cond z I J) ts).bind G=if 8<=J.length then none else (jg el k ts.tail).bind fun (x,r)=>(iF [⟨#[59]⟩] r).bind fun (_,r)=>(ox el k f (cond z (J++[x]) I) (cond z I (J++[x])) r).bind G:=by
 rw[ox,hz,hy];cases z
 ·obtain rfl:y=true:=h
  rw[iV yE,iG rfl];show Option.bind (if 8<=J.length then none else _) G=_
  split
  ·rfl
  cases jg el k ts.tail with
  |none=>rfl
  |some p=>obtain⟨x,r⟩:=p;show Option.bind (Option.bind (iF [⟨#[59]⟩] r) _) G=Option.bind (iF [⟨#[59]⟩] r) _;cases iF [⟨#[59]⟩] r<;>rfl
 rw[iG rfl];show Option.bind (if 8<=J.length then none else _) G=_
 split
 ·rfl
 cases jg el k ts.tail with
 |none=>rfl
 |some p=>obtain⟨x,r⟩:=p;show Option.bind (Option.bind (iF [⟨#[59]⟩] r) _) G=Option.bind (iF [⟨#[59]⟩] r) _;cases iF [⟨#[59]⟩] r<;>rfl
end
section
variable {B:yM} {q:Nat} {A:zA} {c:Nat} {L:List Tk} {en:Int} {eA:zA} {ec:Nat} {el:List iW} {w:yM} {i:Nat}
theorem N7 {k:Nat} (htag:∀u∈el,u.tags.l.length<=16) (hel:el.length<=1000) (h:Rd B q A c L en eA ec el w i) (hk:20*(L.length-i)+40<=k):Calls prog 36 #[.pointer (some ⟨q,0,none⟩)] w (pk B q A c L en eA ec el w i (uO el k (L.drop i)) (VG rZ JY nh.er w.heap.size)):=by
 obtain⟨X,hX⟩:=jt (uO el k (L.drop i));rw[hX];obtain⟨i0,hi0⟩:=jt i;rw[hi0]at hX h hk⊢;have HX:=iy hX.symm;have le0:Hid (i0<=i0):=js _;have hq:=h.blk.lt;have hbase:=h.base;obtain⟨r,hr⟩:=jt w.heap.size;have hrq:r≠q:=iu
 obtain⟨w0,hw0,aw0,B0,R0,s0⟩:=Ls h hr hrq #[.string ⟨#[]⟩,.slice none 0 0,.slice none 0 0,.slice none 0 0,.slice none 0 0,.slice none 0 0,.slice none 0 0,.slice none 0 0] 65;have HB:=iy B0;have a0:=iq (iz q w0);clear h B0 hX hi0;go_in;go_wp2_with fail;try rw[hr]
 try rw[hw0]
 go_wp2_with fail;refine td (qb R0.out) HX a0 le0 ?_;clear HX;rintro w1 s v1 i1 ⟨rfl,hs1⟩ R1 HX le1 li1 b1 a1;have hS:=iy hs1;obtain⟨b3,hb3⟩:=jt w1.heap.size;have hz:=lZ a1;have hr3:r<b3:=iu
 have b3q:b3≠q:=iu
 obtain⟨n1,hn1⟩:=jt (b3+1);have n1q:q<n1:=iu
 have n1B:B.heap.size<=n1:=iu
 have n1r:w0.heap.size<=n1:=iu
 have n1w:w.heap.size<=n1:=iu
 have hc:=iy (show b3≠q/\B.heap.size<=b3/\w0.heap.size<=b3/\b3<n1 by omega);obtain⟨w2,hw2,K2,R2,a2,s2⟩:∃z,w1.alloc (.cells #[.string s,.slice none 0 0,.slice none 0 0,.slice none 0 0,.slice none 0 0,.slice none 0 0,.slice none 0 0,.slice none 0 0] 65)=z/\Hid (NdB n1 b3 z s ⟨none,0,[]⟩ ⟨none,0,[]⟩ ⟨none,0,[]⟩)/\Hid (Rd B q A c L en eA ec el z i1)/\ik (iz q w0) (iz q z)/\Hid (b3+1=z.heap.size):=⟨_,rfl,⟨by rw[<- hb3];exact jC ..,by intro t ht;simp at ht;subst ht;exact ir.nil _,by rw[iH];omega⟩,R1.out.after zc,ij a1 (im zc),by (show _=_;rw[iH,hb3])⟩;have hw2':=iy hw2;clear hw2 R1 s0 hn1 hs1 hz;go_wp2_with fail;try rw[hb3]
 try rw[hw2'.out]
 try rw[s2.out]
 go_wp2_with fail;refine td (jH R2.out [⟨#[40]⟩] iI) HX a2 le1 ?_;clear HX;rintro w3 x3 v3 i3 rfl R3 HX le3 li3 b3' a3;have K3:=iy (K2.out.to n1q b3q b3');clear hw2' K2 R2 a2 le1 b3' hb3;obtain⟨z,hz⟩:=jt (jq ⟨#[41]⟩ (L.drop i3));have HC:=nK R3.out ⟨#[41]⟩;replace HX:Hid (X=(if jq ⟨#[41]⟩ (L.drop i3) then some ([],L.drop i3) else mv el false 64 [] (L.drop i3)).bind fun (is,r)=>yD el k s is r):=HX;rw[hz]at HC HX;replace HC:=iy HC;go_wp2_with fail;refine HC.out.mono ?_;clear HC;rintro e w4 ⟨rfl,aN⟩;have R4:=iy (R3.out.after aN);have K4:=iy (K3.out.to n1q b3q (im (q:=q) aN));have a4:=ij a3 (im (q:=q) aN);clear R3 K3 a3 aN hz;go_upto_if 13 with fail
 go_cut [] (fun wx=>∃(i':Nat) (x:nB iO) (W:yM),W=wx/\Hid (i0<=i')/\Hid (X=yD el k s (x.l.map iO.er) (L.drop i'))/\Hid (Rd B q A c L en eA ec el W i')/\ik (iz q w0) (iz q W)/\Hid (NdB n1 b3 W s x ⟨none,0,[]⟩ ⟨none,0,[]⟩))
 ·
  cases z
  ·skip
   go_wp2_with fail;refine td (Ac (M:=64) iI false htag hel R4.out) HX a4 le3 ?_;clear HX;rintro w5 x5 v5 i5 ⟨dA,dc,dl,rfl,rfl,D⟩ R5 HX le5 li5 b5 a5;have K5:=K4.out.to n1q b3q b5;obtain⟨m1,f1,l1⟩:=K5.b.at1 1;obtain⟨w6,hw6,R6,a6,K6⟩:=K5.st R5 a5 hc.out D K4.out.s 1 ⟨dA,dc,dl⟩ ⟨none,0,[]⟩ ⟨none,0,[]⟩;clear R5 K4 R4;go_wp2_with fail;try rw[hw6]
   go_wp2;go_meet;exact⟨_,_,_,rfl,le5,HX,R6,a6,K6⟩
  skip;go_wp2;go_meet;exact⟨_,⟨none,0,[]⟩,_,rfl,le3,HX,R4,a4,K4⟩
 case rest=>
 clear HX R4 K4 a4 le3;obtain⟨i7,x,w7,rfl,le7,HX,R7,a7,K7⟩:=hcut;go_wp2_with fail;refine td (jH R7.out [⟨#[41]⟩,⟨#[114,101,116,117,114,110,115]⟩,⟨#[40]⟩] iI) HX a7 le7 ?_;clear HX;rintro w8 x8 v8 i8 rfl R8 HX le8 li8 b8 a8;have K8:=iy (K7.out.to n1q b3q b8);clear R7 K7 a7 le7 b8;go_wp2_with fail;refine td (Ac (M:=64) iI false htag hel R8.out) HX a8 le8 ?_;clear HX;rintro w9 x9 v9 i9 ⟨oA,oc,ol,rfl,rfl,D⟩ R9 HX le9 li9 b9 a9;have K9:=K8.out.to n1q b3q b9;obtain⟨m1,f1,l1⟩:=K9.b.at1 2;obtain⟨w10,hw10,R10,a10,K10⟩:=K9.st R9 a9 hc.out D K8.out.s 2 x ⟨oA,oc,ol⟩ ⟨none,0,[]⟩;clear R9 K9 a9 R8 K8 a8 D b9;go_wp2_with fail;try rw[hw10]
 clear hw10 m1 f1 l1;go_wp2_with fail;refine td (jH R10.out [⟨#[41]⟩] iI) HX a10 le9 ?_;clear HX;rintro w8 x8 v8 i8 rfl R8 HX le8 li8 b8 a8;have K8:=iy (K10.out.to n1q b3q b8);clear R10 K10 a10 le9 b8;go_wp2_with fail;refine td (CR htag hel R8.out) HX a8 le8 ?_;clear HX;rintro w9 x9 v9 i9 ⟨kA,kc,kl,rfl,rfl,D⟩ R9 HX le9 li9 b9 a9;have K9:=K8.out.to n1q b3q b9;obtain⟨m1,f1,l1⟩:=K9.b.at1 3;obtain⟨w10,hw10,R10,a10,K10⟩:=K9.st R9 a9 hc.out D K8.out.s 3 x ⟨oA,oc,ol⟩ ⟨kA,kc,kl⟩;clear R9 K9 a9 R8 K8 a8 D b9;obtain⟨G,hG⟩:=jt (fun (p:(List Ex×List Ex)×List Tk)=>qD el k s (x.l.map iO.er) (ol.map iO.er) (kl.map iO.er) p.1 p.2);replace HX:Hid (X=(ox el k 17 (List.map Tx.er []) (List.map Tx.er []) (L.drop i9)).bind G):=by rw[<- hG];exact HX
 replace hG:=iy hG;obtain⟨o1,ho1⟩:=jt (⟨oA,oc,ol⟩:nB iO);obtain⟨k1,hk1⟩:=jt (⟨kA,kc,kl⟩:nB iO);have hF (b:Nat) (hb:decide (b<n1)=true):=vO hb;have NS:Hid (NSz n1 b3 (fun b=>decide (b<n1)) w10 s x o1 k1 true 6 (.slice none 0 0) (.slice none 0 0) [] []):=⟨rfl,⟨fun b hb=>lp hb,fun b hb=>by have:=hF b hb;have:=K10.out.s;omega⟩,hc.out.2.2.2,by rw[<- ho1,<- hk1];exact K10.out.b,fun t ht=>(K10.out.rs t (by rw[ho1,hk1];exact ht)).sub ky (nO w10 hF),pP.nil,pP.nil,fun b hb=>by cases hb⟩;have s10:=K10.out.s;replace hG:Hid ((fun (p:(List Ex×List Ex)×List Tk)=>qD el k s (x.l.map iO.er) (o1.l.map iO.er) (k1.l.map iO.er) p.1 p.2)=G):=by rw[<- ho1,<- hk1];exact hG
 clear K10 ho1 hk1;go_wp2_with fail;try rw[hw10]
 clear hw10 m1 f1 l1;go_wp2_with fail;go_loopw [] (fun wr=>∃(i' f:Nat) (F:Nat->Bool) (v u:Value) (l m:List Tx),Hid (i0<=i')/\l.length<=8/\m.length<=8/\l.length+m.length+f=17/\Hid (X=(ox el k f (l.map Tx.er) (m.map Tx.er) (L.drop i')).bind G)/\Hid (Rd B q A c L en eA ec el wr i')/\ik (iz q w0) (iz q wr)/\n1<=wr.heap.size/\Hid (NSz n1 b3 F wr s x o1 k1 true 6 v u l m)) (fun wr=>L.length-lO wr q 2)
 ·exact⟨i9,17,_,_,_,[],[],le9,wB _,wB _,rfl,HX,R10,a10,s10,NS⟩
 case round=>
 clear HX R10 a10 s10 NS hF;obtain⟨i2,f,F,v,u,l,m,le2,hl,hm,hf,HX,R2,a2,s2,NS⟩:=hrel;obtain⟨f,rfl⟩:∃j,f=j+1:=⟨f-1,by omega⟩;have d1:Hid (lO wr q 2=i2):=iy (je R2.out.fields.2.2.1);obtain⟨z,hz⟩:=jt (jq ⟨#[97,115,115,117,109,101]⟩ (L.drop i2));obtain⟨y,hy⟩:=jt (jq ⟨#[101,110,115,117,114,101]⟩ (L.drop i2));have HZ (w) (R:Rd B q A c L en eA ec el w i2):=hz▸nK R ⟨#[97,115,115,117,109,101]⟩;have HY (w) (R:Rd B q A c L en eA ec el w i2):=hy▸nK R ⟨#[101,110,115,117,114,101]⟩;replace HZ:=iy HZ;replace HY:=iy HY;replace hz:=iy hz;replace hy:=iy hy;go_upto_region 9 with fail
 go_cut [34] (fun p wx=>∃W,W=wx/\p=.bool (z||y)/\Hid (Rd B q A c L en eA ec el W i2)/\ik (iz q wr) (iz q W))
 ·
  cases z
  ·skip
   go_wp2_with fail;refine (HZ.out _ R2.out).mono ?_;rintro e w4 ⟨rfl,aN⟩;go_wp2_with fail;refine (HY.out _ (R2.out.after aN)).mono ?_;rintro e w5 ⟨rfl,aM⟩;go_wp2;go_meet;exact⟨w5,rfl,rfl,(R2.out.after aN).after aM,im (ij aN aM)⟩
  skip;go_wp2_with fail;refine (HZ.out _ R2.out).mono ?_;rintro e w4 ⟨rfl,aN⟩;go_wp2;go_meet;exact⟨w4,rfl,rfl,R2.out.after aN,im aN⟩
 case rest=>
 obtain⟨w3,rfl,rfl,R3,b4⟩:=hcut;have a3:=ij a2 b4;replace NS:=iy (NS.out.iv n1q b3q b4);replace s2:=jW s2 (lZ b4);clear R2 a2 b4;cases hzy:z||y
 ·skip
  obtain⟨rfl,rfl⟩:z=false/\y=false:=by simpa using hzy
  obtain⟨A5,c5,rfl,_,_⟩:=ji NS.out.oa.own;obtain⟨A6,c6,rfl,_,_⟩:=ji NS.out.oe.own;replace HX:=HX.out.trans (Q2 hz.out hy.out);rw[<- hG.out]at HX;replace HX:=iy HX;clear hG HZ HY;go_wp2_with fail;refine td (jH R3.out [⟨#[108,101,116]⟩] iI) HX a3 le2 ?_;clear HX;rintro w4 x4 v4 i4 rfl R4 HX le4 li4 b4 a4;replace NS:=iy (NS.out.iv n1q b3q b4);replace s2:=jW s2 (lZ b4);clear R3 a3 b4;go_wp2_with fail;refine td (MM htag hel k R4.out (by have:=le2.out;omega)) HX a4 le4 ?_;clear HX;rintro w5 ⟨-,-⟩ v5 i5 ⟨eQ,eC,es,aQ,aC,au,rfl,rfl,rfl,DE,DA,-,-⟩ R5 HX le5 li5 b5 a5;have N5:=NS.out.iv n1q b3q b5;have nx {t} (ht:t∈[x,o1,k1]):=(N5.rs t ht).sub ky (sZ w5 N5.fam.low);have hP (W b p) (y:Tx) (hy:JV W y) (hj:∀j u,(jj y)[j]?=some u->W.cell? ⟨b,p+j,none⟩=some u):=Q3 hy hj;have hN:JY (old n1 w5) (nh.mk s x o1 k1 ⟨eQ,eC,es⟩ ⟨aQ,aC,au⟩ ⟨A5,c5,l⟩ ⟨A6,c6,m⟩):=⟨hS.out,nx (by simp),nx (by simp),nx (by simp),DE.sub uU (iS s2 w5),DA.sub wY (iS s2 w5),N5.oa.row tu N5.fam.low (fun _=>rfl) iu hP,N5.oe.row tu N5.fam.low (fun _=>rfl) iu hP⟩;obtain⟨m4,f4,l4⟩:=N5.blk.at1 4;obtain⟨m5,f5,-⟩:=N5.blk.at1 5;obtain⟨w6,hw6,R6,a6,B6,N6⟩:∃z,(w5.setCell ⟨b3,4,none⟩ (.slice eQ es.length eC)).setCell ⟨b3,5,none⟩ (.slice aQ au.length aC)=z/\Hid (Rd B q A c L en eA ec el z i5)/\ik (iz q w0) (iz q z)/\Hid (iP z b3 65 #[.string s,.slice x.A x.l.length x.c,.slice o1.A o1.l.length o1.c,.slice k1.A k1.l.length k1.c,.slice eQ es.length eC,.slice aQ au.length aC,.slice A5 l.length c5,.slice A6 m.length c6])/\Hid (JY (old n1 z) (nh.mk s x o1 k1 ⟨eQ,eC,es⟩ ⟨aQ,aC,au⟩ ⟨A5,c5,l⟩ ⟨A6,c6,m⟩)):=⟨_,rfl,(R5.out.set b3q hc.out.2.1 _ _).set b3q hc.out.2.1 _ _,iJ (k:=ko hc.out.2.2.1) (h:=iJ (k:=ko hc.out.2.2.1) (h:=a5) _ _) _ _,(N5.blk.jx 4 _).jx 5 _,uz.below _ _ _ (j' hc.out.2.2.2 _ _ _).below (uz.below _ _ _ (j' hc.out.2.2.2 _ _ _).below hN)⟩
  clear NS N5 nx hN DE DA R5 a5 R4 a4;go_wp2_with fail;try rw[hw6]
  clear hw6 m4 f4 l4 m5 f5;go_wp2_with fail;refine td (jH R6.out [⟨#[116,101,108]⟩] iI) HX a6 le5 ?_;clear HX;rintro w7 x7 v7 i7 rfl R7 HX le7 li7 b7 a7;have B7:=kq B6.out b3q b7;have N7:=iy (uz.below _ _ _ (kj n1q b7).below N6.out);obtain⟨m0,m1,m2,m3,m4,m5,m6,m7⟩:=sX B7;have ml:=B7.is_le;have Br:iP w7 r 65 #[.string ⟨#[]⟩,.slice none 0 0,.slice none 0 0,.slice none 0 0,.slice none 0 0,.slice none 0 0,.slice none 0 0,.slice none 0 0]:=lM (HB.out.after (k:=a7)) hrq;obtain⟨n0,n1',n2,n3,n4,n5,n6,n7⟩:=sX Br;obtain⟨f0,f1,f2,f3,f4,f5,f6,f7⟩:=tC Br;have nl:=Br.is_le;obtain⟨W,hW,EW,RW,aW,oW,sW⟩:=tR (zs:=[.string ⟨#[]⟩,.slice none 0 0,.slice none 0 0,.slice none 0 0,.slice none 0 0,.slice none 0 0,.slice none 0 0,.slice none 0 0]) Br R7.out hrq (ij (im aw0) a7) (lI hr) iu [.string s,.slice x.A x.l.length x.c,.slice o1.A o1.l.length o1.c,.slice k1.A k1.l.length k1.c,.slice eQ es.length eC,.slice aQ au.length aC,.slice A5 l.length c5,.slice A6 m.length c6] rfl;simp only[Fm,t_,Nat.reduceAdd]at hW;replace hW:=iy hW;go_wp2_with fail;try rw[hW.out]
  obtain⟨u0,u1,u2,u3,u4,u5,u6,u7⟩:=sX EW;exact jR (v:=.agg #[.string s,.slice x.A x.l.length x.c,.slice o1.A o1.l.length o1.c,.slice k1.A k1.l.length k1.c,.slice eQ es.length eC,.slice aQ au.length aC,.slice A5 l.length c5,.slice A6 m.length c6]) (by simp[results,results36,go_sem,u0,u1,u2,u3,u4,u5,u6,u7]) rfl (lN (show X=some (nh.er (nh.mk s x o1 k1 ⟨eQ,eC,es⟩ ⟨aQ,aC,au⟩ ⟨A5,c5,l⟩ ⟨A6,c6,m⟩),L.drop i7) from HX.out) aW ⟨(nh.mk s x o1 k1 ⟨eQ,eC,es⟩ ⟨aQ,aC,au⟩ ⟨A5,c5,l⟩ ⟨A6,c6,m⟩),rfl,rfl,uz.sub _ _ _ (iS n1w W) (uz.below _ _ _ (oW n1 (by have:=hc.out;omega)).below N7.out)⟩ RW rfl le7.out)
 skip;have h3:=HZ.out _ R3.out;go_wp2_with fail;refine h3.mono ?_;rintro e w4 ⟨rfl,aN⟩;have R4:=iy (R3.out.after aN);have a4:=ij a3 (im (q:=q) aN);replace NS:=iy (NS.out.iv n1q b3q (im aN));replace s2:=jW s2 aN.below.size;clear R3 a3 aN h3;obtain⟨o,v,u,J,I,hJ,hI,hf,HX,NS⟩:∃o v u J I,J.length<=8/\I.length<=8/\J.length+I.length+(f+1)=17/\Hid (X=(ox el k (f+1) (cond z (J.map Tx.er) (I.map Tx.er)) (cond z (I.map Tx.er) (J.map Tx.er)) (L.drop i2)).bind G)/\Hid (NSz n1 b3 F w4 s x o1 k1 z o v u J I):=by
  cases z
  ·exact⟨7,u,v,m,l,hm,hl,by omega,HX,NS.out.swap⟩
  exact⟨6,v,u,l,m,hl,hm,hf,HX,NS⟩
 go_upto_if 37 with fail
 go_cut [4] (fun p wx=>wx=w4/\p=.pointer (some ⟨b3,o,none⟩))
 ·
  have ho:=NS.out.ho;cases z;all_goals
   obtain rfl:=ho;go_wp2;go_meet;exact⟨rfl,rfl⟩
 case rest=>
 obtain⟨rfl,rfl⟩:=hcut;replace HX:=iy (HX.out.trans (pCls_z hz.out hy.out hzy));obtain⟨A5,c5,rfl,_,_⟩:=ji NS.out.oa.own;have h4:=mF R4.out (J.length:Int) 8;obtain⟨m1,f1,l1⟩:=NS.out.at
 go_wp2_with fail;refine h4.mono ?_;clear h4 m1 f1 l1;rintro e w5 ⟨aN,hE⟩;have R5:=iy (R4.out.after aN);have a5:=ij a4 (im (q:=q) aN);replace NS:=iy (NS.out.iv n1q b3q (im aN));replace s2:=jW s2 aN.below.size;clear R4 a4 aN;rcases hE with⟨lt,rfl⟩ | ⟨ge,a,er,rfl,he⟩
 ·skip
  replace HX:=HX.out.trans (iV (by simp;omega));rw[tail_drop]at HX;replace HX:=iy HX;have lt2:i2<L.length:=by
   cases z
   ·exact pI (hy.out.trans hzy)
   exact pI hz.out
  obtain⟨c0,c1,c2,c3,f2,l0⟩:=R5.out.fields;have hfew:=R5.out.few;obtain⟨w6,hw6,R6,a6,b6⟩:∃z,w5.setCell ⟨q,2,none⟩ (.int .i64 ((i2:Int)+1))=z/\Hid (Rd B q A c L en eA ec el z (i2+1))/\ik (iz q w0) (iz q z)/\ik (iz q w5) (iz q z):=⟨_,rfl,R5.out.move (j:=i2+1) lt2,by rw[jJ];exact a5,by rw[jJ];exact iq _⟩;have le6:Hid (i0<=i2+1):=Nat.le_succ_of_le le2.out;go_upto_region 15 with fail
  try rw[hw6]
  replace NS:=iy (NS.out.iv n1q b3q b6);replace s2:=jW s2 (lZ b6);clear hw6 c0 c1 c2 c3 f2 l0 R5 a5 b6;go_cut [] (fun wx=>∃(i':Nat) (y:Tx) (F:Nat->Bool) (v:Value) (W:yM),W=wx/\Hid (i0<=i')/\i2+1<=i'/\Hid (X=(iF [⟨#[59]⟩] (L.drop i')).bind fun (_,r)=>(ox el k f (cond z ((J++[y]).map Tx.er) (I.map Tx.er)) (cond z (I.map Tx.er) ((J++[y]).map Tx.er)) r).bind G)/\Hid (Rd B q A c L en eA ec el W i')/\ik (iz q w0) (iz q W)/\n1<=W.heap.size/\Hid (NSz n1 b3 F W s x o1 k1 z o v u (J++[y]) I))
  ·
   have N1:=NS.out;have HC:Hid (∀U,ik w6 U->Calls prog 71 #[.pointer (some ⟨q,0,none⟩)] U (pk B q A c L en eA ec el U (i2+1) (jg el k (L.drop (i2+1))) (VX U.heap.size))):=fun U hU=>wA htag hel k (R6.out.after hU) (by have:=le2.out;omega)
   generalize hYE:jg el k (L.drop (i2+1))=Y at HC HX;have HK:Hid (∀U,ik (iz q w6) (iz q U)->U.cell? ⟨b3,o,none⟩=some (.slice A5 J.length c5)):=fun U hU=>(N1.iv n1q b3q hU).at.1
   have l3:=N1.blk.is_le;refine jm (fun U:yM=>U.cell? ⟨b3,o,none⟩=some (.slice A5 J.length c5)) [7,8,9,10,11] kp ?_;have h0:=HK.out w6.drew zc;refine wT 0 [1,2,5,7,8,9,10,11] (.pointer (some ⟨b3,o,none⟩)) h0 ?_;try simp only[Act.put,oF,oB,oq]
   refine wT 1 [2,5,7,8,9,10,11] (.pointer (some ⟨b3,o,none⟩)) h0 ?_;try simp only[Act.put,oF,oB,oq]
   refine wT 2 [5,7,8,9,10,11] (.slice A5 J.length c5) h0 ?_;try simp only[Act.put,oF,oB,oq]
   refine wT 3 [4,7,8,9,10,11] (.pointer (some ⟨q,0,none⟩)) h0 ?_;try simp only[Act.put,oF,oB,oq]
   refine wT 5 [7,8,9,10,11] (.int .i64 (J.length:Nat)) h0 ?_;try simp only[Act.put,oF,oB,oq]
   clear h0;refine jX (rs:=[4,6]) kp iI ?_;intro i hi;simp only[la]at hi;rcases hi with rfl | rfl
   all_goals refine jE rfl rfl ?_
   rotate_left
   focus
    go_simp;obtain⟨w8,hw8,o8,Z8,s8⟩:∃z,(w6.alloc (.cells #[.int .i64 0,.int .i64 0,.int .i64 0,.int .i64 0,.string ⟨#[]⟩,.slice none 0 0] 73)).drew=z/\ik w6 z/\iP z w6.heap.size 73 #[.int .i64 0,.int .i64 0,.int .i64 0,.int .i64 0,.string ⟨#[]⟩,.slice none 0 0]/\w6.heap.size<z.heap.size:=⟨_,rfl,zc,(jC ..).drew,by rw[xy,iH];omega⟩;try rw[hw8]
    clear hw8;refine kS (HK.out _ (iq _)) ?_;refine lH 4 ?_
   rotate_left;all_goals
    go_simp;go_at_call 71;refine (HC.out _ zc).mono ?_;clear HC;rintro e w9 ⟨aZ,hY⟩;have aM:ik (iz q w6) (iz q w9):=ij (im zc) aZ;rcases Y with _ | ⟨x9,r9⟩
    ·obtain⟨a,er,rfl,he⟩:=hY
     unfold oD;exact⟨rfl,kf HX.out (ij (im aw0) (ij a6 aM)) (jz a er he)⟩
    obtain⟨v9,i9,rfl,⟨⟨k9,o9,t9,z9,s9,A9,c9,xs9⟩,hx9,rfl,D9⟩,R9,rfl,hi9⟩:=hY;rw[JQ];have hok:=C' htag hel hx9 hYE (by rw[nY];have:=R9.few;omega);have hx9:=iy hx9;have O9:JV (kK F w9) (.mk k9 o9 t9 z9 s9 A9 c9 xs9):=⟨D9.sub (nO w9 fun b hb=>by have:=N1.fam.lim b hb;first | exact this | omega),hok.1,hok.2⟩;refine kS (HK.out _ aM) ?_
   focus
    refine lH 6 ?_;go_simp;obtain⟨w10,hw10,aM,R9,N10,O10,Z10,lt10⟩:∃U,w9.alloc (.cells #[.int .i64 0,.int .i64 0,.int .i64 0,.int .i64 0,.string ⟨#[]⟩,.slice none 0 0] 73)=U/\ik (iz q w6) (iz q U)/\Rd B q A c L en eA ec el U i9/\NSz n1 b3 F U s x o1 k1 z o (.slice A5 J.length c5) u J I/\JV (kK F U) (.mk k9 o9 t9 z9 s9 A9 c9 xs9)/\oZ U (w9.heap.size+1) 6 (some ⟨w9.heap.size,0,none⟩) 1 (jj oE)/\w9.heap.size<U.heap.size:=⟨_,rfl,ij aM (im zc),R9.after zc,(N1.iv n1q b3q aM).after zc,tu.below _ _ _ (oS zc).below O9,uY (jC ..) _ rfl 1 6 rfl,by rw[iH];omega⟩;try rw[hw10]
    clear hw10;refine kS (HK.out _ aM) ?_
   rotate_left
   focus
    have Z9:=kq Z8 (show w6.heap.size≠q by have:=R6.out.blk.lt;omega) aZ;have N10:=N1.iv n1q b3q aM;have O10:=O9;have Z10:oZ w9 (w6.heap.size+1) 6 (some ⟨w6.heap.size,0,none⟩) 1 (jj oE):=uY Z9 _ rfl 1 6 rfl;have lt10:=Z9.lt
   rotate_left;all_goals
    have a10:=ij a6 aM;have nz:=jW s2 (lZ aM);refine lH 7 ?_;obtain⟨ei,e1,e2,e3,e4⟩:=info_parts qs;refine jZ _ (.tmp 54) (.tmp 58) 63 rfl n1 73 ei _ 6 _ underlying63 e1 e2 e3 e4 rfl iI (.slice A5 J.length c5) J.length (J.flatMap jj) rfl N10.oa.own _ _ 1 1 (jj oE) rfl Z10 (hcX oE) (by unfold maxLen;omega) iu nz ?_;intro v5 w11 own5 hg5 hb5;clear e1 e2 e3 e4;obtain⟨r5,c6,rfl,hr5,hr6,N12⟩:=N10.add O10 own5 hg5 hb5;have R11:=R9.grown N10.oa.own hg5 n1q n1B;have a11:=kF a10 N10.oa.own hg5 n1q n1r;obtain⟨m1,f1,l1⟩:=N10.gat hg5;have r5q:r5≠q:=iu
    have r53:r5≠b3:=by have:=N10.b3n;omega
    have fr (j):w11.frozen? ⟨r5,j,none⟩=false:=own5.frozenAt j;have cz (j u) (hu:(jj oE)[j]?=some u):w11.cell? ⟨r5,J.length*6+j,none⟩=some u:=by
     have h1:=own5.cells (g:=r5) rfl (J.length*6+j) u (by rw[xK (by rw[show (J.flatMap jj).length=J.length*6 from pU J];omega),show (J.flatMap jj).length=J.length*6 from pU J,Nc];exact hu);rwa [yb,t_]at h1
    have z0:=cz 0 _ rfl;have z1:=cz 1 _ rfl;have z2:=cz 2 _ rfl;have z3:=cz 3 _ rfl;have z4:=cz 4 _ rfl;have z5:=cz 5 _ rfl;rw[xP]at z0;simp only[oE,txs]at z0 z1 z2 z3 z4 z5;have g0:=fr (J.length*6);have g1:=fr (J.length*6+1);have g2:=fr (J.length*6+2);have g3:=fr (J.length*6+3);have g4:=fr (J.length*6+4);have g5:=fr (J.length*6+5);have lr5:Le (r5+1) w11:=⟨hr6⟩;clear cz fr;obtain⟨W,hW,RW,aW,nW,NW⟩:∃W,(od w11 r5 (J.length*6) (.mk k9 o9 t9 z9 s9 A9 c9 xs9)).setCell ⟨b3,o,none⟩ (.slice (some ⟨r5,0,none⟩) (J.length+1) c6)=W/\Hid (Rd B q A c L en eA ec el W i9)/\ik (iz q w0) (iz q W)/\n1<=W.heap.size/\Hid (NSz n1 b3 (iD F (.slice (some ⟨r5,0,none⟩) (J.length+1) c6)) W s x o1 k1 z o (.slice (some ⟨r5,0,none⟩) (J.length+1) c6) u (J++[Tx.mk k9 o9 t9 z9 s9 A9 c9 xs9]) I):=⟨_,rfl,by unfold od;exact ((((((R11.set r5q iu _ _).set r5q iu _ _).set r5q iu _ _).set r5q iu _ _).set r5q iu _ _).set r5q iu _ _).set b3q hc.out.2.1 _ _,by unfold od;exact iJ (k:=ko hc.out.2.2.1) (h:=iJ (k:=ko iu) (h:=iJ (k:=ko iu) (h:=iJ (k:=ko iu) (h:=iJ (k:=ko iu) (h:=iJ (k:=ko iu) (h:=iJ (k:=ko iu) (h:=a11) _ _) _ _) _ _) _ _) _ _) _ _) _ _,by rw[jc,th];exact jW nz hg5.size,N12⟩;have hW2:od (w11.setCell ⟨b3,o,none⟩ (.slice (some ⟨r5,0,none⟩) (J.length+1) c6)) r5 (J.length*6) (.mk k9 o9 t9 z9 s9 A9 c9 xs9)=W:=by rw[xr _ r53];exact hW
    unfold od at hW hW2;simp only[txs]at hW hW2;replace hW:=iy hW;replace hW2:=iy hW2;replace HX:Hid (X=(iF [⟨#[59]⟩] (L.drop i9)).bind fun (_,r)=>(ox el k f (cond z ((J++[Tx.mk k9 o9 t9 z9 s9 A9 c9 xs9]).map Tx.er) (I.map Tx.er)) (cond z (I.map Tx.er) ((J++[Tx.mk k9 o9 t9 z9 s9 A9 c9 xs9]).map Tx.er)) r).bind G):=by (show _=_;rw[HX.out,s_,List.map_singleton,hx9.out];rfl)
    have x1:(J.length:Int)<(J.length:Int)+1:=iu
    have x2:¬((J.length:Int)+1<=(J.length:Int)):=iu
    have x3:(0:Int)<=(J.length:Int):=iu
    have le9:Hid (i0<=i9):=jW le6.out hi9;refine kL ?_;repeat' first
     |(refine jX (rs:=[8,10]) (by decide +kernel) iI ?_;intro i hi;simp only[la]at hi;rcases hi with rfl | rfl<;>(refine jE rfl rfl ?_;go_simp))
     |(refine jX (rs:=[9,10]) (by decide +kernel) iI ?_;intro i hi;simp only[la]at hi;rcases hi with rfl | rfl<;>(refine jE rfl rfl ?_;go_simp))
     |(refine jX (rs:=[9,11]) (by decide +kernel) iI ?_;intro i hi;simp only[la]at hi;rcases hi with rfl | rfl<;>(refine jE rfl rfl ?_;go_simp))
     |(refine jX (rs:=[8,11]) (by decide +kernel) iI ?_;intro i hi;simp only[la]at hi;rcases hi with rfl | rfl<;>(refine jE rfl rfl ?_;go_simp))
     |(refine lH 8 ?_ (by decide +kernel);go_simp)
     |(refine lH 9 ?_ (by decide +kernel);go_simp)
     |(refine lH 10 ?_ (by decide +kernel);go_simp)
     |(refine lH 11 ?_ (by decide +kernel);go_simp)
    all_goals
     first | rw[hW.out] | rw[hW2.out]
     refine iT kp ?_ _;go_wp2;go_meet;exact⟨i9,_,_,_,_,rfl,le9,hi9,HX,RW,aW,nW,NW⟩
  case rest=>
  clear HX R6 a6 s2 NS le6;obtain⟨i7,y7,F,v7,w7,rfl,le7,li7,HX,R7,a7,s7,NS⟩:=hcut;go_wp2_with fail;refine td (jH R7.out [⟨#[59]⟩] iI) HX a7 le7 ?_;clear HX;rintro w8 x8 v8 i8 rfl R8 HX le8 li8 b8 a8;replace NS:=iy (NS.out.iv n1q b3q b8);replace s7:=jW s7 (lZ b8);have y1:(J++[y7]).length=J.length+1:=by simp
  clear b8 R7 a7;go_wp2;go_roundw
  case rel=>
   cases z
   ·obtain rfl:=NS.out.ho
    exact⟨i8,f,F,_,_,I,J++[y7],le8,hI,by omega,by omega,HX,R8,a8,s7,NS.out.swap⟩
   obtain rfl:=NS.out.ho;exact⟨i8,f,F,_,_,J++[y7],I,le8,by omega,hI,by omega,HX,R8,a8,s7,NS⟩
  case measure=>(rw[je R8.out.fields.2.2.1,d1.out];omega)
 skip;replace HX:=HX.out.trans (iG (by simp;omega));unfold oD;go_wp2_with fail;exact⟨rfl,kf HX (ij (im aw0) a5) (jz a er he)⟩
end
end
end Go.Proofs.YtnigblndonocfaaGreatDoor
